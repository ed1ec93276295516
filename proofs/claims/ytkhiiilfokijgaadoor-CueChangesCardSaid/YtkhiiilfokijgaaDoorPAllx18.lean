/- Written by a program of this session: functions of the Go program as Lean functions, and the walks that tie them to it. -/
import Derived.Test.YtkhiiilfokijgaaDoorPAllx0
import Derived.Test.YtkhiiilfokijgaaDoorPAllx2
import Derived.Test.YtkhiiilfokijgaaDoorPAllx11
import Derived.Test.YtkhiiilfokijgaaDoorPAllx14
import Derived.Test.YtkhiiilfokijgaaDoorPAllx17
namespace Go.Proofs.YtkhiiilfokijgaaDoor.PAll
open Go.RowKit Go.Proofs.YtkhiiilfokijgaaDoorW.PrintWords Go.Proofs.YtkhiiilfokijgaaDoorW.PrintLast Go.Proofs.YtkhiiilfokijgaaDoorW.PrintMore
attribute [local go_sem] max2_int min2_int max_two min_two max_three min_three max_four min_four   -- for this text's walks alone
set_option linter.unusedVariables false
set_option linter.unusedSimpArgs false

attribute [local go_sem high] eqA30
/-! ### diacriticlaw23_CueChanges: function 3 -/
mutual
def diacriticlaw23_CueChanges.j0 : Nat → ByteArray → ByteArray → Bool → Option (Bool)
  | 0, _, _, _ => none
  | k + 1, x0, x1, x24 => if x24 = true then ((diacriticlaw23_awake.f k).bind fun t324 => (some t324)) else (diacriticlaw23_CueChanges.l0 k x0 x1 (x1.size : Int) 0)
def diacriticlaw23_CueChanges.l0 : Nat → ByteArray → ByteArray → Int → Int → Option (Bool)
  | 0, _, _, _, _ => none
  | k + 1, x0, x1, x27, x28 => if x28 < x27 then (if 0 ≤ x28 then (if x28 < (x1.size : Int) then (if (bt x1 x28) < 97 then ((diacriticlaw23_awake.f k).bind fun t325 => (some t325)) else (if (bt x1 x28) > 122 then ((diacriticlaw23_awake.f k).bind fun t326 => (some t326)) else (diacriticlaw23_CueChanges.l0 k x0 x1 x27 (wrap64 (x28 + 1))))) else (none)) else (none)) else ((cue_Parse.f k x0).bind fun bt327 => ((api_Fault_Bad.f bt327.2.1 bt327.2.2).bind fun t333 => (if t333 = true then ((diacriticlaw23_awake.f k).bind fun t334 => (some t334)) else (if ([] : List (S30)).length + bt327.1.length < 3518437208883 then ((some (([] : List (S30)) ++ bt327.1 : List (S30))).bind fun y335 => (diacriticlaw23_CueChanges.l1 k x1 y335 (y335.length : Int) 0)) else (none)))))
def diacriticlaw23_CueChanges.l1 : Nat → ByteArray → List (S30) → Int → Int → Option (Bool)
  | 0, _, _, _, _ => none
  | k + 1, x1, x8, x54, x55 => if x55 < x54 then (if 0 ≤ x55 then (if x55 < (x8.length : Int) then (if ((rd_T30 x8 x55).f0 = true) then (diacriticlaw23_CueChanges.l1 k x1 x8 x54 (wrap64 (x55 + 1))) else (diacriticlaw23_CueChanges.l1 k x1 (x8.set (x55 : Int).toNat (⟨(rd_T30 x8 x55).f0, (rd_T30 x8 x55).f1, x1⟩ : S30)) x54 (wrap64 (x55 + 1)))) else (none)) else (none)) else ((line_Whole.f k x8).bind fun t340 => ((cue_Parse.f k t340).bind fun bt341 => ((api_Fault_Bad.f bt341.2.1 bt341.2.2).bind fun t347 => (if t347 = true then (diacriticlaw23_CueChanges.j3 k x8 bt341.1 true) else (diacriticlaw23_CueChanges.j3 k x8 bt341.1 ((bt341.1.length : Int) != (x8.length : Int)))))))
def diacriticlaw23_CueChanges.j3 : Nat → List (S30) → List (S30) → Bool → Option (Bool)
  | 0, _, _, _ => none
  | k + 1, x8, x10, x84 => if x84 = true then (some false) else (diacriticlaw23_CueChanges.l2 k x8 x10 (x10.length : Int) 0)
def diacriticlaw23_CueChanges.l2 : Nat → List (S30) → List (S30) → Int → Int → Option (Bool)
  | 0, _, _, _, _ => none
  | k + 1, x8, x10, x86, x87 => if x87 < x86 then (if 0 ≤ x87 then (if x87 < (x10.length : Int) then (if x87 < (x8.length : Int) then (if (!(((rd_T30 x10 x87).f0) == ((rd_T30 x8 x87).f0)) || (!((((rd_T30 x10 x87).f1).toList) == (((rd_T30 x8 x87).f1).toList)) || (!((((rd_T30 x10 x87).f2).toList) == (((rd_T30 x8 x87).f2).toList))))) = true then (some false) else (diacriticlaw23_CueChanges.l2 k x8 x10 x86 (wrap64 (x87 + 1)))) else (none)) else (none)) else (none)) else ((diacriticlaw23_awake.f k).bind fun t350 => (some t350))
end
def diacriticlaw23_CueChanges.f (k : Nat) (a0 : ByteArray) (a1 : ByteArray) : Option (Bool) := if (a0.size : Int) > 500 then (diacriticlaw23_CueChanges.j0 k a0 a1 true) else (if (a1.size : Int) > 50 then (diacriticlaw23_CueChanges.j0 k a0 a1 true) else (diacriticlaw23_CueChanges.j0 k a0 a1 (a1.toList == ([] : List UInt8))))
theorem diacriticlaw23_CueChanges.mono_l : ∀ k, (∀ y0 y1 y2, LeO (diacriticlaw23_CueChanges.j0 k y0 y1 y2) (diacriticlaw23_CueChanges.j0 (k + 1) y0 y1 y2)) ∧ (∀ y0 y1 y2 y3, LeO (diacriticlaw23_CueChanges.l0 k y0 y1 y2 y3) (diacriticlaw23_CueChanges.l0 (k + 1) y0 y1 y2 y3)) ∧ (∀ y0 y1 y2 y3, LeO (diacriticlaw23_CueChanges.l1 k y0 y1 y2 y3) (diacriticlaw23_CueChanges.l1 (k + 1) y0 y1 y2 y3)) ∧ (∀ y0 y1 y2, LeO (diacriticlaw23_CueChanges.j3 k y0 y1 y2) (diacriticlaw23_CueChanges.j3 (k + 1) y0 y1 y2)) ∧ (∀ y0 y1 y2 y3, LeO (diacriticlaw23_CueChanges.l2 k y0 y1 y2 y3) (diacriticlaw23_CueChanges.l2 (k + 1) y0 y1 y2 y3))
  | 0 => ⟨fun _ _ _ r h => by simp [diacriticlaw23_CueChanges.j0] at h, fun _ _ _ _ r h => by simp [diacriticlaw23_CueChanges.l0] at h, fun _ _ _ _ r h => by simp [diacriticlaw23_CueChanges.l1] at h, fun _ _ _ r h => by simp [diacriticlaw23_CueChanges.j3] at h, fun _ _ _ _ r h => by simp [diacriticlaw23_CueChanges.l2] at h⟩
  | k + 1 => by
    obtain ⟨ih0, ih1, ih2, ih3, ih4⟩ := diacriticlaw23_CueChanges.mono_l k
    refine ⟨?_, ?_, ?_, ?_, ?_⟩
    · intro y0 y1 y2
      unfold diacriticlaw23_CueChanges.j0
      repeat' first
      | (with_reducible exact ih0 _ _ _)
      | (with_reducible exact ih1 _ _ _ _)
      | (with_reducible exact ih2 _ _ _ _)
      | (with_reducible exact ih3 _ _ _)
      | (with_reducible exact ih4 _ _ _ _)
      | (with_reducible exact cue_Parse.mono _ _)
      | (with_reducible exact diacriticlaw23_awake.mono _)
      | (with_reducible exact line_Whole.mono _ _)
      | (with_reducible exact LeO.refl _)
      | (with_reducible exact LeO.none _)
      | (with_reducible refine LeO.ite ?_ ?_)
      | (with_reducible refine LeO.bind ?_ (fun _ => ?_))
      | exact ih0 _ _ _
      | exact ih1 _ _ _ _
      | exact ih2 _ _ _ _
      | exact ih3 _ _ _
      | exact ih4 _ _ _ _
      | exact cue_Parse.mono _ _
      | exact diacriticlaw23_awake.mono _
      | exact line_Whole.mono _ _
      | exact LeO.none _
      | refine LeO.ite ?_ ?_
      | refine LeO.bind ?_ (fun _ => ?_)
    · intro y0 y1 y2 y3
      unfold diacriticlaw23_CueChanges.l0
      repeat' first
      | (with_reducible exact ih0 _ _ _)
      | (with_reducible exact ih1 _ _ _ _)
      | (with_reducible exact ih2 _ _ _ _)
      | (with_reducible exact ih3 _ _ _)
      | (with_reducible exact ih4 _ _ _ _)
      | (with_reducible exact cue_Parse.mono _ _)
      | (with_reducible exact diacriticlaw23_awake.mono _)
      | (with_reducible exact line_Whole.mono _ _)
      | (with_reducible exact LeO.refl _)
      | (with_reducible exact LeO.none _)
      | (with_reducible refine LeO.ite ?_ ?_)
      | (with_reducible refine LeO.bind ?_ (fun _ => ?_))
      | exact ih0 _ _ _
      | exact ih1 _ _ _ _
      | exact ih2 _ _ _ _
      | exact ih3 _ _ _
      | exact ih4 _ _ _ _
      | exact cue_Parse.mono _ _
      | exact diacriticlaw23_awake.mono _
      | exact line_Whole.mono _ _
      | exact LeO.none _
      | refine LeO.ite ?_ ?_
      | refine LeO.bind ?_ (fun _ => ?_)
    · intro y0 y1 y2 y3
      unfold diacriticlaw23_CueChanges.l1
      repeat' first
      | (with_reducible exact ih0 _ _ _)
      | (with_reducible exact ih1 _ _ _ _)
      | (with_reducible exact ih2 _ _ _ _)
      | (with_reducible exact ih3 _ _ _)
      | (with_reducible exact ih4 _ _ _ _)
      | (with_reducible exact cue_Parse.mono _ _)
      | (with_reducible exact diacriticlaw23_awake.mono _)
      | (with_reducible exact line_Whole.mono _ _)
      | (with_reducible exact LeO.refl _)
      | (with_reducible exact LeO.none _)
      | (with_reducible refine LeO.ite ?_ ?_)
      | (with_reducible refine LeO.bind ?_ (fun _ => ?_))
      | exact ih0 _ _ _
      | exact ih1 _ _ _ _
      | exact ih2 _ _ _ _
      | exact ih3 _ _ _
      | exact ih4 _ _ _ _
      | exact cue_Parse.mono _ _
      | exact diacriticlaw23_awake.mono _
      | exact line_Whole.mono _ _
      | exact LeO.none _
      | refine LeO.ite ?_ ?_
      | refine LeO.bind ?_ (fun _ => ?_)
    · intro y0 y1 y2
      unfold diacriticlaw23_CueChanges.j3
      repeat' first
      | (with_reducible exact ih0 _ _ _)
      | (with_reducible exact ih1 _ _ _ _)
      | (with_reducible exact ih2 _ _ _ _)
      | (with_reducible exact ih3 _ _ _)
      | (with_reducible exact ih4 _ _ _ _)
      | (with_reducible exact cue_Parse.mono _ _)
      | (with_reducible exact diacriticlaw23_awake.mono _)
      | (with_reducible exact line_Whole.mono _ _)
      | (with_reducible exact LeO.refl _)
      | (with_reducible exact LeO.none _)
      | (with_reducible refine LeO.ite ?_ ?_)
      | (with_reducible refine LeO.bind ?_ (fun _ => ?_))
      | exact ih0 _ _ _
      | exact ih1 _ _ _ _
      | exact ih2 _ _ _ _
      | exact ih3 _ _ _
      | exact ih4 _ _ _ _
      | exact cue_Parse.mono _ _
      | exact diacriticlaw23_awake.mono _
      | exact line_Whole.mono _ _
      | exact LeO.none _
      | refine LeO.ite ?_ ?_
      | refine LeO.bind ?_ (fun _ => ?_)
    · intro y0 y1 y2 y3
      unfold diacriticlaw23_CueChanges.l2
      repeat' first
      | (with_reducible exact ih0 _ _ _)
      | (with_reducible exact ih1 _ _ _ _)
      | (with_reducible exact ih2 _ _ _ _)
      | (with_reducible exact ih3 _ _ _)
      | (with_reducible exact ih4 _ _ _ _)
      | (with_reducible exact cue_Parse.mono _ _)
      | (with_reducible exact diacriticlaw23_awake.mono _)
      | (with_reducible exact line_Whole.mono _ _)
      | (with_reducible exact LeO.refl _)
      | (with_reducible exact LeO.none _)
      | (with_reducible refine LeO.ite ?_ ?_)
      | (with_reducible refine LeO.bind ?_ (fun _ => ?_))
      | exact ih0 _ _ _
      | exact ih1 _ _ _ _
      | exact ih2 _ _ _ _
      | exact ih3 _ _ _
      | exact ih4 _ _ _ _
      | exact cue_Parse.mono _ _
      | exact diacriticlaw23_awake.mono _
      | exact line_Whole.mono _ _
      | exact LeO.none _
      | refine LeO.ite ?_ ?_
      | refine LeO.bind ?_ (fun _ => ?_)
theorem diacriticlaw23_CueChanges.mono : ∀ a0 a1 k, LeO (diacriticlaw23_CueChanges.f k a0 a1) (diacriticlaw23_CueChanges.f (k + 1) a0 a1) := by
  intro a0 a1 k
  obtain ⟨ih0, ih1, ih2, ih3, ih4⟩ := diacriticlaw23_CueChanges.mono_l k
  unfold diacriticlaw23_CueChanges.f
  repeat' first
      | (with_reducible exact ih0 _ _ _)
      | (with_reducible exact ih1 _ _ _ _)
      | (with_reducible exact ih2 _ _ _ _)
      | (with_reducible exact ih3 _ _ _)
      | (with_reducible exact ih4 _ _ _ _)
      | (with_reducible exact cue_Parse.mono _ _)
      | (with_reducible exact diacriticlaw23_awake.mono _)
      | (with_reducible exact line_Whole.mono _ _)
      | (with_reducible exact LeO.refl _)
      | (with_reducible exact LeO.none _)
      | (with_reducible refine LeO.ite ?_ ?_)
      | (with_reducible refine LeO.bind ?_ (fun _ => ?_))
      | exact ih0 _ _ _
      | exact ih1 _ _ _ _
      | exact ih2 _ _ _ _
      | exact ih3 _ _ _
      | exact ih4 _ _ _ _
      | exact cue_Parse.mono _ _
      | exact diacriticlaw23_awake.mono _
      | exact line_Whole.mono _ _
      | exact LeO.none _
      | refine LeO.ite ?_ ?_
      | refine LeO.bind ?_ (fun _ => ?_)
set_option maxHeartbeats 8000000 in
set_option maxRecDepth 100000 in
theorem diacriticlaw23_CueChanges.calls (k : Nat) (a0 : ByteArray) (a1 : ByteArray) (r : Bool) (w : World) (hG : GM w) (h : diacriticlaw23_CueChanges.f k a0 a1 = some r) :
    Calls Tryd.prog 3 #[.string a0, .string a1] w fun e w' => e = .returned (.bool r) ∧ Below w.heap.size w w' := by
  have hu26 := Tryd.underlying26
  have hu30 := Tryd.underlying30
  have HB := Aside0.mk (Below.refl w.heap.size w)
  have HG := Aside0.mk hG
  clear hG
  have H : (if (a0.size : Int) > 500 then (diacriticlaw23_CueChanges.j0 k a0 a1 true) else (if (a1.size : Int) > 50 then (diacriticlaw23_CueChanges.j0 k a0 a1 true) else (diacriticlaw23_CueChanges.j0 k a0 a1 (a1.toList == ([] : List UInt8))))) = some r := h
  clear h
  have HC3 := Aside0.mk H
  clear H
  go_enter Tryd.func3, Tryd.ntmps3
  go_upto_region 1 with (fail)
  repeat (go_quiet (fail); go_upto_region 1 with (fail))
  go_cut [24] (fun v24 wc => ∃ (kq : Nat) (x24_2 : Bool), v24 = .bool x24_2 ∧ Aside0 (diacriticlaw23_CueChanges.j0 kq a0 a1 x24_2 = some r) ∧ Aside0 (kq ≤ k) ∧ Aside0 (Below w.heap.size w wc))
  case first =>
    have H := HC3.out
    clear HC3
    by_cases c4 : (a0.size : Int) > 500
    · rw [if_pos c4] at H
      have c4b0 : decide (500 < (a0.size : Int)) = true := decide_eq_true c4
      have c4b1 : decide (500 < a0.size) = true := decide_eq_true (by omega)
      clear c4
      (first | rw [c4b0] | (simp only [i64_w, i32_w]; rw [c4b0]) | skip)
      have H' := Aside0.mk H
      clear H
      go_wp2
      repeat (go_quiet (fail); try go_wp2)
      go_meet
      case rel => exact ⟨_, (true), q_5, H', ⟨by first | omega | exact Nat.le_refl _⟩, ⟨q_1⟩⟩
    · rw [if_neg c4] at H
      have c4b0 : decide (500 < (a0.size : Int)) = false := decide_eq_false c4
      have c4b1 : decide (500 < a0.size) = false := decide_eq_false (by omega)
      clear c4
      (first | rw [c4b0] | (simp only [i64_w, i32_w]; rw [c4b0]) | skip)
      by_cases c5 : (a1.size : Int) > 50
      · rw [if_pos c5] at H
        have c5b0 : decide (50 < (a1.size : Int)) = true := decide_eq_true c5
        have c5b1 : decide (50 < a1.size) = true := decide_eq_true (by omega)
        clear c5
        have H' := Aside0.mk H
        clear H
        go_wp2
        repeat (go_quiet (fail); try go_wp2)
        go_meet
        case rel => exact ⟨_, (true), q_5, H', ⟨by first | omega | exact Nat.le_refl _⟩, ⟨q_1⟩⟩
      · rw [if_neg c5] at H
        have c5b0 : decide (50 < (a1.size : Int)) = false := decide_eq_false c5
        have c5b1 : decide (50 < a1.size) = false := decide_eq_false (by omega)
        clear c5
        have H' := Aside0.mk H
        clear H
        go_wp2
        repeat (go_quiet (fail); try go_wp2)
        go_meet
        case rel => exact ⟨_, ((a1.toList == ([] : List UInt8))), q_5, H', ⟨by first | omega | exact Nat.le_refl _⟩, ⟨q_1⟩⟩
  case rest =>
    clear HC3
    try clear p2; try clear c3; try clear c4; try clear c4b0; try clear c4b1; try clear c5; try clear c5b0; try clear c5b1
    obtain ⟨kq, x24_2, rfl, HA, HJ2, HB⟩ := hcut
    cases kq with
    | zero => exact absurd HA.out (by simp [diacriticlaw23_CueChanges.j0])
    | succ kj2 =>
      have H := HA.out
      clear HA
      simp only [diacriticlaw23_CueChanges.j0] at H
      by_cases c6 : x24_2 = true
      · subst c6
        have H1 : ((diacriticlaw23_awake.f kj2).bind fun t324 => (some t324)) = some r := by rw [if_pos rfl] at H; exact H
        clear H
        have H := H1
        clear H1
        replace H := Option.bind_eq_some_iff.mp H
        obtain ⟨t324, A70, H⟩ := H
        replace H : (some t324) = some r := H
        have A7 := Aside0.mk A70
        clear A70
        obtain rfl := Option.some.inj H
        go_wp2_with (first | (go_at_call 9; (with_reducible refine (diacriticlaw23_awake.calls kj2  t324 _ (GM.below HG.out q_1) A7.out).mono ?_); rintro e w8 ⟨rfl, hb⟩; have n0_ := Aside0.mk (below_step q_1 hb); clear HB; have HB := n0_; clear n0_; (try clear hb); (try clear hb2); (try clear hk); (try clear hi)))
        repeat (go_quiet (first | (go_at_call 9; (with_reducible refine (diacriticlaw23_awake.calls kj2  t324 _ (GM.below HG.out q_1) A7.out).mono ?_); rintro e w8 ⟨rfl, hb⟩; have n0_ := Aside0.mk (below_step q_1 hb); clear HB; have HB := n0_; clear n0_; (try clear hb); (try clear hb2); (try clear hk); (try clear hi))); try go_wp2_with (first | (go_at_call 9; (with_reducible refine (diacriticlaw23_awake.calls kj2  t324 _ (GM.below HG.out q_1) A7.out).mono ?_); rintro e w8 ⟨rfl, hb⟩; have n0_ := Aside0.mk (below_step q_1 hb); clear HB; have HB := n0_; clear n0_; (try clear hb); (try clear hb2); (try clear hk); (try clear hi))))
        go_ret
        exact ⟨q_10, q_1⟩
      · replace c6 := Bool.eq_false_iff.mpr c6
        subst c6
        have H1 : (diacriticlaw23_CueChanges.l0 kj2 a0 a1 (a1.size : Int) 0) = some r := by rw [if_neg (show ¬ (false = true) by decide)] at H; exact H
        clear H
        have H := H1
        clear H1
        have H' := Aside0.mk H
        clear H
        go_wp2
        repeat (go_quiet (fail); try go_wp2)
        go_loopg [28] kj2 (fun kq v28 w' => ∃ (x28_2 : Int), v28 = .int .i64 x28_2 ∧ Aside0 (diacriticlaw23_CueChanges.l0 kq a0 a1 (a1.size : Int) x28_2 = some r) ∧ Aside0 (kq ≤ kj2) ∧ Aside0 (Below w.heap.size w w'))
        case atStart => exact ⟨(0), q_5, H', ⟨Nat.le_refl _⟩, ⟨q_1⟩⟩
        case round =>
          clear H'
          try clear p2; try clear c3; try clear c4; try clear c4b0; try clear c4b1; try clear c5; try clear c5b0; try clear c5b1; try clear c6; try clear p2
          obtain ⟨x28_2, rfl, HA, HK2, HB⟩ := hrel
          cases gk with
          | zero => exact absurd HA.out (by simp [diacriticlaw23_CueChanges.l0])
          | succ k2 =>
            have H := HA.out
            clear HA
            simp only [diacriticlaw23_CueChanges.l0] at H
            by_cases c9 : x28_2 < (a1.size : Int)
            · rw [if_pos c9] at H
              have c9b0 : decide (x28_2 < (a1.size : Int)) = true := decide_eq_true c9
              clear c9
              by_cases c10 : 0 ≤ x28_2
              · rw [if_pos c10] at H
                have c10b0 : decide (0 ≤ x28_2) = true := decide_eq_true c10
                clear c10
                by_cases c11 : x28_2 < (a1.size : Int)
                · rw [if_pos c11] at H
                  have c11b0 : decide (x28_2 < (a1.size : Int)) = true := decide_eq_true c11
                  clear c11
                  by_cases c13 : (bt a1 x28_2) < 97
                  · rw [if_pos c13] at H
                    have c13b0 : decide ((bt a1 x28_2) < 97) = true := decide_eq_true c13
                    clear c13
                    replace H := Option.bind_eq_some_iff.mp H
                    obtain ⟨t325, A140, H⟩ := H
                    replace H : (some t325) = some r := H
                    have A14 := Aside0.mk A140
                    clear A140
                    obtain rfl := Option.some.inj H
                    have p12 : 0 ≤ (x28_2 : Int) := of_decide_eq_true q_6
                    have q12 : x28_2 < (a1.size : Int) := of_decide_eq_true q_6
                    have hx12 := bt_at a1 x28_2
                    replace p12 := eq_true p12
                    replace q12 := eq_true q12
                    go_wp2_with (first | (go_at_call 9; (with_reducible refine (diacriticlaw23_awake.calls k2  t325 _ (GM.below HG.out q_1) A14.out).mono ?_); rintro e w15 ⟨rfl, hb⟩; have n0_ := Aside0.mk (below_step q_1 hb); clear HB; have HB := n0_; clear n0_; (try clear hb); (try clear hb2); (try clear hk); (try clear hi)))
                    repeat (go_quiet (first | (go_at_call 9; (with_reducible refine (diacriticlaw23_awake.calls k2  t325 _ (GM.below HG.out q_1) A14.out).mono ?_); rintro e w15 ⟨rfl, hb⟩; have n0_ := Aside0.mk (below_step q_1 hb); clear HB; have HB := n0_; clear n0_; (try clear hb); (try clear hb2); (try clear hk); (try clear hi))); try go_wp2_with (first | (go_at_call 9; (with_reducible refine (diacriticlaw23_awake.calls k2  t325 _ (GM.below HG.out q_1) A14.out).mono ?_); rintro e w15 ⟨rfl, hb⟩; have n0_ := Aside0.mk (below_step q_1 hb); clear HB; have HB := n0_; clear n0_; (try clear hb); (try clear hb2); (try clear hk); (try clear hi))))
                    go_ret
                    exact ⟨q_10, q_1⟩
                  · rw [if_neg c13] at H
                    have c13b0 : decide ((bt a1 x28_2) < 97) = false := decide_eq_false c13
                    clear c13
                    by_cases c17 : (bt a1 x28_2) > 122
                    · rw [if_pos c17] at H
                      have c17b0 : decide (122 < (bt a1 x28_2)) = true := decide_eq_true c17
                      clear c17
                      replace H := Option.bind_eq_some_iff.mp H
                      obtain ⟨t326, A180, H⟩ := H
                      replace H : (some t326) = some r := H
                      have A18 := Aside0.mk A180
                      clear A180
                      obtain rfl := Option.some.inj H
                      have p12 : 0 ≤ (x28_2 : Int) := of_decide_eq_true q_6
                      have q12 : x28_2 < (a1.size : Int) := of_decide_eq_true q_6
                      have hx12 := bt_at a1 x28_2
                      replace p12 := eq_true p12
                      replace q12 := eq_true q12
                      have p16 : 0 ≤ (x28_2 : Int) := of_decide_eq_true q_6
                      have q16 : x28_2 < (a1.size : Int) := of_decide_eq_true q_6
                      have hx16 := bt_at a1 x28_2
                      replace p16 := eq_true p16
                      replace q16 := eq_true q16
                      go_wp2_with (first | (go_at_call 9; (with_reducible refine (diacriticlaw23_awake.calls k2  t326 _ (GM.below HG.out q_1) A18.out).mono ?_); rintro e w19 ⟨rfl, hb⟩; have n0_ := Aside0.mk (below_step q_1 hb); clear HB; have HB := n0_; clear n0_; (try clear hb); (try clear hb2); (try clear hk); (try clear hi)))
                      repeat (go_quiet (first | (go_at_call 9; (with_reducible refine (diacriticlaw23_awake.calls k2  t326 _ (GM.below HG.out q_1) A18.out).mono ?_); rintro e w19 ⟨rfl, hb⟩; have n0_ := Aside0.mk (below_step q_1 hb); clear HB; have HB := n0_; clear n0_; (try clear hb); (try clear hb2); (try clear hk); (try clear hi))); try go_wp2_with (first | (go_at_call 9; (with_reducible refine (diacriticlaw23_awake.calls k2  t326 _ (GM.below HG.out q_1) A18.out).mono ?_); rintro e w19 ⟨rfl, hb⟩; have n0_ := Aside0.mk (below_step q_1 hb); clear HB; have HB := n0_; clear n0_; (try clear hb); (try clear hb2); (try clear hk); (try clear hi))))
                      go_ret
                      exact ⟨q_10, q_1⟩
                    · rw [if_neg c17] at H
                      have c17b0 : decide (122 < (bt a1 x28_2)) = false := decide_eq_false c17
                      clear c17
                      have H' := Aside0.mk H
                      clear H
                      have p12 : 0 ≤ (x28_2 : Int) := of_decide_eq_true q_6
                      have q12 : x28_2 < (a1.size : Int) := of_decide_eq_true q_6
                      have hx12 := bt_at a1 x28_2
                      replace p12 := eq_true p12
                      replace q12 := eq_true q12
                      have p16 : 0 ≤ (x28_2 : Int) := of_decide_eq_true q_6
                      have q16 : x28_2 < (a1.size : Int) := of_decide_eq_true q_6
                      have hx16 := bt_at a1 x28_2
                      replace p16 := eq_true p16
                      replace q16 := eq_true q16
                      go_wp2
                      repeat (go_quiet (fail); try go_wp2)
                      go_roundg k2
                      case measure => have := HJ2.out; have := HK2.out; omega
                      case rel => exact ⟨(wrap64 (x28_2 + 1)), q_5, H', ⟨by have := HJ2.out; have := HK2.out; omega⟩, ⟨q_1⟩⟩
                · rw [if_neg c11] at H
                  exact absurd H (by simp)
              · rw [if_neg c10] at H
                exact absurd H (by simp)
            · rw [if_neg c9] at H
              have c9b0 : decide (x28_2 < (a1.size : Int)) = false := decide_eq_false c9
              clear c9
              replace H := Option.bind_eq_some_iff.mp H
              obtain ⟨⟨t327, t330, t331⟩, A200, H⟩ := H
              replace H : ((api_Fault_Bad.f t330 t331).bind fun t333 => (if t333 = true then ((diacriticlaw23_awake.f k2).bind fun t334 => (some t334)) else (if ([] : List (S30)).length + t327.length < 3518437208883 then ((some (([] : List (S30)) ++ t327 : List (S30))).bind fun y335 => (diacriticlaw23_CueChanges.l1 k2 a1 y335 (y335.length : Int) 0)) else (none)))) = some r := H
              have A20 := Aside0.mk A200
              clear A200
              replace H := Option.bind_eq_some_iff.mp H
              obtain ⟨t333, A210, H⟩ := H
              replace H : (if t333 = true then ((diacriticlaw23_awake.f k2).bind fun t334 => (some t334)) else (if ([] : List (S30)).length + t327.length < 3518437208883 then ((some (([] : List (S30)) ++ t327 : List (S30))).bind fun y335 => (diacriticlaw23_CueChanges.l1 k2 a1 y335 (y335.length : Int) 0)) else (none))) = some r := H
              have A21 := Aside0.mk A210
              clear A210
              by_cases c22 : t333 = true
              · subst c22
                have H1 : ((diacriticlaw23_awake.f k2).bind fun t334 => (some t334)) = some r := by rw [if_pos rfl] at H; exact H
                clear H
                have H := H1
                clear H1
                replace H := Option.bind_eq_some_iff.mp H
                obtain ⟨t334, A230, H⟩ := H
                replace H : (some t334) = some r := H
                have A23 := Aside0.mk A230
                clear A230
                obtain rfl := Option.some.inj H
                go_wp2_with (first | (go_at_call 10; (with_reducible refine (cue_Parse.calls k2 a0 t327 t330 t331 _ (GM.below HG.out q_1) A20.out).mono ?_); rintro e w24 ⟨v328, rfl, ho0, hb⟩; have n0_ := Aside0.mk (Kd.R_lower ho0 (below_size q_1)); have n1_ := Aside0.mk (below_step q_1 hb); clear HB; have HO329 := n0_; have HB := n1_; clear n0_ n1_; (try clear hb); (try clear hb2); (try clear hk); (try clear hi); (try clear ho0)) | ((with_reducible refine gate_dst (N := 7) rfl ?_); (try (refine gate_guard (by rfl) ?_; dsimp only)); refine box_event ?hg (N := 7) ?hd (cs := #[.int .i64 0, .int .i64 0]) (t := 26) ?hr ?_; (case hd => rfl); (case hg => rfl); (case hr => first | (go_simp; done) | (go_simp; rfl)); intro gb332 hg w25 hbox hb; have n0_ := Aside0.mk (Kd.R_below q_63 hb); have n1_ := Aside0.mk (below_step q_1 hb); have n2_ := Aside0.mk (hbox); have n3_ := Aside0.mk ((by rw [hg]; exact (below_size q_1) : w.heap.size ≤ gb332)); have n4_ := Aside0.mk ((by rw [hg]; exact (below_size q_1) : w.heap.size ≤ gb332)); clear HO329; clear HB; have HO329 := n0_; have HB := n1_; have BK332 := n2_; have GW332 := n3_; have GE332 := n4_; clear n0_ n1_ n2_ n3_ n4_; clear hb hbox hg; obtain ⟨hcz26_0, hcz26_1, hfz26_0, hfz26_1⟩ := cells2_ BK332.out) | (go_at_call 11; (with_reducible refine (api_Fault_Bad.calls t330 t331 true _ A21.out).mono ?_); rintro e w27 ⟨rfl, hb⟩; have n0_ := Aside0.mk (Kd.R_below q_64 hb); have n1_ := Aside0.mk (blk_below (g := gb332) (o := .cells #[.int .i64 t330, .int .i64 t331] 26 (0, 0)) q_65 hb); have n2_ := Aside0.mk (below_step q_66 hb); clear HO329; clear BK332; clear HB; have HO329 := n0_; have BK332 := n1_; have HB := n2_; clear n0_ n1_ n2_; (try clear hb); (try clear hb2); (try clear hk); (try clear hi)) | (go_at_call 9; (with_reducible refine (diacriticlaw23_awake.calls k2  t334 _ (GM.below HG.out q_66) A23.out).mono ?_); rintro e w28 ⟨rfl, hb⟩; have n0_ := Aside0.mk (Kd.R_below q_63 hb); have n1_ := Aside0.mk (blk_below (g := gb332) (o := .cells #[.int .i64 t330, .int .i64 t331] 26 (0, 0)) q_67 hb); have n2_ := Aside0.mk (below_step q_66 hb); clear HO329; clear BK332; clear HB; have HO329 := n0_; have BK332 := n1_; have HB := n2_; clear n0_ n1_ n2_; (try clear hb); (try clear hb2); (try clear hk); (try clear hi)))
                repeat (go_quiet (first | (go_at_call 10; (with_reducible refine (cue_Parse.calls k2 a0 t327 t330 t331 _ (GM.below HG.out q_1) A20.out).mono ?_); rintro e w24 ⟨v328, rfl, ho0, hb⟩; have n0_ := Aside0.mk (Kd.R_lower ho0 (below_size q_1)); have n1_ := Aside0.mk (below_step q_1 hb); clear HB; have HO329 := n0_; have HB := n1_; clear n0_ n1_; (try clear hb); (try clear hb2); (try clear hk); (try clear hi); (try clear ho0)) | ((with_reducible refine gate_dst (N := 7) rfl ?_); (try (refine gate_guard (by rfl) ?_; dsimp only)); refine box_event ?hg (N := 7) ?hd (cs := #[.int .i64 0, .int .i64 0]) (t := 26) ?hr ?_; (case hd => rfl); (case hg => rfl); (case hr => first | (go_simp; done) | (go_simp; rfl)); intro gb332 hg w25 hbox hb; have n0_ := Aside0.mk (Kd.R_below q_63 hb); have n1_ := Aside0.mk (below_step q_1 hb); have n2_ := Aside0.mk (hbox); have n3_ := Aside0.mk ((by rw [hg]; exact (below_size q_1) : w.heap.size ≤ gb332)); have n4_ := Aside0.mk ((by rw [hg]; exact (below_size q_1) : w.heap.size ≤ gb332)); clear HO329; clear HB; have HO329 := n0_; have HB := n1_; have BK332 := n2_; have GW332 := n3_; have GE332 := n4_; clear n0_ n1_ n2_ n3_ n4_; clear hb hbox hg; obtain ⟨hcz26_0, hcz26_1, hfz26_0, hfz26_1⟩ := cells2_ BK332.out) | (go_at_call 11; (with_reducible refine (api_Fault_Bad.calls t330 t331 true _ A21.out).mono ?_); rintro e w27 ⟨rfl, hb⟩; have n0_ := Aside0.mk (Kd.R_below q_64 hb); have n1_ := Aside0.mk (blk_below (g := gb332) (o := .cells #[.int .i64 t330, .int .i64 t331] 26 (0, 0)) q_65 hb); have n2_ := Aside0.mk (below_step q_66 hb); clear HO329; clear BK332; clear HB; have HO329 := n0_; have BK332 := n1_; have HB := n2_; clear n0_ n1_ n2_; (try clear hb); (try clear hb2); (try clear hk); (try clear hi)) | (go_at_call 9; (with_reducible refine (diacriticlaw23_awake.calls k2  t334 _ (GM.below HG.out q_66) A23.out).mono ?_); rintro e w28 ⟨rfl, hb⟩; have n0_ := Aside0.mk (Kd.R_below q_63 hb); have n1_ := Aside0.mk (blk_below (g := gb332) (o := .cells #[.int .i64 t330, .int .i64 t331] 26 (0, 0)) q_67 hb); have n2_ := Aside0.mk (below_step q_66 hb); clear HO329; clear BK332; clear HB; have HO329 := n0_; have BK332 := n1_; have HB := n2_; clear n0_ n1_ n2_; (try clear hb); (try clear hb2); (try clear hk); (try clear hi))); try go_wp2_with (first | (go_at_call 10; (with_reducible refine (cue_Parse.calls k2 a0 t327 t330 t331 _ (GM.below HG.out q_1) A20.out).mono ?_); rintro e w24 ⟨v328, rfl, ho0, hb⟩; have n0_ := Aside0.mk (Kd.R_lower ho0 (below_size q_1)); have n1_ := Aside0.mk (below_step q_1 hb); clear HB; have HO329 := n0_; have HB := n1_; clear n0_ n1_; (try clear hb); (try clear hb2); (try clear hk); (try clear hi); (try clear ho0)) | ((with_reducible refine gate_dst (N := 7) rfl ?_); (try (refine gate_guard (by rfl) ?_; dsimp only)); refine box_event ?hg (N := 7) ?hd (cs := #[.int .i64 0, .int .i64 0]) (t := 26) ?hr ?_; (case hd => rfl); (case hg => rfl); (case hr => first | (go_simp; done) | (go_simp; rfl)); intro gb332 hg w25 hbox hb; have n0_ := Aside0.mk (Kd.R_below q_63 hb); have n1_ := Aside0.mk (below_step q_1 hb); have n2_ := Aside0.mk (hbox); have n3_ := Aside0.mk ((by rw [hg]; exact (below_size q_1) : w.heap.size ≤ gb332)); have n4_ := Aside0.mk ((by rw [hg]; exact (below_size q_1) : w.heap.size ≤ gb332)); clear HO329; clear HB; have HO329 := n0_; have HB := n1_; have BK332 := n2_; have GW332 := n3_; have GE332 := n4_; clear n0_ n1_ n2_ n3_ n4_; clear hb hbox hg; obtain ⟨hcz26_0, hcz26_1, hfz26_0, hfz26_1⟩ := cells2_ BK332.out) | (go_at_call 11; (with_reducible refine (api_Fault_Bad.calls t330 t331 true _ A21.out).mono ?_); rintro e w27 ⟨rfl, hb⟩; have n0_ := Aside0.mk (Kd.R_below q_64 hb); have n1_ := Aside0.mk (blk_below (g := gb332) (o := .cells #[.int .i64 t330, .int .i64 t331] 26 (0, 0)) q_65 hb); have n2_ := Aside0.mk (below_step q_66 hb); clear HO329; clear BK332; clear HB; have HO329 := n0_; have BK332 := n1_; have HB := n2_; clear n0_ n1_ n2_; (try clear hb); (try clear hb2); (try clear hk); (try clear hi)) | (go_at_call 9; (with_reducible refine (diacriticlaw23_awake.calls k2  t334 _ (GM.below HG.out q_66) A23.out).mono ?_); rintro e w28 ⟨rfl, hb⟩; have n0_ := Aside0.mk (Kd.R_below q_63 hb); have n1_ := Aside0.mk (blk_below (g := gb332) (o := .cells #[.int .i64 t330, .int .i64 t331] 26 (0, 0)) q_67 hb); have n2_ := Aside0.mk (below_step q_66 hb); clear HO329; clear BK332; clear HB; have HO329 := n0_; have BK332 := n1_; have HB := n2_; clear n0_ n1_ n2_; (try clear hb); (try clear hb2); (try clear hk); (try clear hi))))
                go_ret
                exact ⟨q_10, q_66⟩
              · replace c22 := Bool.eq_false_iff.mpr c22
                subst c22
                have H1 : (if ([] : List (S30)).length + t327.length < 3518437208883 then ((some (([] : List (S30)) ++ t327 : List (S30))).bind fun y335 => (diacriticlaw23_CueChanges.l1 k2 a1 y335 (y335.length : Int) 0)) else (none)) = some r := by rw [if_neg (show ¬ (false = true) by decide)] at H; exact H
                clear H
                have H := H1
                clear H1
                by_cases c29 : ([] : List (S30)).length + t327.length < 3518437208883
                · rw [if_pos c29] at H
                  have LMc29 := Aside0.mk c29
                  clear c29
                  obtain ⟨y335, hy335⟩ : ∃ y_ : List (S30), y_ = (([] : List (S30)) ++ t327) := ⟨_, rfl⟩
                  replace H : (diacriticlaw23_CueChanges.l1 k2 a1 y335 (y335.length : Int) 0) = some r := by first | (rw [hy335]; with_reducible exact H) | (have H2_ := (Option.bind_some _ _).symm.trans H; rw [hy335]; with_reducible exact H2_) | (have H2_ := (Option.bind_some _ _).symm.trans H; with_reducible exact H2_) | with_reducible exact H | (rw [hy335]; exact H) | exact H
                  have Ny335 := Aside0.mk hy335
                  clear hy335
                  have H' := Aside0.mk H
                  clear H
                  go_wp2_with (first | (go_at_call 10; (with_reducible refine (cue_Parse.calls k2 a0 t327 t330 t331 _ (GM.below HG.out q_1) A20.out).mono ?_); rintro e w30 ⟨v328, rfl, ho0, hb⟩; have n0_ := Aside0.mk (Kd.R_lower ho0 (below_size q_1)); have n1_ := Aside0.mk (below_step q_1 hb); clear HB; have HO329 := n0_; have HB := n1_; clear n0_ n1_; (try clear hb); (try clear hb2); (try clear hk); (try clear hi); (try clear ho0)) | ((with_reducible refine gate_dst (N := 7) rfl ?_); (try (refine gate_guard (by rfl) ?_; dsimp only)); refine box_event ?hg (N := 7) ?hd (cs := #[.int .i64 0, .int .i64 0]) (t := 26) ?hr ?_; (case hd => rfl); (case hg => rfl); (case hr => first | (go_simp; done) | (go_simp; rfl)); intro gb332 hg w31 hbox hb; have n0_ := Aside0.mk (Kd.R_below q_63 hb); have n1_ := Aside0.mk (below_step q_1 hb); have n2_ := Aside0.mk (hbox); have n3_ := Aside0.mk ((by rw [hg]; exact (below_size q_1) : w.heap.size ≤ gb332)); have n4_ := Aside0.mk ((by rw [hg]; exact (below_size q_1) : w.heap.size ≤ gb332)); clear HO329; clear HB; have HO329 := n0_; have HB := n1_; have BK332 := n2_; have GW332 := n3_; have GE332 := n4_; clear n0_ n1_ n2_ n3_ n4_; clear hb hbox hg; obtain ⟨hcz32_0, hcz32_1, hfz32_0, hfz32_1⟩ := cells2_ BK332.out) | (go_at_call 11; (with_reducible refine (api_Fault_Bad.calls t330 t331 false _ A21.out).mono ?_); rintro e w33 ⟨rfl, hb⟩; have n0_ := Aside0.mk (Kd.R_below q_64 hb); have n1_ := Aside0.mk (blk_below (g := gb332) (o := .cells #[.int .i64 t330, .int .i64 t331] 26 (0, 0)) q_65 hb); have n2_ := Aside0.mk (below_step q_66 hb); clear HO329; clear BK332; clear HB; have HO329 := n0_; have BK332 := n1_; have HB := n2_; clear n0_ n1_ n2_; (try clear hb); (try clear hb2); (try clear hk); (try clear hi); obtain ⟨Ao35, co35, eo35⟩ := Kd.R_slice HO329.out; subst eo35) | ((with_reducible refine gate_builtin (b := .append) (xs := #[.const (.slice none 0 0), .tmp 51]) rfl ?_); (try (refine gate_guard (by rfl) ?_; dsimp only)); at_builtin; refine Kd.R_append_rows k30 (w0 := w) w.heap.size rfl (.const (.slice none 0 0)) (.tmp 51) 23 30 (.agg #[(.bool false), (.string ⟨#[]⟩), (.string ⟨#[]⟩)]) 40 rfl Tryd.underlying23 info30 rfl (by decide) (by omega) (.slice none 0 0) ([] : List (S30)) t327 _ _ _ (fun k_ => some k_ ≠ (.slice Ao35 t327.length co35 : Value).ownBlock) (fun _ => False) rfl rfl ?aO ?aR (fun _ _ h => h) (fun _ h => h.elim) ?aF ?aB ?aS ?aL ?_; (case aR => repeat (first | exact (Kd.R_reads' HO329.out).2.2 | (with_reducible refine Kd.C_alloc ?_ _) | (with_reducible refine Kd.C_drewN ?_ _) | (with_reducible refine Kd.C_drew ?_))); (case aB => exact q_66); (case aF => exact (fun k_ hk => Kd.fresh' (Kd.R_lt q_63) k_ hk)); (case aO => exact ((Kd.R_nil _ _ _ _ (fun k_ => some k_ ≠ (.slice Ao35 t327.length co35 : Value).ownBlock)))); (case aS => exact (below_size q_66)); (case aL => have := LMc29.out; omega); intro v336 w34 ho hb hg hat; rw [← Ny335.out] at ho; have n0_ := Aside0.mk (Kd.R_after (Kd.R_apart_nil q_63) hg hat); have n1_ := Aside0.mk (blk_grown (g := gb332) (o := .cells #[.int .i64 t330, .int .i64 t331] 26 (0, 0)) q_67 hg (by simp [Value.ownBlock])); have n2_ := Aside0.mk (hb); have n3_ := Aside0.mk (ho); clear HO329; clear BK332; clear HB; have HO329 := n0_; have BK332 := n1_; have HB := n2_; have HO337 := n3_; clear n0_ n1_ n2_ n3_; clear ho hb hg hat; obtain ⟨Ao36, co36, eo36⟩ := Kd.R_slice HO337.out; subst eo36))
                  repeat (go_quiet (first | (go_at_call 10; (with_reducible refine (cue_Parse.calls k2 a0 t327 t330 t331 _ (GM.below HG.out q_1) A20.out).mono ?_); rintro e w30 ⟨v328, rfl, ho0, hb⟩; have n0_ := Aside0.mk (Kd.R_lower ho0 (below_size q_1)); have n1_ := Aside0.mk (below_step q_1 hb); clear HB; have HO329 := n0_; have HB := n1_; clear n0_ n1_; (try clear hb); (try clear hb2); (try clear hk); (try clear hi); (try clear ho0)) | ((with_reducible refine gate_dst (N := 7) rfl ?_); (try (refine gate_guard (by rfl) ?_; dsimp only)); refine box_event ?hg (N := 7) ?hd (cs := #[.int .i64 0, .int .i64 0]) (t := 26) ?hr ?_; (case hd => rfl); (case hg => rfl); (case hr => first | (go_simp; done) | (go_simp; rfl)); intro gb332 hg w31 hbox hb; have n0_ := Aside0.mk (Kd.R_below q_63 hb); have n1_ := Aside0.mk (below_step q_1 hb); have n2_ := Aside0.mk (hbox); have n3_ := Aside0.mk ((by rw [hg]; exact (below_size q_1) : w.heap.size ≤ gb332)); have n4_ := Aside0.mk ((by rw [hg]; exact (below_size q_1) : w.heap.size ≤ gb332)); clear HO329; clear HB; have HO329 := n0_; have HB := n1_; have BK332 := n2_; have GW332 := n3_; have GE332 := n4_; clear n0_ n1_ n2_ n3_ n4_; clear hb hbox hg; obtain ⟨hcz32_0, hcz32_1, hfz32_0, hfz32_1⟩ := cells2_ BK332.out) | (go_at_call 11; (with_reducible refine (api_Fault_Bad.calls t330 t331 false _ A21.out).mono ?_); rintro e w33 ⟨rfl, hb⟩; have n0_ := Aside0.mk (Kd.R_below q_64 hb); have n1_ := Aside0.mk (blk_below (g := gb332) (o := .cells #[.int .i64 t330, .int .i64 t331] 26 (0, 0)) q_65 hb); have n2_ := Aside0.mk (below_step q_66 hb); clear HO329; clear BK332; clear HB; have HO329 := n0_; have BK332 := n1_; have HB := n2_; clear n0_ n1_ n2_; (try clear hb); (try clear hb2); (try clear hk); (try clear hi); obtain ⟨Ao35, co35, eo35⟩ := Kd.R_slice HO329.out; subst eo35) | ((with_reducible refine gate_builtin (b := .append) (xs := #[.const (.slice none 0 0), .tmp 51]) rfl ?_); (try (refine gate_guard (by rfl) ?_; dsimp only)); at_builtin; refine Kd.R_append_rows k30 (w0 := w) w.heap.size rfl (.const (.slice none 0 0)) (.tmp 51) 23 30 (.agg #[(.bool false), (.string ⟨#[]⟩), (.string ⟨#[]⟩)]) 40 rfl Tryd.underlying23 info30 rfl (by decide) (by omega) (.slice none 0 0) ([] : List (S30)) t327 _ _ _ (fun k_ => some k_ ≠ (.slice Ao35 t327.length co35 : Value).ownBlock) (fun _ => False) rfl rfl ?aO ?aR (fun _ _ h => h) (fun _ h => h.elim) ?aF ?aB ?aS ?aL ?_; (case aR => repeat (first | exact (Kd.R_reads' HO329.out).2.2 | (with_reducible refine Kd.C_alloc ?_ _) | (with_reducible refine Kd.C_drewN ?_ _) | (with_reducible refine Kd.C_drew ?_))); (case aB => exact q_66); (case aF => exact (fun k_ hk => Kd.fresh' (Kd.R_lt q_63) k_ hk)); (case aO => exact ((Kd.R_nil _ _ _ _ (fun k_ => some k_ ≠ (.slice Ao35 t327.length co35 : Value).ownBlock)))); (case aS => exact (below_size q_66)); (case aL => have := LMc29.out; omega); intro v336 w34 ho hb hg hat; rw [← Ny335.out] at ho; have n0_ := Aside0.mk (Kd.R_after (Kd.R_apart_nil q_63) hg hat); have n1_ := Aside0.mk (blk_grown (g := gb332) (o := .cells #[.int .i64 t330, .int .i64 t331] 26 (0, 0)) q_67 hg (by simp [Value.ownBlock])); have n2_ := Aside0.mk (hb); have n3_ := Aside0.mk (ho); clear HO329; clear BK332; clear HB; have HO329 := n0_; have BK332 := n1_; have HB := n2_; have HO337 := n3_; clear n0_ n1_ n2_ n3_; clear ho hb hg hat; obtain ⟨Ao36, co36, eo36⟩ := Kd.R_slice HO337.out; subst eo36)); try go_wp2_with (first | (go_at_call 10; (with_reducible refine (cue_Parse.calls k2 a0 t327 t330 t331 _ (GM.below HG.out q_1) A20.out).mono ?_); rintro e w30 ⟨v328, rfl, ho0, hb⟩; have n0_ := Aside0.mk (Kd.R_lower ho0 (below_size q_1)); have n1_ := Aside0.mk (below_step q_1 hb); clear HB; have HO329 := n0_; have HB := n1_; clear n0_ n1_; (try clear hb); (try clear hb2); (try clear hk); (try clear hi); (try clear ho0)) | ((with_reducible refine gate_dst (N := 7) rfl ?_); (try (refine gate_guard (by rfl) ?_; dsimp only)); refine box_event ?hg (N := 7) ?hd (cs := #[.int .i64 0, .int .i64 0]) (t := 26) ?hr ?_; (case hd => rfl); (case hg => rfl); (case hr => first | (go_simp; done) | (go_simp; rfl)); intro gb332 hg w31 hbox hb; have n0_ := Aside0.mk (Kd.R_below q_63 hb); have n1_ := Aside0.mk (below_step q_1 hb); have n2_ := Aside0.mk (hbox); have n3_ := Aside0.mk ((by rw [hg]; exact (below_size q_1) : w.heap.size ≤ gb332)); have n4_ := Aside0.mk ((by rw [hg]; exact (below_size q_1) : w.heap.size ≤ gb332)); clear HO329; clear HB; have HO329 := n0_; have HB := n1_; have BK332 := n2_; have GW332 := n3_; have GE332 := n4_; clear n0_ n1_ n2_ n3_ n4_; clear hb hbox hg; obtain ⟨hcz32_0, hcz32_1, hfz32_0, hfz32_1⟩ := cells2_ BK332.out) | (go_at_call 11; (with_reducible refine (api_Fault_Bad.calls t330 t331 false _ A21.out).mono ?_); rintro e w33 ⟨rfl, hb⟩; have n0_ := Aside0.mk (Kd.R_below q_64 hb); have n1_ := Aside0.mk (blk_below (g := gb332) (o := .cells #[.int .i64 t330, .int .i64 t331] 26 (0, 0)) q_65 hb); have n2_ := Aside0.mk (below_step q_66 hb); clear HO329; clear BK332; clear HB; have HO329 := n0_; have BK332 := n1_; have HB := n2_; clear n0_ n1_ n2_; (try clear hb); (try clear hb2); (try clear hk); (try clear hi); obtain ⟨Ao35, co35, eo35⟩ := Kd.R_slice HO329.out; subst eo35) | ((with_reducible refine gate_builtin (b := .append) (xs := #[.const (.slice none 0 0), .tmp 51]) rfl ?_); (try (refine gate_guard (by rfl) ?_; dsimp only)); at_builtin; refine Kd.R_append_rows k30 (w0 := w) w.heap.size rfl (.const (.slice none 0 0)) (.tmp 51) 23 30 (.agg #[(.bool false), (.string ⟨#[]⟩), (.string ⟨#[]⟩)]) 40 rfl Tryd.underlying23 info30 rfl (by decide) (by omega) (.slice none 0 0) ([] : List (S30)) t327 _ _ _ (fun k_ => some k_ ≠ (.slice Ao35 t327.length co35 : Value).ownBlock) (fun _ => False) rfl rfl ?aO ?aR (fun _ _ h => h) (fun _ h => h.elim) ?aF ?aB ?aS ?aL ?_; (case aR => repeat (first | exact (Kd.R_reads' HO329.out).2.2 | (with_reducible refine Kd.C_alloc ?_ _) | (with_reducible refine Kd.C_drewN ?_ _) | (with_reducible refine Kd.C_drew ?_))); (case aB => exact q_66); (case aF => exact (fun k_ hk => Kd.fresh' (Kd.R_lt q_63) k_ hk)); (case aO => exact ((Kd.R_nil _ _ _ _ (fun k_ => some k_ ≠ (.slice Ao35 t327.length co35 : Value).ownBlock)))); (case aS => exact (below_size q_66)); (case aL => have := LMc29.out; omega); intro v336 w34 ho hb hg hat; rw [← Ny335.out] at ho; have n0_ := Aside0.mk (Kd.R_after (Kd.R_apart_nil q_63) hg hat); have n1_ := Aside0.mk (blk_grown (g := gb332) (o := .cells #[.int .i64 t330, .int .i64 t331] 26 (0, 0)) q_67 hg (by simp [Value.ownBlock])); have n2_ := Aside0.mk (hb); have n3_ := Aside0.mk (ho); clear HO329; clear BK332; clear HB; have HO329 := n0_; have BK332 := n1_; have HB := n2_; have HO337 := n3_; clear n0_ n1_ n2_ n3_; clear ho hb hg hat; obtain ⟨Ao36, co36, eo36⟩ := Kd.R_slice HO337.out; subst eo36)))
                  go_loopg [55] k2 (fun kq v55 w' => ∃ (x8_3 : List (S30)) (x55_3 : Int), v55 = .int .i64 x55_3 ∧ Aside0 (diacriticlaw23_CueChanges.l1 kq a1 x8_3 (y335.length : Int) x55_3 = some r) ∧ Aside0 (kq ≤ k2) ∧ Aside0 (Kd.R k30 30 w' w.heap.size (fun _ => True) (.slice Ao36 y335.length co36) x8_3) ∧ Aside0 (w'.heap[gb332]? = some (.cells #[.int .i64 t330, .int .i64 t331] 26 (0, 0))) ∧ Aside0 (Below w.heap.size w w'))
                  case atStart => exact ⟨(y335), (0), q_5, H', ⟨Nat.le_refl _⟩, ⟨by (with_reducible repeat (first | apply Kd.R_alloc | apply Kd.R_drewN | apply Kd.R_drew)); exact Kd.R_mono HO337.out (fun _ hk => trivial)⟩, ⟨q_67⟩, ⟨q_66⟩⟩
                  case round =>
                    clear H'
                    try clear c1; try clear p1; try clear q1; try clear hx1; try clear c2; try clear p2; try clear c3; try clear c4; try clear c4b0; try clear c4b1; try clear c5; try clear c5b0; try clear c5b1; try clear c6; try clear p6; try clear c9; try clear c9b0; try clear c10; try clear c10b0; try clear c11; try clear c11b0; try clear p12; try clear q12; try clear hx12; try clear c13; try clear c13b0; try clear p16; try clear q16; try clear hx16; try clear c17; try clear c17b0; try clear c22; try clear c29; try clear hcz26_0; try clear hcz26_1; try clear hcz32_0; try clear hcz32_1; try clear hfz26_0; try clear hfz26_1; try clear hfz32_0; try clear hfz32_1; try clear p12; try clear p16; try clear p2; try clear q12; try clear q16
                    obtain ⟨x8_3, x55_3, rfl, HA, HK3, HO_8, BK332, HB⟩ := hrel
                    have hl8_3 := (Kd.R_reads' HO_8.out).1
                    rw [hl8_3] at HO_8
                    (try simp only [hl8_3])
                    (try simp only [hl8_3] at BK332)
                    cases gk with
                    | zero => exact absurd HA.out (by simp [diacriticlaw23_CueChanges.l1])
                    | succ k3 =>
                      have H := HA.out
                      clear HA
                      simp only [diacriticlaw23_CueChanges.l1] at H
                      by_cases c37 : x55_3 < (y335.length : Int)
                      · rw [if_pos c37] at H
                        have c37b0 : decide (x55_3 < (y335.length : Int)) = true := decide_eq_true c37
                        (try (have c37b0L := c37b0; simp only [hl8_3] at c37b0L))
                        clear c37
                        by_cases c38 : 0 ≤ x55_3
                        · rw [if_pos c38] at H
                          have c38b0 : decide (0 ≤ x55_3) = true := decide_eq_true c38
                          clear c38
                          by_cases c39 : x55_3 < (x8_3.length : Int)
                          · rw [if_pos c39] at H
                            have c39b0 : decide (x55_3 < (x8_3.length : Int)) = true := decide_eq_true c39
                            (try (have c39b0L := c39b0; simp only [hl8_3] at c39b0L))
                            clear c39
                            obtain ⟨bq40, hbq40⟩ : ∃ b_ : Bool, b_ = ((rd_T30 x8_3 x55_3).f0) := ⟨_, rfl⟩
                            replace H : (if (bq40 = true) then (diacriticlaw23_CueChanges.l1 k3 a1 x8_3 (y335.length : Int) (wrap64 (x55_3 + 1))) else (diacriticlaw23_CueChanges.l1 k3 a1 (x8_3.set (x55_3 : Int).toNat (⟨bq40, (rd_T30 x8_3 x55_3).f1, a1⟩ : S30)) (y335.length : Int) (wrap64 (x55_3 + 1)))) = some r := by rw [← hbq40] at H; exact H
                            have Nbq40 := Aside0.mk hbq40
                            clear hbq40
                            by_cases c41 : (bq40 = true)
                            · subst c41
                              have H1 : (diacriticlaw23_CueChanges.l1 k3 a1 x8_3 (y335.length : Int) (wrap64 (x55_3 + 1))) = some r := by rw [if_pos rfl] at H; exact H
                              clear H
                              have H := H1
                              clear H1
                              have H' := Aside0.mk H
                              clear H
                              have p338 : 0 ≤ (x55_3 : Int) := of_decide_eq_true q_6
                              have q338 : x55_3 < (x8_3.length : Int) := of_decide_eq_true q_6
                              obtain ⟨ad338, e338, hx338_0, hx338_1, hx338_2⟩ := at_T30 (Kd.R_reads' HO_8.out).2.2 x55_3 p338 q338
                              (try rw [← Nbq40.out] at hx338_0)
                              cases e338
                              replace p338 := eq_true p338
                              replace q338 := eq_true q338
                              go_wp2
                              repeat (go_quiet (fail); try go_wp2)
                              (try simp only [← hl8_3])
                              go_roundg k3
                              case measure => have := HJ2.out; have := HK2.out; have := HK3.out; omega
                              case rel => exact ⟨(x8_3), (wrap64 (x55_3 + 1)), q_5, H', ⟨by have := HJ2.out; have := HK2.out; have := HK3.out; omega⟩, ⟨q_78⟩, ⟨q_79⟩, ⟨q_66⟩⟩
                            · replace c41 := Bool.eq_false_iff.mpr c41
                              subst c41
                              have H1 : (diacriticlaw23_CueChanges.l1 k3 a1 (x8_3.set (x55_3 : Int).toNat (⟨false, (rd_T30 x8_3 x55_3).f1, a1⟩ : S30)) (y335.length : Int) (wrap64 (x55_3 + 1))) = some r := by rw [if_neg (show ¬ (false = true) by decide)] at H; exact H
                              clear H
                              have H := H1
                              clear H1
                              obtain ⟨y339, hy339⟩ : ∃ y_ : List (S30), y_ = (x8_3.set (x55_3 : Int).toNat (⟨false, (rd_T30 x8_3 x55_3).f1, a1⟩ : S30)) := ⟨_, rfl⟩
                              replace H : (diacriticlaw23_CueChanges.l1 k3 a1 y339 (y335.length : Int) (wrap64 (x55_3 + 1))) = some r := by first | (rw [hy339]; with_reducible exact H) | (have H2_ := (Option.bind_some _ _).symm.trans H; rw [hy339]; with_reducible exact H2_) | (have H2_ := (Option.bind_some _ _).symm.trans H; with_reducible exact H2_) | with_reducible exact H | (rw [hy339]; exact H) | exact H
                              have Ny339 := Aside0.mk hy339
                              clear hy339
                              have H' := Aside0.mk H
                              clear H
                              have p338 : 0 ≤ (x55_3 : Int) := of_decide_eq_true q_6
                              have q338 : x55_3 < (x8_3.length : Int) := of_decide_eq_true q_6
                              obtain ⟨ad338, e338, hx338_0, hx338_1, hx338_2⟩ := at_T30 (Kd.R_reads' HO_8.out).2.2 x55_3 p338 q338
                              (try rw [← Nbq40.out] at hx338_0)
                              cases e338
                              replace p338 := eq_true p338
                              replace q338 := eq_true q338
                              have p42 : 0 ≤ (x55_3 : Int) := of_decide_eq_true q_6
                              have q42 : (x55_3 : Int) < ((x8_3.length : Int) : Int) := of_decide_eq_true q_6
                              obtain ⟨go42, co42, eo42, gb42, gl42, cl42, HG42⟩ := Kd.R_form HO_8.out (by omega)
                              (first | cases eo42 | (injection eo42 with ea_ en_ ec_; (first | subst ea_ | (injection ea_ with ea_; subst ea_)); subst ec_; clear en_))
                              have GB42 := Aside0.mk gb42
                              have GG42 := Aside0.mk HG42
                              clear gb42 gl42 HG42
                              (first | simp only [add_plain] at hx338_0 | skip)
                              (first | simp only [add_plain] at hx338_1 | skip)
                              (first | simp only [add_plain] at hx338_2 | skip)
                              obtain ⟨ce42, hcl42, hM42, hcc42, hfr42⟩ := Kd.R_elem HO_8.out z30 (x55_3 : Int) p42 q42
                              obtain rfl := k30_openM hM42
                              have hx42_0 : wr.cell? ⟨go42, (x55_3 : Int).toNat * 3, none⟩ = some (.bool ((rd_T30 x8_3 x55_3).f0)) := hcc42 0 _ rfl
                              have hx42_1 : wr.cell? ⟨go42, (x55_3 : Int).toNat * 3 + 1, none⟩ = some (.string ((rd_T30 x8_3 x55_3).f1)) := hcc42 1 _ rfl
                              have hx42_2 : wr.cell? ⟨go42, (x55_3 : Int).toNat * 3 + 2, none⟩ = some (.string ((rd_T30 x8_3 x55_3).f2)) := hcc42 2 _ rfl
                              have hf42_0 : wr.frozen? ⟨go42, (x55_3 : Int).toNat * 3, none⟩ = false := hfr42 0
                              have hf42_1 : wr.frozen? ⟨go42, (x55_3 : Int).toNat * 3 + 1, none⟩ = false := hfr42 1
                              have hf42_2 : wr.frozen? ⟨go42, (x55_3 : Int).toNat * 3 + 2, none⟩ = false := hfr42 2
                              clear hcl42 hcc42 hfr42 hM42
                              replace p42 := eq_true p42
                              replace q42 := eq_true q42
                              have HX43 := Aside0.mk (show Kd.R k30 30 wr w.heap.size (fun _ => True) (.slice (some ⟨go42, 0, none⟩) x8_3.length co36) x8_3 from q_68)
                              obtain ⟨ce43, hcl43, hM43, hcc43, hfr43⟩ := Kd.R_elem HX43.out z30 (x55_3 : Int) (of_decide_eq_true q_6) (by have h_ : (x55_3 : Int) < ((x8_3.length : Int) : Int) := of_decide_eq_true q_6; first | exact h_ | (have e_ := (Kd.R_reads' HO_8.out).1; omega) | simpa using h_)
                              obtain rfl := k30_openM hM43
                              have eb43_ : (⟨(rd_T30 x8_3 x55_3).f0, (rd_T30 x8_3 x55_3).f1, a1⟩ : S30) = (⟨false, (rd_T30 x8_3 x55_3).f1, a1⟩ : S30) := by rw [← Nbq40.out]
                              have HP43 := Kd.R_seg HX43.out (x55_3 : Int) (of_decide_eq_true q_6) (by have h_ : (x55_3 : Int) < ((x8_3.length : Int) : Int) := of_decide_eq_true q_6; first | exact h_ | (have e_ := (Kd.R_reads' HO_8.out).1; omega) | simpa using h_) (seg := [.string a1]) (j := 2) hcl43 hcc43 (show 3 ≤ 3 from by decide) (x' := (⟨(rd_T30 x8_3 x55_3).f0, (rd_T30 x8_3 x55_3).f1, a1⟩ : S30)) (k30_mkM _ _ _ (⟨(rd_T30 x8_3 x55_3).f0, (rd_T30 x8_3 x55_3).f1, a1⟩ : S30) ) (fun _ hk => hk)
                              rw [eb43_] at HP43
                              have hx43_2 := hcc43 2 _ rfl
                              (try simp only [show (k30).sz = 3 from rfl, Nat.mul_one, Nat.add_zero] at hx43_2)
                              have hf43_2 := hfr43 2
                              (try simp only [show (k30).sz = 3 from rfl, Nat.mul_one, Nat.add_zero] at hf43_2)
                              clear hcl43 hcc43 hfr43 hM43
                              go_wp2_with (first | ((with_reducible refine gate_store (t := 9) (p := 68) rfl ?_); (try (rw [drewN_self wr]; generalize hq_ : World.drewN wr _ = wr; have n0_ := Aside0.mk (Kd.R_at hq_ HO_8.out); have n1_ := Aside0.mk (blk_at hq_ BK332.out); have n2_ := Aside0.mk (below_at hq_ HB.out); clear hq_ HO_8 BK332 HB; have HO_8 := n0_; have BK332 := n1_; have HB := n2_; clear n0_ n1_ n2_; (try (have HX43 := Aside0.mk (show Kd.R k30 30 wr w.heap.size (fun _ => True) (.slice (some ⟨go42, 0, none⟩) x8_3.length co36) x8_3 from q_68))); (try (obtain ⟨ce43, hcl43, hM43, hcc43, hfr43⟩ := Kd.R_elem HX43.out z30 (x55_3 : Int) (of_decide_eq_true q_6) (by have h_ : (x55_3 : Int) < ((x8_3.length : Int) : Int) := of_decide_eq_true q_6; first | exact h_ | (have e_ := (Kd.R_reads' HO_8.out).1; omega) | simpa using h_))); (try (obtain rfl := k30_openM hM43)); (try (have HP43 := Kd.R_seg HX43.out (x55_3 : Int) (of_decide_eq_true q_6) (by have h_ : (x55_3 : Int) < ((x8_3.length : Int) : Int) := of_decide_eq_true q_6; first | exact h_ | (have e_ := (Kd.R_reads' HO_8.out).1; omega) | simpa using h_) (seg := [.string a1]) (j := 2) hcl43 hcc43 (show 3 ≤ 3 from by decide) (x' := (⟨(rd_T30 x8_3 x55_3).f0, (rd_T30 x8_3 x55_3).f1, a1⟩ : S30)) (k30_mkM _ _ _ (⟨(rd_T30 x8_3 x55_3).f0, (rd_T30 x8_3 x55_3).f1, a1⟩ : S30) ) (fun _ hk => hk))); (try (rw [eb43_] at HP43)); (try (have hx43_2 := hcc43 2 _ rfl)); (try (try simp only [show (k30).sz = 3 from rfl, Nat.mul_one, Nat.add_zero] at hx43_2)); (try (have hf43_2 := hfr43 2)); (try (try simp only [show (k30).sz = 3 from rfl, Nat.mul_one, Nat.add_zero] at hf43_2)); (try (clear hcl43 hcc43 hfr43 hM43)))); refine store_event (t := 9) (p := 68) (v := ?vo_w44) (w1 := (wr.setCell ⟨go42, (x55_3 : Int).toNat * 3 + 2, none⟩ (.string a1))) ?hg ?ho ?hn ?hr ?_; (case ho => rfl); (case hg => rfl); (case hn => rfl); (case hr => first | (go_simp; done) | (go_simp; rfl)); intro w44 hw; have hg : wr.grownBy w44 (some go42) := (by rw [hw]; exact HP43.2); have hp_ : Kd.R k30 30 w44 w.heap.size (fun _ => True) (.slice (some ⟨go42, 0, none⟩) x8_3.length co36) y339 := (by rw [hw, Ny339.out]; exact HP43.1); clear HP43; have n0_ := Aside0.mk (hp_); have n1_ := Aside0.mk (blk_grown (g := gb332) (o := .cells #[.int .i64 t330, .int .i64 t331] 26 (0, 0)) q_67 hg (Kd.R_ne HO_8.out BK332.out (by decide))); have n2_ := Aside0.mk ((q_69 : Below w.heap.size w w44)); clear HO_8; clear BK332; clear HB; have HO_8 := n0_; have BK332 := n1_; have HB := n2_; clear n0_ n1_ n2_; clear hg hw hp_))
                              repeat (go_quiet (first | ((with_reducible refine gate_store (t := 9) (p := 68) rfl ?_); (try (rw [drewN_self wr]; generalize hq_ : World.drewN wr _ = wr; have n0_ := Aside0.mk (Kd.R_at hq_ HO_8.out); have n1_ := Aside0.mk (blk_at hq_ BK332.out); have n2_ := Aside0.mk (below_at hq_ HB.out); clear hq_ HO_8 BK332 HB; have HO_8 := n0_; have BK332 := n1_; have HB := n2_; clear n0_ n1_ n2_; (try (have HX43 := Aside0.mk (show Kd.R k30 30 wr w.heap.size (fun _ => True) (.slice (some ⟨go42, 0, none⟩) x8_3.length co36) x8_3 from q_68))); (try (obtain ⟨ce43, hcl43, hM43, hcc43, hfr43⟩ := Kd.R_elem HX43.out z30 (x55_3 : Int) (of_decide_eq_true q_6) (by have h_ : (x55_3 : Int) < ((x8_3.length : Int) : Int) := of_decide_eq_true q_6; first | exact h_ | (have e_ := (Kd.R_reads' HO_8.out).1; omega) | simpa using h_))); (try (obtain rfl := k30_openM hM43)); (try (have HP43 := Kd.R_seg HX43.out (x55_3 : Int) (of_decide_eq_true q_6) (by have h_ : (x55_3 : Int) < ((x8_3.length : Int) : Int) := of_decide_eq_true q_6; first | exact h_ | (have e_ := (Kd.R_reads' HO_8.out).1; omega) | simpa using h_) (seg := [.string a1]) (j := 2) hcl43 hcc43 (show 3 ≤ 3 from by decide) (x' := (⟨(rd_T30 x8_3 x55_3).f0, (rd_T30 x8_3 x55_3).f1, a1⟩ : S30)) (k30_mkM _ _ _ (⟨(rd_T30 x8_3 x55_3).f0, (rd_T30 x8_3 x55_3).f1, a1⟩ : S30) ) (fun _ hk => hk))); (try (rw [eb43_] at HP43)); (try (rw [eb43_] at HP43)); (try (have hx43_2 := hcc43 2 _ rfl)); (try (try simp only [show (k30).sz = 3 from rfl, Nat.mul_one, Nat.add_zero] at hx43_2)); (try (have hf43_2 := hfr43 2)); (try (try simp only [show (k30).sz = 3 from rfl, Nat.mul_one, Nat.add_zero] at hf43_2)); (try (clear hcl43 hcc43 hfr43 hM43)))); refine store_event (t := 9) (p := 68) (v := ?vo_w44) (w1 := (wr.setCell ⟨go42, (x55_3 : Int).toNat * 3 + 2, none⟩ (.string a1))) ?hg ?ho ?hn ?hr ?_; (case ho => rfl); (case hg => rfl); (case hn => rfl); (case hr => first | (go_simp; done) | (go_simp; rfl)); intro w44 hw; have hg : wr.grownBy w44 (some go42) := (by rw [hw]; exact HP43.2); have hp_ : Kd.R k30 30 w44 w.heap.size (fun _ => True) (.slice (some ⟨go42, 0, none⟩) x8_3.length co36) y339 := (by rw [hw, Ny339.out]; exact HP43.1); clear HP43; have n0_ := Aside0.mk (hp_); have n1_ := Aside0.mk (blk_grown (g := gb332) (o := .cells #[.int .i64 t330, .int .i64 t331] 26 (0, 0)) q_67 hg (Kd.R_ne HO_8.out BK332.out (by decide))); have n2_ := Aside0.mk ((q_69 : Below w.heap.size w w44)); clear HO_8; clear BK332; clear HB; have HO_8 := n0_; have BK332 := n1_; have HB := n2_; clear n0_ n1_ n2_; clear hg hw hp_)); try go_wp2_with (first | ((with_reducible refine gate_store (t := 9) (p := 68) rfl ?_); (try (rw [drewN_self wr]; generalize hq_ : World.drewN wr _ = wr; have n0_ := Aside0.mk (Kd.R_at hq_ HO_8.out); have n1_ := Aside0.mk (blk_at hq_ BK332.out); have n2_ := Aside0.mk (below_at hq_ HB.out); clear hq_ HO_8 BK332 HB; have HO_8 := n0_; have BK332 := n1_; have HB := n2_; clear n0_ n1_ n2_; (try (have HX43 := Aside0.mk (show Kd.R k30 30 wr w.heap.size (fun _ => True) (.slice (some ⟨go42, 0, none⟩) x8_3.length co36) x8_3 from q_68))); (try (obtain ⟨ce43, hcl43, hM43, hcc43, hfr43⟩ := Kd.R_elem HX43.out z30 (x55_3 : Int) (of_decide_eq_true q_6) (by have h_ : (x55_3 : Int) < ((x8_3.length : Int) : Int) := of_decide_eq_true q_6; first | exact h_ | (have e_ := (Kd.R_reads' HO_8.out).1; omega) | simpa using h_))); (try (obtain rfl := k30_openM hM43)); (try (have HP43 := Kd.R_seg HX43.out (x55_3 : Int) (of_decide_eq_true q_6) (by have h_ : (x55_3 : Int) < ((x8_3.length : Int) : Int) := of_decide_eq_true q_6; first | exact h_ | (have e_ := (Kd.R_reads' HO_8.out).1; omega) | simpa using h_) (seg := [.string a1]) (j := 2) hcl43 hcc43 (show 3 ≤ 3 from by decide) (x' := (⟨(rd_T30 x8_3 x55_3).f0, (rd_T30 x8_3 x55_3).f1, a1⟩ : S30)) (k30_mkM _ _ _ (⟨(rd_T30 x8_3 x55_3).f0, (rd_T30 x8_3 x55_3).f1, a1⟩ : S30) ) (fun _ hk => hk))); (try (rw [eb43_] at HP43)); (try (rw [eb43_] at HP43)); (try (have hx43_2 := hcc43 2 _ rfl)); (try (try simp only [show (k30).sz = 3 from rfl, Nat.mul_one, Nat.add_zero] at hx43_2)); (try (have hf43_2 := hfr43 2)); (try (try simp only [show (k30).sz = 3 from rfl, Nat.mul_one, Nat.add_zero] at hf43_2)); (try (clear hcl43 hcc43 hfr43 hM43)))); refine store_event (t := 9) (p := 68) (v := ?vo_w44) (w1 := (wr.setCell ⟨go42, (x55_3 : Int).toNat * 3 + 2, none⟩ (.string a1))) ?hg ?ho ?hn ?hr ?_; (case ho => rfl); (case hg => rfl); (case hn => rfl); (case hr => first | (go_simp; done) | (go_simp; rfl)); intro w44 hw; have hg : wr.grownBy w44 (some go42) := (by rw [hw]; exact HP43.2); have hp_ : Kd.R k30 30 w44 w.heap.size (fun _ => True) (.slice (some ⟨go42, 0, none⟩) x8_3.length co36) y339 := (by rw [hw, Ny339.out]; exact HP43.1); clear HP43; have n0_ := Aside0.mk (hp_); have n1_ := Aside0.mk (blk_grown (g := gb332) (o := .cells #[.int .i64 t330, .int .i64 t331] 26 (0, 0)) q_67 hg (Kd.R_ne HO_8.out BK332.out (by decide))); have n2_ := Aside0.mk ((q_69 : Below w.heap.size w w44)); clear HO_8; clear BK332; clear HB; have HO_8 := n0_; have BK332 := n1_; have HB := n2_; clear n0_ n1_ n2_; clear hg hw hp_)))
                              (try simp only [← hl8_3])
                              go_roundg k3
                              case measure => have := HJ2.out; have := HK2.out; have := HK3.out; omega
                              case rel => exact ⟨(y339), (wrap64 (x55_3 + 1)), q_5, H', ⟨by have := HJ2.out; have := HK2.out; have := HK3.out; omega⟩, ⟨q_78⟩, ⟨q_79⟩, ⟨q_66⟩⟩
                          · rw [if_neg c39] at H
                            exact absurd H (by simp)
                        · rw [if_neg c38] at H
                          exact absurd H (by simp)
                      · rw [if_neg c37] at H
                        have c37b0 : decide (x55_3 < (y335.length : Int)) = false := decide_eq_false c37
                        (try (have c37b0L := c37b0; simp only [hl8_3] at c37b0L))
                        clear c37
                        replace H := Option.bind_eq_some_iff.mp H
                        obtain ⟨t340, A450, H⟩ := H
                        replace H : ((cue_Parse.f k3 t340).bind fun bt341 => ((api_Fault_Bad.f bt341.2.1 bt341.2.2).bind fun t347 => (if t347 = true then (diacriticlaw23_CueChanges.j3 k3 x8_3 bt341.1 true) else (diacriticlaw23_CueChanges.j3 k3 x8_3 bt341.1 ((bt341.1.length : Int) != (x8_3.length : Int)))))) = some r := H
                        have A45 := Aside0.mk A450
                        clear A450
                        replace H := Option.bind_eq_some_iff.mp H
                        obtain ⟨⟨t341, t344, t345⟩, A460, H⟩ := H
                        replace H : ((api_Fault_Bad.f t344 t345).bind fun t347 => (if t347 = true then (diacriticlaw23_CueChanges.j3 k3 x8_3 t341 true) else (diacriticlaw23_CueChanges.j3 k3 x8_3 t341 ((t341.length : Int) != (x8_3.length : Int))))) = some r := H
                        have A46 := Aside0.mk A460
                        clear A460
                        have HC47 := Aside0.mk H
                        clear H
                        go_upto_region 20 with (first | (go_at_call 12; (with_reducible refine (line_Whole.calls k3 _ _ x8_3 t340 _ ?side1 ?side2 A45.out).mono ?_); (case side1 => repeat (first | exact (Kd.R_reads' HO_8.out).2.2 | (with_reducible refine Kd.C_alloc ?_ _) | (with_reducible refine Kd.C_drewN ?_ _) | (with_reducible refine Kd.C_drew ?_))); (case side2 => exact (Kd.R_reads' HO_8.out).2.1); rintro e w48 ⟨rfl, hb⟩; have n0_ := Aside0.mk (Kd.R_below q_68 hb); have n1_ := Aside0.mk (blk_below (g := gb332) (o := .cells #[.int .i64 t330, .int .i64 t331] 26 (0, 0)) q_67 hb); have n2_ := Aside0.mk (below_step q_66 hb); clear HO_8; clear BK332; clear HB; have HO_8 := n0_; have BK332 := n1_; have HB := n2_; clear n0_ n1_ n2_; (try clear hb); (try clear hb2); (try clear hk); (try clear hi)) | (go_at_call 10; (with_reducible refine (cue_Parse.calls k3 t340 t341 t344 t345 _ (GM.below HG.out q_66) A46.out).mono ?_); rintro e w49 ⟨v342, rfl, ho0, hb⟩; have n0_ := Aside0.mk (Kd.R_elder' q_68 (Kd.R_base ho0) hb); have n1_ := Aside0.mk (Kd.R_lower (Kd.R_new' ho0 (Kd.R_lt q_68)) (below_size q_66)); have n2_ := Aside0.mk (blk_below (g := gb332) (o := .cells #[.int .i64 t330, .int .i64 t331] 26 (0, 0)) q_67 hb); have n3_ := Aside0.mk (below_step q_66 hb); clear HO_8; clear BK332; clear HB; have HO_8 := n0_; have HO343 := n1_; have BK332 := n2_; have HB := n3_; clear n0_ n1_ n2_ n3_; (try clear hb); (try clear hb2); (try clear hk); (try clear hi); (try clear ho0)) | ((with_reducible refine gate_dst (N := 11) rfl ?_); (try (refine gate_guard (by rfl) ?_; dsimp only)); refine box_event ?hg (N := 11) ?hd (cs := #[.int .i64 0, .int .i64 0]) (t := 26) ?hr ?_; (case hd => rfl); (case hg => rfl); (case hr => first | (go_simp; done) | (go_simp; rfl)); intro gb346 hg w50 hbox hb; have n0_ := Aside0.mk (Kd.R_below q_68 hb); have n1_ := Aside0.mk (Kd.R_below q_70 hb); have n2_ := Aside0.mk (blk_below (g := gb332) (o := .cells #[.int .i64 t330, .int .i64 t331] 26 (0, 0)) q_67 hb); have n3_ := Aside0.mk (below_step q_66 hb); have n4_ := Aside0.mk (hbox); have n5_ := Aside0.mk ((by rw [hg]; exact (below_size q_66) : w.heap.size ≤ gb346)); have n6_ := Aside0.mk ((by rw [hg]; exact (below_size q_66) : w.heap.size ≤ gb346)); have n7_ := Aside0.mk ((q_110 : gb332 ≠ gb346)); have n8_ := Aside0.mk ((q_111 : gb346 ≠ gb332)); clear HO_8; clear HO343; clear BK332; clear HB; have HO_8 := n0_; have HO343 := n1_; have BK332 := n2_; have HB := n3_; have BK346 := n4_; have GW346 := n5_; have GE346 := n6_; have NB332_346 := n7_; have NB346_332 := n8_; clear n0_ n1_ n2_ n3_ n4_ n5_ n6_ n7_ n8_; clear hb hbox hg; have hnb51 := NB346_332.out; have hnc51 := NB332_346.out; obtain ⟨hcz52_0, hcz52_1, hfz52_0, hfz52_1⟩ := cells2_ BK346.out))
                        repeat (go_quiet (first | (go_at_call 12; (with_reducible refine (line_Whole.calls k3 _ _ x8_3 t340 _ ?side1 ?side2 A45.out).mono ?_); (case side1 => repeat (first | exact (Kd.R_reads' HO_8.out).2.2 | (with_reducible refine Kd.C_alloc ?_ _) | (with_reducible refine Kd.C_drewN ?_ _) | (with_reducible refine Kd.C_drew ?_))); (case side2 => exact (Kd.R_reads' HO_8.out).2.1); rintro e w48 ⟨rfl, hb⟩; have n0_ := Aside0.mk (Kd.R_below q_68 hb); have n1_ := Aside0.mk (blk_below (g := gb332) (o := .cells #[.int .i64 t330, .int .i64 t331] 26 (0, 0)) q_67 hb); have n2_ := Aside0.mk (below_step q_66 hb); clear HO_8; clear BK332; clear HB; have HO_8 := n0_; have BK332 := n1_; have HB := n2_; clear n0_ n1_ n2_; (try clear hb); (try clear hb2); (try clear hk); (try clear hi)) | (go_at_call 10; (with_reducible refine (cue_Parse.calls k3 t340 t341 t344 t345 _ (GM.below HG.out q_66) A46.out).mono ?_); rintro e w49 ⟨v342, rfl, ho0, hb⟩; have n0_ := Aside0.mk (Kd.R_elder' q_68 (Kd.R_base ho0) hb); have n1_ := Aside0.mk (Kd.R_lower (Kd.R_new' ho0 (Kd.R_lt q_68)) (below_size q_66)); have n2_ := Aside0.mk (blk_below (g := gb332) (o := .cells #[.int .i64 t330, .int .i64 t331] 26 (0, 0)) q_67 hb); have n3_ := Aside0.mk (below_step q_66 hb); clear HO_8; clear BK332; clear HB; have HO_8 := n0_; have HO343 := n1_; have BK332 := n2_; have HB := n3_; clear n0_ n1_ n2_ n3_; (try clear hb); (try clear hb2); (try clear hk); (try clear hi); (try clear ho0)) | ((with_reducible refine gate_dst (N := 11) rfl ?_); (try (refine gate_guard (by rfl) ?_; dsimp only)); refine box_event ?hg (N := 11) ?hd (cs := #[.int .i64 0, .int .i64 0]) (t := 26) ?hr ?_; (case hd => rfl); (case hg => rfl); (case hr => first | (go_simp; done) | (go_simp; rfl)); intro gb346 hg w50 hbox hb; have n0_ := Aside0.mk (Kd.R_below q_68 hb); have n1_ := Aside0.mk (Kd.R_below q_70 hb); have n2_ := Aside0.mk (blk_below (g := gb332) (o := .cells #[.int .i64 t330, .int .i64 t331] 26 (0, 0)) q_67 hb); have n3_ := Aside0.mk (below_step q_66 hb); have n4_ := Aside0.mk (hbox); have n5_ := Aside0.mk ((by rw [hg]; exact (below_size q_66) : w.heap.size ≤ gb346)); have n6_ := Aside0.mk ((by rw [hg]; exact (below_size q_66) : w.heap.size ≤ gb346)); have n7_ := Aside0.mk ((q_110 : gb332 ≠ gb346)); have n8_ := Aside0.mk ((q_111 : gb346 ≠ gb332)); clear HO_8; clear HO343; clear BK332; clear HB; have HO_8 := n0_; have HO343 := n1_; have BK332 := n2_; have HB := n3_; have BK346 := n4_; have GW346 := n5_; have GE346 := n6_; have NB332_346 := n7_; have NB346_332 := n8_; clear n0_ n1_ n2_ n3_ n4_ n5_ n6_ n7_ n8_; clear hb hbox hg; have hnb51 := NB346_332.out; have hnc51 := NB332_346.out; obtain ⟨hcz52_0, hcz52_1, hfz52_0, hfz52_1⟩ := cells2_ BK346.out)); go_upto_region 20 with (first | (go_at_call 12; (with_reducible refine (line_Whole.calls k3 _ _ x8_3 t340 _ ?side1 ?side2 A45.out).mono ?_); (case side1 => repeat (first | exact (Kd.R_reads' HO_8.out).2.2 | (with_reducible refine Kd.C_alloc ?_ _) | (with_reducible refine Kd.C_drewN ?_ _) | (with_reducible refine Kd.C_drew ?_))); (case side2 => exact (Kd.R_reads' HO_8.out).2.1); rintro e w48 ⟨rfl, hb⟩; have n0_ := Aside0.mk (Kd.R_below q_68 hb); have n1_ := Aside0.mk (blk_below (g := gb332) (o := .cells #[.int .i64 t330, .int .i64 t331] 26 (0, 0)) q_67 hb); have n2_ := Aside0.mk (below_step q_66 hb); clear HO_8; clear BK332; clear HB; have HO_8 := n0_; have BK332 := n1_; have HB := n2_; clear n0_ n1_ n2_; (try clear hb); (try clear hb2); (try clear hk); (try clear hi)) | (go_at_call 10; (with_reducible refine (cue_Parse.calls k3 t340 t341 t344 t345 _ (GM.below HG.out q_66) A46.out).mono ?_); rintro e w49 ⟨v342, rfl, ho0, hb⟩; have n0_ := Aside0.mk (Kd.R_elder' q_68 (Kd.R_base ho0) hb); have n1_ := Aside0.mk (Kd.R_lower (Kd.R_new' ho0 (Kd.R_lt q_68)) (below_size q_66)); have n2_ := Aside0.mk (blk_below (g := gb332) (o := .cells #[.int .i64 t330, .int .i64 t331] 26 (0, 0)) q_67 hb); have n3_ := Aside0.mk (below_step q_66 hb); clear HO_8; clear BK332; clear HB; have HO_8 := n0_; have HO343 := n1_; have BK332 := n2_; have HB := n3_; clear n0_ n1_ n2_ n3_; (try clear hb); (try clear hb2); (try clear hk); (try clear hi); (try clear ho0)) | ((with_reducible refine gate_dst (N := 11) rfl ?_); (try (refine gate_guard (by rfl) ?_; dsimp only)); refine box_event ?hg (N := 11) ?hd (cs := #[.int .i64 0, .int .i64 0]) (t := 26) ?hr ?_; (case hd => rfl); (case hg => rfl); (case hr => first | (go_simp; done) | (go_simp; rfl)); intro gb346 hg w50 hbox hb; have n0_ := Aside0.mk (Kd.R_below q_68 hb); have n1_ := Aside0.mk (Kd.R_below q_70 hb); have n2_ := Aside0.mk (blk_below (g := gb332) (o := .cells #[.int .i64 t330, .int .i64 t331] 26 (0, 0)) q_67 hb); have n3_ := Aside0.mk (below_step q_66 hb); have n4_ := Aside0.mk (hbox); have n5_ := Aside0.mk ((by rw [hg]; exact (below_size q_66) : w.heap.size ≤ gb346)); have n6_ := Aside0.mk ((by rw [hg]; exact (below_size q_66) : w.heap.size ≤ gb346)); have n7_ := Aside0.mk ((q_110 : gb332 ≠ gb346)); have n8_ := Aside0.mk ((q_111 : gb346 ≠ gb332)); clear HO_8; clear HO343; clear BK332; clear HB; have HO_8 := n0_; have HO343 := n1_; have BK332 := n2_; have HB := n3_; have BK346 := n4_; have GW346 := n5_; have GE346 := n6_; have NB332_346 := n7_; have NB346_332 := n8_; clear n0_ n1_ n2_ n3_ n4_ n5_ n6_ n7_ n8_; clear hb hbox hg; have hnb51 := NB346_332.out; have hnc51 := NB332_346.out; obtain ⟨hcz52_0, hcz52_1, hfz52_0, hfz52_1⟩ := cells2_ BK346.out)))
                        (try simp only [Act.put, List.setIfInBounds_toArray, List.set_cons_zero, List.set_cons_succ])
                        go_cut [84] (fun v84 wc => ∃ (kq : Nat) (x84_46 : Bool), v84 = .bool x84_46 ∧ Aside0 (diacriticlaw23_CueChanges.j3 kq x8_3 t341 x84_46 = some r) ∧ Aside0 (kq ≤ k3) ∧ Aside0 (Kd.R k30 30 wc w.heap.size (fun k_ => some k_ ≠ (v342 : Value).ownBlock) (.slice Ao36 x8_3.length co36) x8_3) ∧ Aside0 (Kd.R k30 30 wc w.heap.size (fun k_ => some k_ ≠ ((.slice Ao36 x8_3.length co36) : Value).ownBlock) v342 t341) ∧ Aside0 (wc.heap[gb332]? = some (.cells #[.int .i64 t330, .int .i64 t331] 26 (0, 0))) ∧ Aside0 (wc.heap[gb346]? = some (.cells #[.int .i64 t344, .int .i64 t345] 26 (0, 0))) ∧ Aside0 (Below w.heap.size w wc))
                        case first =>
                          have H := HC47.out
                          clear HC47
                          replace H := Option.bind_eq_some_iff.mp H
                          obtain ⟨t347, A530, H⟩ := H
                          replace H : (if t347 = true then (diacriticlaw23_CueChanges.j3 k3 x8_3 t341 true) else (diacriticlaw23_CueChanges.j3 k3 x8_3 t341 ((t341.length : Int) != (x8_3.length : Int)))) = some r := H
                          have A53 := Aside0.mk A530
                          clear A530
                          by_cases c54 : t347 = true
                          · subst c54
                            have H1 : (diacriticlaw23_CueChanges.j3 k3 x8_3 t341 true) = some r := by rw [if_pos rfl] at H; exact H
                            clear H
                            have H := H1
                            clear H1
                            have H' := Aside0.mk H
                            clear H
                            have hnb55 := NB346_332.out
                            have hnc55 := NB332_346.out
                            obtain ⟨hcz56_0, hcz56_1, hfz56_0, hfz56_1⟩ := cells2_ BK346.out
                            go_wp2_with (first | (go_at_call 11; (with_reducible refine (api_Fault_Bad.calls t344 t345 true _ A53.out).mono ?_); rintro e w57 ⟨rfl, hb⟩; have n0_ := Aside0.mk (Kd.R_below q_71 hb); have n1_ := Aside0.mk (Kd.R_below q_72 hb); have n2_ := Aside0.mk (blk_below (g := gb332) (o := .cells #[.int .i64 t330, .int .i64 t331] 26 (0, 0)) q_73 hb); have n3_ := Aside0.mk (blk_below (g := gb346) (o := .cells #[.int .i64 t344, .int .i64 t345] 26 (0, 0)) q_74 hb); have n4_ := Aside0.mk (below_step q_75 hb); clear HO_8; clear HO343; clear BK332; clear BK346; clear HB; have HO_8 := n0_; have HO343 := n1_; have BK332 := n2_; have BK346 := n3_; have HB := n4_; clear n0_ n1_ n2_ n3_ n4_; (try clear hb); (try clear hb2); (try clear hk); (try clear hi)))
                            repeat (go_quiet (first | (go_at_call 11; (with_reducible refine (api_Fault_Bad.calls t344 t345 true _ A53.out).mono ?_); rintro e w57 ⟨rfl, hb⟩; have n0_ := Aside0.mk (Kd.R_below q_71 hb); have n1_ := Aside0.mk (Kd.R_below q_72 hb); have n2_ := Aside0.mk (blk_below (g := gb332) (o := .cells #[.int .i64 t330, .int .i64 t331] 26 (0, 0)) q_73 hb); have n3_ := Aside0.mk (blk_below (g := gb346) (o := .cells #[.int .i64 t344, .int .i64 t345] 26 (0, 0)) q_74 hb); have n4_ := Aside0.mk (below_step q_75 hb); clear HO_8; clear HO343; clear BK332; clear BK346; clear HB; have HO_8 := n0_; have HO343 := n1_; have BK332 := n2_; have BK346 := n3_; have HB := n4_; clear n0_ n1_ n2_ n3_ n4_; (try clear hb); (try clear hb2); (try clear hk); (try clear hi))); try go_wp2_with (first | (go_at_call 11; (with_reducible refine (api_Fault_Bad.calls t344 t345 true _ A53.out).mono ?_); rintro e w57 ⟨rfl, hb⟩; have n0_ := Aside0.mk (Kd.R_below q_71 hb); have n1_ := Aside0.mk (Kd.R_below q_72 hb); have n2_ := Aside0.mk (blk_below (g := gb332) (o := .cells #[.int .i64 t330, .int .i64 t331] 26 (0, 0)) q_73 hb); have n3_ := Aside0.mk (blk_below (g := gb346) (o := .cells #[.int .i64 t344, .int .i64 t345] 26 (0, 0)) q_74 hb); have n4_ := Aside0.mk (below_step q_75 hb); clear HO_8; clear HO343; clear BK332; clear BK346; clear HB; have HO_8 := n0_; have HO343 := n1_; have BK332 := n2_; have BK346 := n3_; have HB := n4_; clear n0_ n1_ n2_ n3_ n4_; (try clear hb); (try clear hb2); (try clear hk); (try clear hi))))
                            go_meet
                            case rel => exact ⟨_, (true), q_5, H', ⟨by have := HJ2.out; have := HK2.out; have := HK3.out; first | omega | exact Nat.le_refl _⟩, ⟨by (try simp only [hl8_3]); (with_reducible repeat (first | apply Kd.R_alloc | apply Kd.R_drewN | apply Kd.R_drew)); exact Kd.R_mono HO_8.out (fun _ hk => hk.2)⟩, ⟨by (try simp only [hl8_3]); (with_reducible repeat (first | apply Kd.R_alloc | apply Kd.R_drewN | apply Kd.R_drew)); exact Kd.R_mono HO343.out (fun _ hk => hk.2)⟩, ⟨q_79⟩, ⟨q_80⟩, ⟨q_75⟩⟩
                          · replace c54 := Bool.eq_false_iff.mpr c54
                            subst c54
                            have H1 : (diacriticlaw23_CueChanges.j3 k3 x8_3 t341 ((t341.length : Int) != (x8_3.length : Int))) = some r := by rw [if_neg (show ¬ (false = true) by decide)] at H; exact H
                            clear H
                            have H := H1
                            clear H1
                            have H' := Aside0.mk H
                            clear H
                            have hnb58 := NB346_332.out
                            have hnc58 := NB332_346.out
                            obtain ⟨hcz59_0, hcz59_1, hfz59_0, hfz59_1⟩ := cells2_ BK346.out
                            go_wp2_with (first | (go_at_call 11; (with_reducible refine (api_Fault_Bad.calls t344 t345 false _ A53.out).mono ?_); rintro e w60 ⟨rfl, hb⟩; have n0_ := Aside0.mk (Kd.R_below q_71 hb); have n1_ := Aside0.mk (Kd.R_below q_72 hb); have n2_ := Aside0.mk (blk_below (g := gb332) (o := .cells #[.int .i64 t330, .int .i64 t331] 26 (0, 0)) q_73 hb); have n3_ := Aside0.mk (blk_below (g := gb346) (o := .cells #[.int .i64 t344, .int .i64 t345] 26 (0, 0)) q_74 hb); have n4_ := Aside0.mk (below_step q_75 hb); clear HO_8; clear HO343; clear BK332; clear BK346; clear HB; have HO_8 := n0_; have HO343 := n1_; have BK332 := n2_; have BK346 := n3_; have HB := n4_; clear n0_ n1_ n2_ n3_ n4_; (try clear hb); (try clear hb2); (try clear hk); (try clear hi); obtain ⟨Ao61, co61, eo61⟩ := Kd.R_slice HO343.out; subst eo61))
                            repeat (go_quiet (first | (go_at_call 11; (with_reducible refine (api_Fault_Bad.calls t344 t345 false _ A53.out).mono ?_); rintro e w60 ⟨rfl, hb⟩; have n0_ := Aside0.mk (Kd.R_below q_71 hb); have n1_ := Aside0.mk (Kd.R_below q_72 hb); have n2_ := Aside0.mk (blk_below (g := gb332) (o := .cells #[.int .i64 t330, .int .i64 t331] 26 (0, 0)) q_73 hb); have n3_ := Aside0.mk (blk_below (g := gb346) (o := .cells #[.int .i64 t344, .int .i64 t345] 26 (0, 0)) q_74 hb); have n4_ := Aside0.mk (below_step q_75 hb); clear HO_8; clear HO343; clear BK332; clear BK346; clear HB; have HO_8 := n0_; have HO343 := n1_; have BK332 := n2_; have BK346 := n3_; have HB := n4_; clear n0_ n1_ n2_ n3_ n4_; (try clear hb); (try clear hb2); (try clear hk); (try clear hi); obtain ⟨Ao61, co61, eo61⟩ := Kd.R_slice HO343.out; subst eo61)); try go_wp2_with (first | (go_at_call 11; (with_reducible refine (api_Fault_Bad.calls t344 t345 false _ A53.out).mono ?_); rintro e w60 ⟨rfl, hb⟩; have n0_ := Aside0.mk (Kd.R_below q_71 hb); have n1_ := Aside0.mk (Kd.R_below q_72 hb); have n2_ := Aside0.mk (blk_below (g := gb332) (o := .cells #[.int .i64 t330, .int .i64 t331] 26 (0, 0)) q_73 hb); have n3_ := Aside0.mk (blk_below (g := gb346) (o := .cells #[.int .i64 t344, .int .i64 t345] 26 (0, 0)) q_74 hb); have n4_ := Aside0.mk (below_step q_75 hb); clear HO_8; clear HO343; clear BK332; clear BK346; clear HB; have HO_8 := n0_; have HO343 := n1_; have BK332 := n2_; have BK346 := n3_; have HB := n4_; clear n0_ n1_ n2_ n3_ n4_; (try clear hb); (try clear hb2); (try clear hk); (try clear hi); obtain ⟨Ao61, co61, eo61⟩ := Kd.R_slice HO343.out; subst eo61)))
                            go_meet
                            case rel => exact ⟨_, (((t341.length : Int) != (x8_3.length : Int))), q_5, H', ⟨by have := HJ2.out; have := HK2.out; have := HK3.out; first | omega | exact Nat.le_refl _⟩, ⟨by (try simp only [hl8_3]); (with_reducible repeat (first | apply Kd.R_alloc | apply Kd.R_drewN | apply Kd.R_drew)); exact Kd.R_mono HO_8.out (fun _ hk => hk.2)⟩, ⟨by (try simp only [hl8_3]); (with_reducible repeat (first | apply Kd.R_alloc | apply Kd.R_drewN | apply Kd.R_drew)); exact Kd.R_mono HO343.out (fun _ hk => hk.2)⟩, ⟨q_79⟩, ⟨q_80⟩, ⟨q_75⟩⟩
                        case rest =>
                          clear HC47
                          try clear c1; try clear p1; try clear q1; try clear hx1; try clear c2; try clear p2; try clear c3; try clear p3; try clear q3; try clear hx3; try clear c4; try clear c4b0; try clear c4b1; try clear p4; try clear q4; try clear hx4; try clear hf4; try clear c5; try clear c5b0; try clear c5b1; try clear c6; try clear p6; try clear c9; try clear c9b0; try clear c10; try clear c10b0; try clear c11; try clear c11b0; try clear p12; try clear q12; try clear hx12; try clear c13; try clear c13b0; try clear p16; try clear q16; try clear hx16; try clear c17; try clear c17b0; try clear c22; try clear c29; try clear p33; try clear q33; try clear hx33; try clear c37; try clear c37b0; try clear c38; try clear c38b0; try clear c39; try clear c39b0; try clear q40; try clear c41; try clear c42; try clear p42; try clear q42; try clear hx42; try clear hf42; try clear c43; try clear hx43; try clear hf43; try clear c51; try clear c54; try clear c55; try clear c58; try clear hcz26_0; try clear hcz26_1; try clear hcz32_0; try clear hcz32_1; try clear hcz52_0; try clear hcz52_1; try clear hcz56_0; try clear hcz56_1; try clear hcz59_0; try clear hcz59_1; try clear hfz26_0; try clear hfz26_1; try clear hfz32_0; try clear hfz32_1; try clear hfz52_0; try clear hfz52_1; try clear hfz56_0; try clear hfz56_1; try clear hfz59_0; try clear hfz59_1; try clear hx338_0; try clear hx338_1; try clear hx338_2; try clear hx42_0; try clear hx42_1; try clear hx42_2; try clear hx43_2; try clear p1; try clear p12; try clear p16; try clear p2; try clear p338; try clear p42; try clear p6; try clear q1; try clear q12; try clear q16; try clear q338; try clear q42
                          obtain ⟨kq, x84_46, rfl, HA, HJ46, HO_8, HO_10, BK332, BK346, HB⟩ := hcut
                          cases kq with
                          | zero => exact absurd HA.out (by simp [diacriticlaw23_CueChanges.j3])
                          | succ kj46 =>
                            have H := HA.out
                            clear HA
                            simp only [diacriticlaw23_CueChanges.j3] at H
                            by_cases c62 : x84_46 = true
                            · subst c62
                              have H1 : (some false) = some r := by rw [if_pos rfl] at H; exact H
                              clear H
                              have H := H1
                              clear H1
                              obtain rfl := Option.some.inj H
                              go_wp2
                              repeat (go_quiet (fail); try go_wp2)
                              go_ret
                              exact ⟨q_10, q_75⟩
                            · replace c62 := Bool.eq_false_iff.mpr c62
                              subst c62
                              have H1 : (diacriticlaw23_CueChanges.l2 kj46 x8_3 t341 (t341.length : Int) 0) = some r := by rw [if_neg (show ¬ (false = true) by decide)] at H; exact H
                              clear H
                              have H := H1
                              clear H1
                              have H' := Aside0.mk H
                              clear H
                              obtain ⟨Ao63, co63, eo63⟩ := Kd.R_slice HO_10.out
                              subst eo63
                              go_wp2
                              repeat (go_quiet (fail); try go_wp2)
                              go_loopg [87] kj46 (fun kq v87 w' => ∃ (x87_5 : Int), v87 = .int .i64 x87_5 ∧ Aside0 (diacriticlaw23_CueChanges.l2 kq x8_3 t341 (t341.length : Int) x87_5 = some r) ∧ Aside0 (kq ≤ kj46) ∧ Aside0 (Kd.R k30 30 w' w.heap.size (fun k_ => some k_ ≠ ((.slice Ao63 t341.length co63) : Value).ownBlock) (.slice Ao36 x8_3.length co36) x8_3) ∧ Aside0 (Kd.R k30 30 w' w.heap.size (fun k_ => some k_ ≠ ((.slice Ao36 x8_3.length co36) : Value).ownBlock) (.slice Ao63 t341.length co63) t341) ∧ Aside0 (w'.heap[gb332]? = some (.cells #[.int .i64 t330, .int .i64 t331] 26 (0, 0))) ∧ Aside0 (w'.heap[gb346]? = some (.cells #[.int .i64 t344, .int .i64 t345] 26 (0, 0))) ∧ Aside0 (Below w.heap.size w w'))
                              case atStart => exact ⟨(0), q_5, H', ⟨Nat.le_refl _⟩, ⟨q_78⟩, ⟨by (try simp only [hl8_3]); (with_reducible repeat (first | apply Kd.R_alloc | apply Kd.R_drewN | apply Kd.R_drew)); exact HO_10.out⟩, ⟨q_79⟩, ⟨q_80⟩, ⟨q_75⟩⟩
                              case round =>
                                clear H'
                                try clear c1; try clear p1; try clear q1; try clear hx1; try clear c2; try clear p2; try clear c3; try clear p3; try clear q3; try clear hx3; try clear c4; try clear c4b0; try clear c4b1; try clear p4; try clear q4; try clear hx4; try clear hf4; try clear c5; try clear c5b0; try clear c5b1; try clear c6; try clear p6; try clear c9; try clear c9b0; try clear c10; try clear c10b0; try clear c11; try clear c11b0; try clear p12; try clear q12; try clear hx12; try clear c13; try clear c13b0; try clear p16; try clear q16; try clear hx16; try clear c17; try clear c17b0; try clear c22; try clear c29; try clear p33; try clear q33; try clear hx33; try clear c37; try clear c37b0; try clear c38; try clear c38b0; try clear c39; try clear c39b0; try clear q40; try clear c41; try clear c42; try clear p42; try clear q42; try clear hx42; try clear hf42; try clear c43; try clear hx43; try clear hf43; try clear c51; try clear c54; try clear c55; try clear c58; try clear c62; try clear hcz26_0; try clear hcz26_1; try clear hcz32_0; try clear hcz32_1; try clear hcz52_0; try clear hcz52_1; try clear hcz56_0; try clear hcz56_1; try clear hcz59_0; try clear hcz59_1; try clear hfz26_0; try clear hfz26_1; try clear hfz32_0; try clear hfz32_1; try clear hfz52_0; try clear hfz52_1; try clear hfz56_0; try clear hfz56_1; try clear hfz59_0; try clear hfz59_1; try clear hx338_0; try clear hx338_1; try clear hx338_2; try clear hx42_0; try clear hx42_1; try clear hx42_2; try clear hx43_2; try clear p1; try clear p12; try clear p16; try clear p2; try clear p3; try clear p33; try clear p338; try clear p4; try clear p42; try clear p6; try clear q1; try clear q12; try clear q16; try clear q3; try clear q33; try clear q338; try clear q4; try clear q40; try clear q42
                                obtain ⟨x87_5, rfl, HA, HK5, HO_8, HO_10, BK332, BK346, HB⟩ := hrel
                                cases gk with
                                | zero => exact absurd HA.out (by simp [diacriticlaw23_CueChanges.l2])
                                | succ k5 =>
                                  have H := HA.out
                                  clear HA
                                  simp only [diacriticlaw23_CueChanges.l2] at H
                                  by_cases c64 : x87_5 < (t341.length : Int)
                                  · rw [if_pos c64] at H
                                    have c64b0 : decide (x87_5 < (t341.length : Int)) = true := decide_eq_true c64
                                    (try (have c64b0L := c64b0; simp only [hl8_3] at c64b0L))
                                    clear c64
                                    by_cases c65 : 0 ≤ x87_5
                                    · rw [if_pos c65] at H
                                      have c65b0 : decide (0 ≤ x87_5) = true := decide_eq_true c65
                                      clear c65
                                      by_cases c66 : x87_5 < (t341.length : Int)
                                      · rw [if_pos c66] at H
                                        have c66b0 : decide (x87_5 < (t341.length : Int)) = true := decide_eq_true c66
                                        (try (have c66b0L := c66b0; simp only [hl8_3] at c66b0L))
                                        clear c66
                                        by_cases c67 : x87_5 < (x8_3.length : Int)
                                        · rw [if_pos c67] at H
                                          have c67b0 : decide (x87_5 < (x8_3.length : Int)) = true := decide_eq_true c67
                                          (try (have c67b0L := c67b0; simp only [hl8_3] at c67b0L))
                                          clear c67
                                          by_cases c68 : (!(((rd_T30 t341 x87_5).f0) == ((rd_T30 x8_3 x87_5).f0)) || (!((((rd_T30 t341 x87_5).f1).toList) == (((rd_T30 x8_3 x87_5).f1).toList)) || (!((((rd_T30 t341 x87_5).f2).toList) == (((rd_T30 x8_3 x87_5).f2).toList))))) = true
                                          · rw [if_pos c68] at H
                                            have c68b0 : (!(((rd_T30 t341 x87_5).f0) == ((rd_T30 x8_3 x87_5).f0)) || (!((((rd_T30 t341 x87_5).f1).toList) == (((rd_T30 x8_3 x87_5).f1).toList)) || (!((((rd_T30 t341 x87_5).f2).toList) == (((rd_T30 x8_3 x87_5).f2).toList))))) = true := c68
                                            clear c68
                                            obtain rfl := Option.some.inj H
                                            have p348 : 0 ≤ (x87_5 : Int) := of_decide_eq_true q_6
                                            have q348 : x87_5 < (t341.length : Int) := of_decide_eq_true q_6
                                            obtain ⟨ad348, e348, hx348_0, hx348_1, hx348_2⟩ := at_T30 (Kd.R_reads' HO_10.out).2.2 x87_5 p348 q348
                                            cases e348
                                            replace p348 := eq_true p348
                                            replace q348 := eq_true q348
                                            have p349 : 0 ≤ (x87_5 : Int) := of_decide_eq_true q_6
                                            have q349 : x87_5 < (x8_3.length : Int) := of_decide_eq_true q_6
                                            obtain ⟨ad349, e349, hx349_0, hx349_1, hx349_2⟩ := at_T30 (Kd.R_reads' HO_8.out).2.2 x87_5 p349 q349
                                            cases e349
                                            replace p349 := eq_true p349
                                            replace q349 := eq_true q349
                                            go_wp2
                                            repeat (go_quiet (fail); try go_wp2)
                                            go_ret
                                            exact ⟨q_10, q_75⟩
                                          · rw [if_neg c68] at H
                                            have c68b0 : (!(((rd_T30 t341 x87_5).f0) == ((rd_T30 x8_3 x87_5).f0)) || (!((((rd_T30 t341 x87_5).f1).toList) == (((rd_T30 x8_3 x87_5).f1).toList)) || (!((((rd_T30 t341 x87_5).f2).toList) == (((rd_T30 x8_3 x87_5).f2).toList))))) = false := by simpa using c68
                                            clear c68
                                            have H' := Aside0.mk H
                                            clear H
                                            have p348 : 0 ≤ (x87_5 : Int) := of_decide_eq_true q_6
                                            have q348 : x87_5 < (t341.length : Int) := of_decide_eq_true q_6
                                            obtain ⟨ad348, e348, hx348_0, hx348_1, hx348_2⟩ := at_T30 (Kd.R_reads' HO_10.out).2.2 x87_5 p348 q348
                                            cases e348
                                            replace p348 := eq_true p348
                                            replace q348 := eq_true q348
                                            have p349 : 0 ≤ (x87_5 : Int) := of_decide_eq_true q_6
                                            have q349 : x87_5 < (x8_3.length : Int) := of_decide_eq_true q_6
                                            obtain ⟨ad349, e349, hx349_0, hx349_1, hx349_2⟩ := at_T30 (Kd.R_reads' HO_8.out).2.2 x87_5 p349 q349
                                            cases e349
                                            replace p349 := eq_true p349
                                            replace q349 := eq_true q349
                                            go_wp2
                                            repeat (go_quiet (fail); try go_wp2)
                                            go_roundg k5
                                            case measure => have := HJ2.out; have := HK2.out; have := HK3.out; have := HJ46.out; have := HK5.out; omega
                                            case rel => exact ⟨(wrap64 (x87_5 + 1)), q_5, H', ⟨by have := HJ2.out; have := HK2.out; have := HK3.out; have := HJ46.out; have := HK5.out; omega⟩, ⟨q_78⟩, ⟨by (try simp only [hl8_3]); (with_reducible repeat (first | apply Kd.R_alloc | apply Kd.R_drewN | apply Kd.R_drew)); exact HO_10.out⟩, ⟨q_79⟩, ⟨q_80⟩, ⟨q_75⟩⟩
                                        · rw [if_neg c67] at H
                                          exact absurd H (by simp)
                                      · rw [if_neg c66] at H
                                        exact absurd H (by simp)
                                    · rw [if_neg c65] at H
                                      exact absurd H (by simp)
                                  · rw [if_neg c64] at H
                                    have c64b0 : decide (x87_5 < (t341.length : Int)) = false := decide_eq_false c64
                                    (try (have c64b0L := c64b0; simp only [hl8_3] at c64b0L))
                                    clear c64
                                    replace H := Option.bind_eq_some_iff.mp H
                                    obtain ⟨t350, A690, H⟩ := H
                                    replace H : (some t350) = some r := H
                                    have A69 := Aside0.mk A690
                                    clear A690
                                    obtain rfl := Option.some.inj H
                                    go_wp2_with (first | (go_at_call 9; (with_reducible refine (diacriticlaw23_awake.calls k5  t350 _ (GM.below HG.out q_75) A69.out).mono ?_); rintro e w70 ⟨rfl, hb⟩; have n0_ := Aside0.mk (Kd.R_below q_68 hb); have n1_ := Aside0.mk (Kd.R_below q_76 hb); have n2_ := Aside0.mk (blk_below (g := gb332) (o := .cells #[.int .i64 t330, .int .i64 t331] 26 (0, 0)) q_67 hb); have n3_ := Aside0.mk (blk_below (g := gb346) (o := .cells #[.int .i64 t344, .int .i64 t345] 26 (0, 0)) q_77 hb); have n4_ := Aside0.mk (below_step q_75 hb); clear HO_8; clear HO_10; clear BK332; clear BK346; clear HB; have HO_8 := n0_; have HO_10 := n1_; have BK332 := n2_; have BK346 := n3_; have HB := n4_; clear n0_ n1_ n2_ n3_ n4_; (try clear hb); (try clear hb2); (try clear hk); (try clear hi)))
                                    repeat (go_quiet (first | (go_at_call 9; (with_reducible refine (diacriticlaw23_awake.calls k5  t350 _ (GM.below HG.out q_75) A69.out).mono ?_); rintro e w70 ⟨rfl, hb⟩; have n0_ := Aside0.mk (Kd.R_below q_68 hb); have n1_ := Aside0.mk (Kd.R_below q_76 hb); have n2_ := Aside0.mk (blk_below (g := gb332) (o := .cells #[.int .i64 t330, .int .i64 t331] 26 (0, 0)) q_67 hb); have n3_ := Aside0.mk (blk_below (g := gb346) (o := .cells #[.int .i64 t344, .int .i64 t345] 26 (0, 0)) q_77 hb); have n4_ := Aside0.mk (below_step q_75 hb); clear HO_8; clear HO_10; clear BK332; clear BK346; clear HB; have HO_8 := n0_; have HO_10 := n1_; have BK332 := n2_; have BK346 := n3_; have HB := n4_; clear n0_ n1_ n2_ n3_ n4_; (try clear hb); (try clear hb2); (try clear hk); (try clear hi))); try go_wp2_with (first | (go_at_call 9; (with_reducible refine (diacriticlaw23_awake.calls k5  t350 _ (GM.below HG.out q_75) A69.out).mono ?_); rintro e w70 ⟨rfl, hb⟩; have n0_ := Aside0.mk (Kd.R_below q_68 hb); have n1_ := Aside0.mk (Kd.R_below q_76 hb); have n2_ := Aside0.mk (blk_below (g := gb332) (o := .cells #[.int .i64 t330, .int .i64 t331] 26 (0, 0)) q_67 hb); have n3_ := Aside0.mk (blk_below (g := gb346) (o := .cells #[.int .i64 t344, .int .i64 t345] 26 (0, 0)) q_77 hb); have n4_ := Aside0.mk (below_step q_75 hb); clear HO_8; clear HO_10; clear BK332; clear BK346; clear HB; have HO_8 := n0_; have HO_10 := n1_; have BK332 := n2_; have BK346 := n3_; have HB := n4_; clear n0_ n1_ n2_ n3_ n4_; (try clear hb); (try clear hb2); (try clear hk); (try clear hi))))
                                    go_ret
                                    exact ⟨q_10, q_75⟩
                · rw [if_neg c29] at H
                  exact absurd H (by simp)

/-- THE ONE PURE STATEMENT of diacriticlaw23_CueChanges: yours. -/
def diacriticlaw23_CueChanges.Pure : Prop := ∀ (a0 : ByteArray) (a1 : ByteArray), a0.size ≤ 140737488351232 → a1.size ≤ 140737488351232 → ∃ k, diacriticlaw23_CueChanges.f k a0 a1 = some true
theorem diacriticlaw23_CueChanges.walk (P : diacriticlaw23_CueChanges.Pure) (a0 : ByteArray) (a1 : ByteArray) (w : World) (w0 : a0.size ≤ 140737488351232) (w1 : a1.size ≤ 140737488351232) (hG : GM w) :
    Calls Tryd.prog 3 #[.string a0, .string a1] w fun e w' => e = .returned (.bool true) ∧ Below w.heap.size w w' := by
  obtain ⟨k, h⟩ := P a0 a1 w0 w1
  refine (diacriticlaw23_CueChanges.calls k a0 a1 true w hG h).mono ?_
  rintro e w' ⟨rfl, hd⟩
  exact ⟨rfl, hd⟩

end Go.Proofs.YtkhiiilfokijgaaDoor.PAll
