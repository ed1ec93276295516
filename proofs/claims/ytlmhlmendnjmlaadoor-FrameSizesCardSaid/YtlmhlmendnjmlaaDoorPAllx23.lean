/- Written by a program of this session: functions of the Go program as Lean functions, and the walks that tie them to it. -/
import Derived.Test.YtlmhlmendnjmlaaDoorPAllx0
import Derived.Test.YtlmhlmendnjmlaaDoorPAllx3
import Derived.Test.YtlmhlmendnjmlaaDoorPAllx8
import Derived.Test.YtlmhlmendnjmlaaDoorPAllx9
import Derived.Test.YtlmhlmendnjmlaaDoorPAllx11
import Derived.Test.YtlmhlmendnjmlaaDoorPAllx17
namespace Go.Proofs.YtlmhlmendnjmlaaDoor.PAll
open Go.RowKit Go.Proofs.YtlmhlmendnjmlaaDoorW.PrintWords Go.Proofs.YtlmhlmendnjmlaaDoorW.PrintLast Go.Proofs.YtlmhlmendnjmlaaDoorW.PrintMore
attribute [local go_sem] max2_int min2_int max_two min_two max_three min_three max_four min_four   -- for this text's walks alone
set_option linter.unusedVariables false
set_option linter.unusedSimpArgs false

/-! ### diacriticlaw13_FrameSizes: function 8 -/
mutual
def diacriticlaw13_FrameSizes.j0 : Nat → Int → Bool → ByteArray → Int → Int → Int → ByteArray → Int → Option (Bool)
  | 0, _, _, _, _, _, _, _, _ => none
  | k + 1, x0, x20, x558000, x558001, x558002, x558003, x558004, x558005 => if x20 = true then ((diacriticlaw13_awake.f k).bind fun t558 => (some t558)) else ((frame_Frame_Print.f k x558000 x558001 x558002 x558003 x558004 x558005 x0).bind fun bt559 => ((api_Fault_Bad.f bt559.2.1 bt559.2.2).bind fun t563 => (if t563 = true then ((diacriticlaw13_awake.f k).bind fun t564 => (some t564)) else (if (bt559.1.size : Int) < 6 then (diacriticlaw13_FrameSizes.j1 k x0 bt559.1 true x558000 x558001 x558002 x558003 x558004 x558005) else (if x0 > 2 then (diacriticlaw13_FrameSizes.j1 k x0 bt559.1 (decide ((bt559.1.size : Int) < 10)) x558000 x558001 x558002 x558003 x558004 x558005) else (diacriticlaw13_FrameSizes.j1 k x0 bt559.1 false x558000 x558001 x558002 x558003 x558004 x558005))))))
def diacriticlaw13_FrameSizes.j1 : Nat → Int → ByteArray → Bool → ByteArray → Int → Int → Int → ByteArray → Int → Option (Bool)
  | 0, _, _, _, _, _, _, _, _, _ => none
  | k + 1, x0, x5, x42, x558000, x558001, x558002, x558003, x558004, x558005 => if x42 = true then (some false) else (if x0 = 2 then (if 3 < (x5.size : Int) then (if 4 < (x5.size : Int) then (if 5 < (x5.size : Int) then (diacriticlaw13_FrameSizes.j2 k x0 x5 (Go.bits .or .i64 (Go.bits .or .i64 (wrap64 ((wrap64 (bt x5 3)) * 65536)) (wrap64 ((wrap64 (bt x5 4)) * 256))) (wrap64 (bt x5 5))) 6 x558000 x558001 x558002 x558003 x558004 x558005) else (none)) else (none)) else (none)) else (if x0 = 3 then (if 4 < (x5.size : Int) then (if 5 < (x5.size : Int) then (if 6 < (x5.size : Int) then (if 7 < (x5.size : Int) then (diacriticlaw13_FrameSizes.j2 k x0 x5 (Go.bits .or .i64 (Go.bits .or .i64 (Go.bits .or .i64 (wrap64 ((wrap64 (bt x5 4)) * 16777216)) (wrap64 ((wrap64 (bt x5 5)) * 65536))) (wrap64 ((wrap64 (bt x5 6)) * 256))) (wrap64 (bt x5 7))) 10 x558000 x558001 x558002 x558003 x558004 x558005) else (none)) else (none)) else (none)) else (none)) else (if x0 = 4 then (if 4 < (x5.size : Int) then (if 5 < (x5.size : Int) then (if 6 < (x5.size : Int) then (if 7 < (x5.size : Int) then (if (Go.bits .or .u8 (Go.bits .or .u8 (Go.bits .or .u8 (bt x5 4) (bt x5 5)) (bt x5 6)) (bt x5 7)) ≥ 128 then (some false) else (diacriticlaw13_FrameSizes.j2 k x0 x5 (Go.bits .or .i64 (Go.bits .or .i64 (Go.bits .or .i64 (wrap64 ((wrap64 (bt x5 4)) * 2097152)) (wrap64 ((wrap64 (bt x5 5)) * 16384))) (wrap64 ((wrap64 (bt x5 6)) * 128))) (wrap64 (bt x5 7))) 10 x558000 x558001 x558002 x558003 x558004 x558005)) else (none)) else (none)) else (none)) else (none)) else (diacriticlaw13_FrameSizes.j2 k x0 x5 0 10 x558000 x558001 x558002 x558003 x558004 x558005))))
def diacriticlaw13_FrameSizes.j2 : Nat → Int → ByteArray → Int → Int → ByteArray → Int → Int → Int → ByteArray → Int → Option (Bool)
  | 0, _, _, _, _, _, _, _, _, _, _ => none
  | k + 1, x0, x5, x7, x8, x558000, x558001, x558002, x558003, x558004, x558005 => (frame_Head_Spread.f x558000 x558001 x558002 x0).bind fun t565 => (if t565 = true then (diacriticlaw13_FrameSizes.l0 k x5 x7 x8 x8) else ((diacriticlaw13_awake.f k).bind fun t567 => (if t567 = true then (some ((x5.size : Int) == (wrap64 (x8 + x7)))) else (some false))))
def diacriticlaw13_FrameSizes.l0 : Nat → ByteArray → Int → Int → Int → Option (Bool)
  | 0, _, _, _, _ => none
  | k + 1, x5, x7, x8, x9 => if x9 < (wrap64 ((x5.size : Int) - 1)) then (if 0 ≤ x9 then (if x9 < (x5.size : Int) then (if (bt x5 x9) = 255 then (if 0 ≤ (wrap64 (x9 + 1)) then (if (wrap64 (x9 + 1)) < (x5.size : Int) then (if (bt x5 (wrap64 (x9 + 1))) ≥ 224 then (if x9 > (wrap64 (x8 + 5)) then (some false) else (diacriticlaw13_FrameSizes.l0 k x5 x7 x8 (wrap64 (x9 + 1)))) else (diacriticlaw13_FrameSizes.l0 k x5 x7 x8 (wrap64 (x9 + 1)))) else (none)) else (none)) else (diacriticlaw13_FrameSizes.l0 k x5 x7 x8 (wrap64 (x9 + 1)))) else (none)) else (none)) else ((diacriticlaw13_awake.f k).bind fun t566 => (if t566 = true then (some ((x5.size : Int) == (wrap64 (x8 + x7)))) else (some false)))
end
def diacriticlaw13_FrameSizes.f (k : Nat) (a0 : Int) (a1_0 : ByteArray) (a1_1 : Int) (a1_2 : Int) (a1_3 : Int) (a1_4 : ByteArray) (a1_5 : Int) : Option (Bool) := if (a1_4.size : Int) > 1000 then (diacriticlaw13_FrameSizes.j0 k a0 true a1_0 a1_1 a1_2 a1_3 a1_4 a1_5) else (diacriticlaw13_FrameSizes.j0 k a0 (decide ((a1_0.size : Int) > 100)) a1_0 a1_1 a1_2 a1_3 a1_4 a1_5)
theorem diacriticlaw13_FrameSizes.mono_l : ∀ k, (∀ y0 y1 y2 y3 y4 y5 y6 y7, LeO (diacriticlaw13_FrameSizes.j0 k y0 y1 y2 y3 y4 y5 y6 y7) (diacriticlaw13_FrameSizes.j0 (k + 1) y0 y1 y2 y3 y4 y5 y6 y7)) ∧ (∀ y0 y1 y2 y3 y4 y5 y6 y7 y8, LeO (diacriticlaw13_FrameSizes.j1 k y0 y1 y2 y3 y4 y5 y6 y7 y8) (diacriticlaw13_FrameSizes.j1 (k + 1) y0 y1 y2 y3 y4 y5 y6 y7 y8)) ∧ (∀ y0 y1 y2 y3 y4 y5 y6 y7 y8 y9, LeO (diacriticlaw13_FrameSizes.j2 k y0 y1 y2 y3 y4 y5 y6 y7 y8 y9) (diacriticlaw13_FrameSizes.j2 (k + 1) y0 y1 y2 y3 y4 y5 y6 y7 y8 y9)) ∧ (∀ y0 y1 y2 y3, LeO (diacriticlaw13_FrameSizes.l0 k y0 y1 y2 y3) (diacriticlaw13_FrameSizes.l0 (k + 1) y0 y1 y2 y3))
  | 0 => ⟨fun _ _ _ _ _ _ _ _ r h => by simp [diacriticlaw13_FrameSizes.j0] at h, fun _ _ _ _ _ _ _ _ _ r h => by simp [diacriticlaw13_FrameSizes.j1] at h, fun _ _ _ _ _ _ _ _ _ _ r h => by simp [diacriticlaw13_FrameSizes.j2] at h, fun _ _ _ _ r h => by simp [diacriticlaw13_FrameSizes.l0] at h⟩
  | k + 1 => by
    obtain ⟨ih0, ih1, ih2, ih3⟩ := diacriticlaw13_FrameSizes.mono_l k
    refine ⟨?_, ?_, ?_, ?_⟩
    · intro y0 y1 y2 y3 y4 y5 y6 y7
      unfold diacriticlaw13_FrameSizes.j0
      repeat' first
      | (with_reducible exact ih0 _ _ _ _ _ _ _ _)
      | (with_reducible exact ih1 _ _ _ _ _ _ _ _ _)
      | (with_reducible exact ih2 _ _ _ _ _ _ _ _ _ _)
      | (with_reducible exact ih3 _ _ _ _)
      | (with_reducible exact diacriticlaw13_awake.mono _)
      | (with_reducible exact frame_Frame_Print.mono _ _ _ _ _ _ _ _)
      | (with_reducible exact LeO.refl _)
      | (with_reducible exact LeO.none _)
      | (with_reducible refine LeO.ite ?_ ?_)
      | (with_reducible refine LeO.bind ?_ (fun _ => ?_))
      | exact ih0 _ _ _ _ _ _ _ _
      | exact ih1 _ _ _ _ _ _ _ _ _
      | exact ih2 _ _ _ _ _ _ _ _ _ _
      | exact ih3 _ _ _ _
      | exact diacriticlaw13_awake.mono _
      | exact frame_Frame_Print.mono _ _ _ _ _ _ _ _
      | exact LeO.none _
      | refine LeO.ite ?_ ?_
      | refine LeO.bind ?_ (fun _ => ?_)
    · intro y0 y1 y2 y3 y4 y5 y6 y7 y8
      unfold diacriticlaw13_FrameSizes.j1
      repeat' first
      | (with_reducible exact ih0 _ _ _ _ _ _ _ _)
      | (with_reducible exact ih1 _ _ _ _ _ _ _ _ _)
      | (with_reducible exact ih2 _ _ _ _ _ _ _ _ _ _)
      | (with_reducible exact ih3 _ _ _ _)
      | (with_reducible exact diacriticlaw13_awake.mono _)
      | (with_reducible exact frame_Frame_Print.mono _ _ _ _ _ _ _ _)
      | (with_reducible exact LeO.refl _)
      | (with_reducible exact LeO.none _)
      | (with_reducible refine LeO.ite ?_ ?_)
      | (with_reducible refine LeO.bind ?_ (fun _ => ?_))
      | exact ih0 _ _ _ _ _ _ _ _
      | exact ih1 _ _ _ _ _ _ _ _ _
      | exact ih2 _ _ _ _ _ _ _ _ _ _
      | exact ih3 _ _ _ _
      | exact diacriticlaw13_awake.mono _
      | exact frame_Frame_Print.mono _ _ _ _ _ _ _ _
      | exact LeO.none _
      | refine LeO.ite ?_ ?_
      | refine LeO.bind ?_ (fun _ => ?_)
    · intro y0 y1 y2 y3 y4 y5 y6 y7 y8 y9
      unfold diacriticlaw13_FrameSizes.j2
      repeat' first
      | (with_reducible exact ih0 _ _ _ _ _ _ _ _)
      | (with_reducible exact ih1 _ _ _ _ _ _ _ _ _)
      | (with_reducible exact ih2 _ _ _ _ _ _ _ _ _ _)
      | (with_reducible exact ih3 _ _ _ _)
      | (with_reducible exact diacriticlaw13_awake.mono _)
      | (with_reducible exact frame_Frame_Print.mono _ _ _ _ _ _ _ _)
      | (with_reducible exact LeO.refl _)
      | (with_reducible exact LeO.none _)
      | (with_reducible refine LeO.ite ?_ ?_)
      | (with_reducible refine LeO.bind ?_ (fun _ => ?_))
      | exact ih0 _ _ _ _ _ _ _ _
      | exact ih1 _ _ _ _ _ _ _ _ _
      | exact ih2 _ _ _ _ _ _ _ _ _ _
      | exact ih3 _ _ _ _
      | exact diacriticlaw13_awake.mono _
      | exact frame_Frame_Print.mono _ _ _ _ _ _ _ _
      | exact LeO.none _
      | refine LeO.ite ?_ ?_
      | refine LeO.bind ?_ (fun _ => ?_)
    · intro y0 y1 y2 y3
      unfold diacriticlaw13_FrameSizes.l0
      repeat' first
      | (with_reducible exact ih0 _ _ _ _ _ _ _ _)
      | (with_reducible exact ih1 _ _ _ _ _ _ _ _ _)
      | (with_reducible exact ih2 _ _ _ _ _ _ _ _ _ _)
      | (with_reducible exact ih3 _ _ _ _)
      | (with_reducible exact diacriticlaw13_awake.mono _)
      | (with_reducible exact frame_Frame_Print.mono _ _ _ _ _ _ _ _)
      | (with_reducible exact LeO.refl _)
      | (with_reducible exact LeO.none _)
      | (with_reducible refine LeO.ite ?_ ?_)
      | (with_reducible refine LeO.bind ?_ (fun _ => ?_))
      | exact ih0 _ _ _ _ _ _ _ _
      | exact ih1 _ _ _ _ _ _ _ _ _
      | exact ih2 _ _ _ _ _ _ _ _ _ _
      | exact ih3 _ _ _ _
      | exact diacriticlaw13_awake.mono _
      | exact frame_Frame_Print.mono _ _ _ _ _ _ _ _
      | exact LeO.none _
      | refine LeO.ite ?_ ?_
      | refine LeO.bind ?_ (fun _ => ?_)
theorem diacriticlaw13_FrameSizes.mono : ∀ a0 a1 a2 a3 a4 a5 a6 k, LeO (diacriticlaw13_FrameSizes.f k a0 a1 a2 a3 a4 a5 a6) (diacriticlaw13_FrameSizes.f (k + 1) a0 a1 a2 a3 a4 a5 a6) := by
  intro a0 a1 a2 a3 a4 a5 a6 k
  obtain ⟨ih0, ih1, ih2, ih3⟩ := diacriticlaw13_FrameSizes.mono_l k
  unfold diacriticlaw13_FrameSizes.f
  repeat' first
      | (with_reducible exact ih0 _ _ _ _ _ _ _ _)
      | (with_reducible exact ih1 _ _ _ _ _ _ _ _ _)
      | (with_reducible exact ih2 _ _ _ _ _ _ _ _ _ _)
      | (with_reducible exact ih3 _ _ _ _)
      | (with_reducible exact diacriticlaw13_awake.mono _)
      | (with_reducible exact frame_Frame_Print.mono _ _ _ _ _ _ _ _)
      | (with_reducible exact LeO.refl _)
      | (with_reducible exact LeO.none _)
      | (with_reducible refine LeO.ite ?_ ?_)
      | (with_reducible refine LeO.bind ?_ (fun _ => ?_))
      | exact ih0 _ _ _ _ _ _ _ _
      | exact ih1 _ _ _ _ _ _ _ _ _
      | exact ih2 _ _ _ _ _ _ _ _ _ _
      | exact ih3 _ _ _ _
      | exact diacriticlaw13_awake.mono _
      | exact frame_Frame_Print.mono _ _ _ _ _ _ _ _
      | exact LeO.none _
      | refine LeO.ite ?_ ?_
      | refine LeO.bind ?_ (fun _ => ?_)
set_option maxHeartbeats 8000000 in
set_option maxRecDepth 100000 in
theorem diacriticlaw13_FrameSizes.calls (k : Nat) (a0 : Int) (a1_0 : ByteArray) (a1_1 : Int) (a1_2 : Int) (a1_3 : Int) (a1_4 : ByteArray) (a1_5 : Int) (r : Bool) (w : World) (hG : GM w) (h : diacriticlaw13_FrameSizes.f k a0 a1_0 a1_1 a1_2 a1_3 a1_4 a1_5 = some r) :
    Calls Tryd.prog 8 #[.int .i64 a0, .agg #[.string a1_0, .int .u8 a1_1, .int .u8 a1_2, .int .u8 a1_3, .string a1_4, .int .i64 a1_5]] w fun e w' => e = .returned (.bool r) ∧ Below w.heap.size w w' := by
  have hu36 := Tryd.underlying36
  have hu39 := Tryd.underlying39
  have hu29 := Tryd.underlying29
  have HB := Aside0.mk (Below.refl w.heap.size w)
  have HG := Aside0.mk hG
  clear hG
  have H : (if (a1_4.size : Int) > 1000 then (diacriticlaw13_FrameSizes.j0 k a0 true a1_0 a1_1 a1_2 a1_3 a1_4 a1_5) else (diacriticlaw13_FrameSizes.j0 k a0 (decide ((a1_0.size : Int) > 100)) a1_0 a1_1 a1_2 a1_3 a1_4 a1_5)) = some r := h
  clear h
  have HC3 := Aside0.mk H
  clear H
  go_enter Tryd.func8, Tryd.ntmps8
  go_upto_region 1 with (first | ((with_reducible refine gate_dst (N := 3) rfl ?_); (try (refine gate_guard (by rfl) ?_; dsimp only)); refine box_event ?hg (N := 3) ?hd (cs := #[.string a1_0, .int .u8 a1_1, .int .u8 a1_2, .int .u8 a1_3, .string a1_4, .int .i64 a1_5]) (t := 36) ?hr ?_; (case hd => rfl); (case hg => rfl); (case hr => first | (go_simp; done) | (go_simp; rfl)); intro gb557 hg w4 hbox hb; have n0_ := Aside0.mk (below_step q_3 hb); have n1_ := Aside0.mk (hbox); have n2_ := Aside0.mk ((by rw [hg]; exact (below_size q_3) : w.heap.size ≤ gb557)); have n3_ := Aside0.mk ((by rw [hg]; exact (below_size q_3) : w.heap.size ≤ gb557)); clear HB; have HB := n0_; have BK557 := n1_; have GW557 := n2_; have GE557 := n3_; clear n0_ n1_ n2_ n3_; clear hb hbox hg))
  repeat (go_quiet (first | ((with_reducible refine gate_dst (N := 3) rfl ?_); (try (refine gate_guard (by rfl) ?_; dsimp only)); refine box_event ?hg (N := 3) ?hd (cs := #[.string a1_0, .int .u8 a1_1, .int .u8 a1_2, .int .u8 a1_3, .string a1_4, .int .i64 a1_5]) (t := 36) ?hr ?_; (case hd => rfl); (case hg => rfl); (case hr => first | (go_simp; done) | (go_simp; rfl)); intro gb557 hg w4 hbox hb; have n0_ := Aside0.mk (below_step q_3 hb); have n1_ := Aside0.mk (hbox); have n2_ := Aside0.mk ((by rw [hg]; exact (below_size q_3) : w.heap.size ≤ gb557)); have n3_ := Aside0.mk ((by rw [hg]; exact (below_size q_3) : w.heap.size ≤ gb557)); clear HB; have HB := n0_; have BK557 := n1_; have GW557 := n2_; have GE557 := n3_; clear n0_ n1_ n2_ n3_; clear hb hbox hg)); go_upto_region 1 with (first | ((with_reducible refine gate_dst (N := 3) rfl ?_); (try (refine gate_guard (by rfl) ?_; dsimp only)); refine box_event ?hg (N := 3) ?hd (cs := #[.string a1_0, .int .u8 a1_1, .int .u8 a1_2, .int .u8 a1_3, .string a1_4, .int .i64 a1_5]) (t := 36) ?hr ?_; (case hd => rfl); (case hg => rfl); (case hr => first | (go_simp; done) | (go_simp; rfl)); intro gb557 hg w4 hbox hb; have n0_ := Aside0.mk (below_step q_3 hb); have n1_ := Aside0.mk (hbox); have n2_ := Aside0.mk ((by rw [hg]; exact (below_size q_3) : w.heap.size ≤ gb557)); have n3_ := Aside0.mk ((by rw [hg]; exact (below_size q_3) : w.heap.size ≤ gb557)); clear HB; have HB := n0_; have BK557 := n1_; have GW557 := n2_; have GE557 := n3_; clear n0_ n1_ n2_ n3_; clear hb hbox hg)))
  (try simp only [Act.put, List.setIfInBounds_toArray, List.set_cons_zero, List.set_cons_succ])
  go_cut [20] (fun v20 wc => ∃ (kq : Nat) (x20_2 : Bool), v20 = .bool x20_2 ∧ Aside0 (diacriticlaw13_FrameSizes.j0 kq a0 x20_2 a1_0 a1_1 a1_2 a1_3 a1_4 a1_5 = some r) ∧ Aside0 (kq ≤ k) ∧ Aside0 (wc.heap[gb557]? = some (.cells #[.string a1_0, .int .u8 a1_1, .int .u8 a1_2, .int .u8 a1_3, .string a1_4, .int .i64 a1_5] 36 (0, 0))) ∧ Aside0 (Below w.heap.size w wc))
  case first =>
    have H := HC3.out
    clear HC3
    by_cases c5 : (a1_4.size : Int) > 1000
    · rw [if_pos c5] at H
      have c5b0 : decide (1000 < (a1_4.size : Int)) = true := decide_eq_true c5
      have c5b1 : decide (1000 < a1_4.size) = true := decide_eq_true (by omega)
      clear c5
      (first | rw [c5b0] | (simp only [i64_w, i32_w]; rw [c5b0]) | skip)
      have H' := Aside0.mk H
      clear H
      obtain ⟨hcz6_0, hcz6_1, hcz6_2, hcz6_3, hcz6_4, hcz6_5, hfz6_0, hfz6_1, hfz6_2, hfz6_3, hfz6_4, hfz6_5⟩ := cells6_ BK557.out
      go_wp2
      repeat (go_quiet (fail); try go_wp2)
      go_meet
      case rel => exact ⟨_, (true), q_1, H', ⟨by first | omega | exact Nat.le_refl _⟩, ⟨q_109⟩, ⟨q_108⟩⟩
    · rw [if_neg c5] at H
      have c5b0 : decide (1000 < (a1_4.size : Int)) = false := decide_eq_false c5
      have c5b1 : decide (1000 < a1_4.size) = false := decide_eq_false (by omega)
      clear c5
      (first | rw [c5b0] | (simp only [i64_w, i32_w]; rw [c5b0]) | skip)
      have H' := Aside0.mk H
      clear H
      obtain ⟨hcz7_0, hcz7_1, hcz7_2, hcz7_3, hcz7_4, hcz7_5, hfz7_0, hfz7_1, hfz7_2, hfz7_3, hfz7_4, hfz7_5⟩ := cells6_ BK557.out
      go_wp2
      repeat (go_quiet (fail); try go_wp2)
      go_meet
      case rel => exact ⟨_, (decide ((a1_0.size : Int) > 100)), q_1, H', ⟨by first | omega | exact Nat.le_refl _⟩, ⟨q_109⟩, ⟨q_108⟩⟩
  case rest =>
    clear HC3
    try clear p2; try clear c5; try clear c5b0; try clear c5b1; try clear hcz6_0; try clear hcz6_1; try clear hcz6_2; try clear hcz6_3; try clear hcz6_4; try clear hcz6_5; try clear hcz7_0; try clear hcz7_1; try clear hcz7_2; try clear hcz7_3; try clear hcz7_4; try clear hcz7_5; try clear hfz6_0; try clear hfz6_1; try clear hfz6_2; try clear hfz6_3; try clear hfz6_4; try clear hfz6_5; try clear hfz7_0; try clear hfz7_1; try clear hfz7_2; try clear hfz7_3; try clear hfz7_4; try clear hfz7_5
    obtain ⟨kq, x20_2, rfl, HA, HJ2, BK557, HB⟩ := hcut
    cases kq with
    | zero => exact absurd HA.out (by simp [diacriticlaw13_FrameSizes.j0])
    | succ kj2 =>
      have H := HA.out
      clear HA
      simp only [diacriticlaw13_FrameSizes.j0] at H
      by_cases c8 : x20_2 = true
      · subst c8
        have H1 : ((diacriticlaw13_awake.f kj2).bind fun t558 => (some t558)) = some r := by rw [if_pos rfl] at H; exact H
        clear H
        have H := H1
        clear H1
        replace H := Option.bind_eq_some_iff.mp H
        obtain ⟨t558, A90, H⟩ := H
        replace H : (some t558) = some r := H
        have A9 := Aside0.mk A90
        clear A90
        obtain rfl := Option.some.inj H
        go_wp2_with (first | (go_at_call 18; (with_reducible refine (diacriticlaw13_awake.calls kj2  t558 _ (GM.below HG.out q_108) A9.out).mono ?_); rintro e w10 ⟨rfl, hb⟩; have n0_ := Aside0.mk (blk_below (g := gb557) (o := .cells #[.string a1_0, .int .u8 a1_1, .int .u8 a1_2, .int .u8 a1_3, .string a1_4, .int .i64 a1_5] 36 (0, 0)) q_109 hb); have n1_ := Aside0.mk (below_step q_108 hb); clear BK557; clear HB; have BK557 := n0_; have HB := n1_; clear n0_ n1_; (try clear hb); (try clear hb2); (try clear hk); (try clear hi)))
        repeat (go_quiet (first | (go_at_call 18; (with_reducible refine (diacriticlaw13_awake.calls kj2  t558 _ (GM.below HG.out q_108) A9.out).mono ?_); rintro e w10 ⟨rfl, hb⟩; have n0_ := Aside0.mk (blk_below (g := gb557) (o := .cells #[.string a1_0, .int .u8 a1_1, .int .u8 a1_2, .int .u8 a1_3, .string a1_4, .int .i64 a1_5] 36 (0, 0)) q_109 hb); have n1_ := Aside0.mk (below_step q_108 hb); clear BK557; clear HB; have BK557 := n0_; have HB := n1_; clear n0_ n1_; (try clear hb); (try clear hb2); (try clear hk); (try clear hi))); try go_wp2_with (first | (go_at_call 18; (with_reducible refine (diacriticlaw13_awake.calls kj2  t558 _ (GM.below HG.out q_108) A9.out).mono ?_); rintro e w10 ⟨rfl, hb⟩; have n0_ := Aside0.mk (blk_below (g := gb557) (o := .cells #[.string a1_0, .int .u8 a1_1, .int .u8 a1_2, .int .u8 a1_3, .string a1_4, .int .i64 a1_5] 36 (0, 0)) q_109 hb); have n1_ := Aside0.mk (below_step q_108 hb); clear BK557; clear HB; have BK557 := n0_; have HB := n1_; clear n0_ n1_; (try clear hb); (try clear hb2); (try clear hk); (try clear hi))))
        go_ret
        exact ⟨q_11, q_108⟩
      · replace c8 := Bool.eq_false_iff.mpr c8
        subst c8
        have H1 : ((frame_Frame_Print.f kj2 a1_0 a1_1 a1_2 a1_3 a1_4 a1_5 a0).bind fun bt559 => ((api_Fault_Bad.f bt559.2.1 bt559.2.2).bind fun t563 => (if t563 = true then ((diacriticlaw13_awake.f kj2).bind fun t564 => (some t564)) else (if (bt559.1.size : Int) < 6 then (diacriticlaw13_FrameSizes.j1 kj2 a0 bt559.1 true a1_0 a1_1 a1_2 a1_3 a1_4 a1_5) else (if a0 > 2 then (diacriticlaw13_FrameSizes.j1 kj2 a0 bt559.1 (decide ((bt559.1.size : Int) < 10)) a1_0 a1_1 a1_2 a1_3 a1_4 a1_5) else (diacriticlaw13_FrameSizes.j1 kj2 a0 bt559.1 false a1_0 a1_1 a1_2 a1_3 a1_4 a1_5)))))) = some r := by rw [if_neg (show ¬ (false = true) by decide)] at H; exact H
        clear H
        have H := H1
        clear H1
        replace H := Option.bind_eq_some_iff.mp H
        obtain ⟨⟨t559, t560, t561⟩, A110, H⟩ := H
        replace H : ((api_Fault_Bad.f t560 t561).bind fun t563 => (if t563 = true then ((diacriticlaw13_awake.f kj2).bind fun t564 => (some t564)) else (if (t559.size : Int) < 6 then (diacriticlaw13_FrameSizes.j1 kj2 a0 t559 true a1_0 a1_1 a1_2 a1_3 a1_4 a1_5) else (if a0 > 2 then (diacriticlaw13_FrameSizes.j1 kj2 a0 t559 (decide ((t559.size : Int) < 10)) a1_0 a1_1 a1_2 a1_3 a1_4 a1_5) else (diacriticlaw13_FrameSizes.j1 kj2 a0 t559 false a1_0 a1_1 a1_2 a1_3 a1_4 a1_5))))) = some r := H
        have A11 := Aside0.mk A110
        clear A110
        replace H := Option.bind_eq_some_iff.mp H
        obtain ⟨t563, A120, H⟩ := H
        replace H : (if t563 = true then ((diacriticlaw13_awake.f kj2).bind fun t564 => (some t564)) else (if (t559.size : Int) < 6 then (diacriticlaw13_FrameSizes.j1 kj2 a0 t559 true a1_0 a1_1 a1_2 a1_3 a1_4 a1_5) else (if a0 > 2 then (diacriticlaw13_FrameSizes.j1 kj2 a0 t559 (decide ((t559.size : Int) < 10)) a1_0 a1_1 a1_2 a1_3 a1_4 a1_5) else (diacriticlaw13_FrameSizes.j1 kj2 a0 t559 false a1_0 a1_1 a1_2 a1_3 a1_4 a1_5)))) = some r := H
        have A12 := Aside0.mk A120
        clear A120
        by_cases c13 : t563 = true
        · subst c13
          have H1 : ((diacriticlaw13_awake.f kj2).bind fun t564 => (some t564)) = some r := by rw [if_pos rfl] at H; exact H
          clear H
          have H := H1
          clear H1
          replace H := Option.bind_eq_some_iff.mp H
          obtain ⟨t564, A140, H⟩ := H
          replace H : (some t564) = some r := H
          have A14 := Aside0.mk A140
          clear A140
          obtain rfl := Option.some.inj H
          obtain ⟨hcz15_0, hcz15_1, hcz15_2, hcz15_3, hcz15_4, hcz15_5, hfz15_0, hfz15_1, hfz15_2, hfz15_3, hfz15_4, hfz15_5⟩ := cells6_ BK557.out
          go_wp2_with (first | (go_at_call 31; (with_reducible refine (frame_Frame_Print.calls kj2 a1_0 a1_1 a1_2 a1_3 a1_4 a1_5 a0 t559 t560 t561 _ A11.out).mono ?_); rintro e w16 ⟨rfl, hb⟩; have n0_ := Aside0.mk (blk_below (g := gb557) (o := .cells #[.string a1_0, .int .u8 a1_1, .int .u8 a1_2, .int .u8 a1_3, .string a1_4, .int .i64 a1_5] 36 (0, 0)) q_109 hb); have n1_ := Aside0.mk (below_step q_108 hb); clear BK557; clear HB; have BK557 := n0_; have HB := n1_; clear n0_ n1_; (try clear hb); (try clear hb2); (try clear hk); (try clear hi)) | ((with_reducible refine gate_dst (N := 6) rfl ?_); (try (refine gate_guard (by rfl) ?_; dsimp only)); refine box_event ?hg (N := 6) ?hd (cs := #[.int .i64 0, .int .i64 0]) (t := 39) ?hr ?_; (case hd => rfl); (case hg => rfl); (case hr => first | (go_simp; done) | (go_simp; rfl)); intro gb562 hg w17 hbox hb; have n0_ := Aside0.mk (blk_below (g := gb557) (o := .cells #[.string a1_0, .int .u8 a1_1, .int .u8 a1_2, .int .u8 a1_3, .string a1_4, .int .i64 a1_5] 36 (0, 0)) q_109 hb); have n1_ := Aside0.mk (below_step q_108 hb); have n2_ := Aside0.mk (hbox); have n3_ := Aside0.mk ((by rw [hg]; exact (below_size q_108) : w.heap.size ≤ gb562)); have n4_ := Aside0.mk ((by rw [hg]; exact (below_size q_108) : w.heap.size ≤ gb562)); have n5_ := Aside0.mk ((q_153 : gb557 ≠ gb562)); have n6_ := Aside0.mk ((q_154 : gb562 ≠ gb557)); clear BK557; clear HB; have BK557 := n0_; have HB := n1_; have BK562 := n2_; have GW562 := n3_; have GE562 := n4_; have NB557_562 := n5_; have NB562_557 := n6_; clear n0_ n1_ n2_ n3_ n4_ n5_ n6_; clear hb hbox hg; have hnb18 := NB562_557.out; have hnc18 := NB557_562.out; obtain ⟨hcz19_0, hcz19_1, hfz19_0, hfz19_1⟩ := cells2_ BK562.out) | (go_at_call 39; (with_reducible refine (api_Fault_Bad.calls t560 t561 true _ A12.out).mono ?_); rintro e w20 ⟨rfl, hb⟩; have n0_ := Aside0.mk (blk_below (g := gb557) (o := .cells #[.string a1_0, .int .u8 a1_1, .int .u8 a1_2, .int .u8 a1_3, .string a1_4, .int .i64 a1_5] 36 (0, 0)) q_110 hb); have n1_ := Aside0.mk (blk_below (g := gb562) (o := .cells #[.int .i64 t560, .int .i64 t561] 39 (0, 0)) q_111 hb); have n2_ := Aside0.mk (below_step q_112 hb); clear BK557; clear BK562; clear HB; have BK557 := n0_; have BK562 := n1_; have HB := n2_; clear n0_ n1_ n2_; (try clear hb); (try clear hb2); (try clear hk); (try clear hi)) | (go_at_call 18; (with_reducible refine (diacriticlaw13_awake.calls kj2  t564 _ (GM.below HG.out q_112) A14.out).mono ?_); rintro e w21 ⟨rfl, hb⟩; have n0_ := Aside0.mk (blk_below (g := gb557) (o := .cells #[.string a1_0, .int .u8 a1_1, .int .u8 a1_2, .int .u8 a1_3, .string a1_4, .int .i64 a1_5] 36 (0, 0)) q_109 hb); have n1_ := Aside0.mk (blk_below (g := gb562) (o := .cells #[.int .i64 t560, .int .i64 t561] 39 (0, 0)) q_113 hb); have n2_ := Aside0.mk (below_step q_112 hb); clear BK557; clear BK562; clear HB; have BK557 := n0_; have BK562 := n1_; have HB := n2_; clear n0_ n1_ n2_; (try clear hb); (try clear hb2); (try clear hk); (try clear hi)))
          repeat (go_quiet (first | (go_at_call 31; (with_reducible refine (frame_Frame_Print.calls kj2 a1_0 a1_1 a1_2 a1_3 a1_4 a1_5 a0 t559 t560 t561 _ A11.out).mono ?_); rintro e w16 ⟨rfl, hb⟩; have n0_ := Aside0.mk (blk_below (g := gb557) (o := .cells #[.string a1_0, .int .u8 a1_1, .int .u8 a1_2, .int .u8 a1_3, .string a1_4, .int .i64 a1_5] 36 (0, 0)) q_109 hb); have n1_ := Aside0.mk (below_step q_108 hb); clear BK557; clear HB; have BK557 := n0_; have HB := n1_; clear n0_ n1_; (try clear hb); (try clear hb2); (try clear hk); (try clear hi)) | ((with_reducible refine gate_dst (N := 6) rfl ?_); (try (refine gate_guard (by rfl) ?_; dsimp only)); refine box_event ?hg (N := 6) ?hd (cs := #[.int .i64 0, .int .i64 0]) (t := 39) ?hr ?_; (case hd => rfl); (case hg => rfl); (case hr => first | (go_simp; done) | (go_simp; rfl)); intro gb562 hg w17 hbox hb; have n0_ := Aside0.mk (blk_below (g := gb557) (o := .cells #[.string a1_0, .int .u8 a1_1, .int .u8 a1_2, .int .u8 a1_3, .string a1_4, .int .i64 a1_5] 36 (0, 0)) q_109 hb); have n1_ := Aside0.mk (below_step q_108 hb); have n2_ := Aside0.mk (hbox); have n3_ := Aside0.mk ((by rw [hg]; exact (below_size q_108) : w.heap.size ≤ gb562)); have n4_ := Aside0.mk ((by rw [hg]; exact (below_size q_108) : w.heap.size ≤ gb562)); have n5_ := Aside0.mk ((q_153 : gb557 ≠ gb562)); have n6_ := Aside0.mk ((q_154 : gb562 ≠ gb557)); clear BK557; clear HB; have BK557 := n0_; have HB := n1_; have BK562 := n2_; have GW562 := n3_; have GE562 := n4_; have NB557_562 := n5_; have NB562_557 := n6_; clear n0_ n1_ n2_ n3_ n4_ n5_ n6_; clear hb hbox hg; have hnb18 := NB562_557.out; have hnc18 := NB557_562.out; obtain ⟨hcz19_0, hcz19_1, hfz19_0, hfz19_1⟩ := cells2_ BK562.out) | (go_at_call 39; (with_reducible refine (api_Fault_Bad.calls t560 t561 true _ A12.out).mono ?_); rintro e w20 ⟨rfl, hb⟩; have n0_ := Aside0.mk (blk_below (g := gb557) (o := .cells #[.string a1_0, .int .u8 a1_1, .int .u8 a1_2, .int .u8 a1_3, .string a1_4, .int .i64 a1_5] 36 (0, 0)) q_110 hb); have n1_ := Aside0.mk (blk_below (g := gb562) (o := .cells #[.int .i64 t560, .int .i64 t561] 39 (0, 0)) q_111 hb); have n2_ := Aside0.mk (below_step q_112 hb); clear BK557; clear BK562; clear HB; have BK557 := n0_; have BK562 := n1_; have HB := n2_; clear n0_ n1_ n2_; (try clear hb); (try clear hb2); (try clear hk); (try clear hi)) | (go_at_call 18; (with_reducible refine (diacriticlaw13_awake.calls kj2  t564 _ (GM.below HG.out q_112) A14.out).mono ?_); rintro e w21 ⟨rfl, hb⟩; have n0_ := Aside0.mk (blk_below (g := gb557) (o := .cells #[.string a1_0, .int .u8 a1_1, .int .u8 a1_2, .int .u8 a1_3, .string a1_4, .int .i64 a1_5] 36 (0, 0)) q_109 hb); have n1_ := Aside0.mk (blk_below (g := gb562) (o := .cells #[.int .i64 t560, .int .i64 t561] 39 (0, 0)) q_113 hb); have n2_ := Aside0.mk (below_step q_112 hb); clear BK557; clear BK562; clear HB; have BK557 := n0_; have BK562 := n1_; have HB := n2_; clear n0_ n1_ n2_; (try clear hb); (try clear hb2); (try clear hk); (try clear hi))); try go_wp2_with (first | (go_at_call 31; (with_reducible refine (frame_Frame_Print.calls kj2 a1_0 a1_1 a1_2 a1_3 a1_4 a1_5 a0 t559 t560 t561 _ A11.out).mono ?_); rintro e w16 ⟨rfl, hb⟩; have n0_ := Aside0.mk (blk_below (g := gb557) (o := .cells #[.string a1_0, .int .u8 a1_1, .int .u8 a1_2, .int .u8 a1_3, .string a1_4, .int .i64 a1_5] 36 (0, 0)) q_109 hb); have n1_ := Aside0.mk (below_step q_108 hb); clear BK557; clear HB; have BK557 := n0_; have HB := n1_; clear n0_ n1_; (try clear hb); (try clear hb2); (try clear hk); (try clear hi)) | ((with_reducible refine gate_dst (N := 6) rfl ?_); (try (refine gate_guard (by rfl) ?_; dsimp only)); refine box_event ?hg (N := 6) ?hd (cs := #[.int .i64 0, .int .i64 0]) (t := 39) ?hr ?_; (case hd => rfl); (case hg => rfl); (case hr => first | (go_simp; done) | (go_simp; rfl)); intro gb562 hg w17 hbox hb; have n0_ := Aside0.mk (blk_below (g := gb557) (o := .cells #[.string a1_0, .int .u8 a1_1, .int .u8 a1_2, .int .u8 a1_3, .string a1_4, .int .i64 a1_5] 36 (0, 0)) q_109 hb); have n1_ := Aside0.mk (below_step q_108 hb); have n2_ := Aside0.mk (hbox); have n3_ := Aside0.mk ((by rw [hg]; exact (below_size q_108) : w.heap.size ≤ gb562)); have n4_ := Aside0.mk ((by rw [hg]; exact (below_size q_108) : w.heap.size ≤ gb562)); have n5_ := Aside0.mk ((q_153 : gb557 ≠ gb562)); have n6_ := Aside0.mk ((q_154 : gb562 ≠ gb557)); clear BK557; clear HB; have BK557 := n0_; have HB := n1_; have BK562 := n2_; have GW562 := n3_; have GE562 := n4_; have NB557_562 := n5_; have NB562_557 := n6_; clear n0_ n1_ n2_ n3_ n4_ n5_ n6_; clear hb hbox hg; have hnb18 := NB562_557.out; have hnc18 := NB557_562.out; obtain ⟨hcz19_0, hcz19_1, hfz19_0, hfz19_1⟩ := cells2_ BK562.out) | (go_at_call 39; (with_reducible refine (api_Fault_Bad.calls t560 t561 true _ A12.out).mono ?_); rintro e w20 ⟨rfl, hb⟩; have n0_ := Aside0.mk (blk_below (g := gb557) (o := .cells #[.string a1_0, .int .u8 a1_1, .int .u8 a1_2, .int .u8 a1_3, .string a1_4, .int .i64 a1_5] 36 (0, 0)) q_110 hb); have n1_ := Aside0.mk (blk_below (g := gb562) (o := .cells #[.int .i64 t560, .int .i64 t561] 39 (0, 0)) q_111 hb); have n2_ := Aside0.mk (below_step q_112 hb); clear BK557; clear BK562; clear HB; have BK557 := n0_; have BK562 := n1_; have HB := n2_; clear n0_ n1_ n2_; (try clear hb); (try clear hb2); (try clear hk); (try clear hi)) | (go_at_call 18; (with_reducible refine (diacriticlaw13_awake.calls kj2  t564 _ (GM.below HG.out q_112) A14.out).mono ?_); rintro e w21 ⟨rfl, hb⟩; have n0_ := Aside0.mk (blk_below (g := gb557) (o := .cells #[.string a1_0, .int .u8 a1_1, .int .u8 a1_2, .int .u8 a1_3, .string a1_4, .int .i64 a1_5] 36 (0, 0)) q_109 hb); have n1_ := Aside0.mk (blk_below (g := gb562) (o := .cells #[.int .i64 t560, .int .i64 t561] 39 (0, 0)) q_113 hb); have n2_ := Aside0.mk (below_step q_112 hb); clear BK557; clear BK562; clear HB; have BK557 := n0_; have BK562 := n1_; have HB := n2_; clear n0_ n1_ n2_; (try clear hb); (try clear hb2); (try clear hk); (try clear hi))))
          go_ret
          exact ⟨q_11, q_112⟩
        · replace c13 := Bool.eq_false_iff.mpr c13
          subst c13
          have H1 : (if (t559.size : Int) < 6 then (diacriticlaw13_FrameSizes.j1 kj2 a0 t559 true a1_0 a1_1 a1_2 a1_3 a1_4 a1_5) else (if a0 > 2 then (diacriticlaw13_FrameSizes.j1 kj2 a0 t559 (decide ((t559.size : Int) < 10)) a1_0 a1_1 a1_2 a1_3 a1_4 a1_5) else (diacriticlaw13_FrameSizes.j1 kj2 a0 t559 false a1_0 a1_1 a1_2 a1_3 a1_4 a1_5))) = some r := by rw [if_neg (show ¬ (false = true) by decide)] at H; exact H
          clear H
          have H := H1
          clear H1
          have HC22 := Aside0.mk H
          clear H
          obtain ⟨hcz23_0, hcz23_1, hcz23_2, hcz23_3, hcz23_4, hcz23_5, hfz23_0, hfz23_1, hfz23_2, hfz23_3, hfz23_4, hfz23_5⟩ := cells6_ BK557.out
          go_upto_region 6 with (first | (go_at_call 31; (with_reducible refine (frame_Frame_Print.calls kj2 a1_0 a1_1 a1_2 a1_3 a1_4 a1_5 a0 t559 t560 t561 _ A11.out).mono ?_); rintro e w24 ⟨rfl, hb⟩; have n0_ := Aside0.mk (blk_below (g := gb557) (o := .cells #[.string a1_0, .int .u8 a1_1, .int .u8 a1_2, .int .u8 a1_3, .string a1_4, .int .i64 a1_5] 36 (0, 0)) q_109 hb); have n1_ := Aside0.mk (below_step q_108 hb); clear BK557; clear HB; have BK557 := n0_; have HB := n1_; clear n0_ n1_; (try clear hb); (try clear hb2); (try clear hk); (try clear hi)) | ((with_reducible refine gate_dst (N := 6) rfl ?_); (try (refine gate_guard (by rfl) ?_; dsimp only)); refine box_event ?hg (N := 6) ?hd (cs := #[.int .i64 0, .int .i64 0]) (t := 39) ?hr ?_; (case hd => rfl); (case hg => rfl); (case hr => first | (go_simp; done) | (go_simp; rfl)); intro gb562 hg w25 hbox hb; have n0_ := Aside0.mk (blk_below (g := gb557) (o := .cells #[.string a1_0, .int .u8 a1_1, .int .u8 a1_2, .int .u8 a1_3, .string a1_4, .int .i64 a1_5] 36 (0, 0)) q_109 hb); have n1_ := Aside0.mk (below_step q_108 hb); have n2_ := Aside0.mk (hbox); have n3_ := Aside0.mk ((by rw [hg]; exact (below_size q_108) : w.heap.size ≤ gb562)); have n4_ := Aside0.mk ((by rw [hg]; exact (below_size q_108) : w.heap.size ≤ gb562)); have n5_ := Aside0.mk ((q_153 : gb557 ≠ gb562)); have n6_ := Aside0.mk ((q_154 : gb562 ≠ gb557)); clear BK557; clear HB; have BK557 := n0_; have HB := n1_; have BK562 := n2_; have GW562 := n3_; have GE562 := n4_; have NB557_562 := n5_; have NB562_557 := n6_; clear n0_ n1_ n2_ n3_ n4_ n5_ n6_; clear hb hbox hg; have hnb26 := NB562_557.out; have hnc26 := NB557_562.out; obtain ⟨hcz27_0, hcz27_1, hfz27_0, hfz27_1⟩ := cells2_ BK562.out) | (go_at_call 39; (with_reducible refine (api_Fault_Bad.calls t560 t561 false _ A12.out).mono ?_); rintro e w28 ⟨rfl, hb⟩; have n0_ := Aside0.mk (blk_below (g := gb557) (o := .cells #[.string a1_0, .int .u8 a1_1, .int .u8 a1_2, .int .u8 a1_3, .string a1_4, .int .i64 a1_5] 36 (0, 0)) q_110 hb); have n1_ := Aside0.mk (blk_below (g := gb562) (o := .cells #[.int .i64 t560, .int .i64 t561] 39 (0, 0)) q_111 hb); have n2_ := Aside0.mk (below_step q_112 hb); clear BK557; clear BK562; clear HB; have BK557 := n0_; have BK562 := n1_; have HB := n2_; clear n0_ n1_ n2_; (try clear hb); (try clear hb2); (try clear hk); (try clear hi)))
          repeat (go_quiet (first | (go_at_call 31; (with_reducible refine (frame_Frame_Print.calls kj2 a1_0 a1_1 a1_2 a1_3 a1_4 a1_5 a0 t559 t560 t561 _ A11.out).mono ?_); rintro e w24 ⟨rfl, hb⟩; have n0_ := Aside0.mk (blk_below (g := gb557) (o := .cells #[.string a1_0, .int .u8 a1_1, .int .u8 a1_2, .int .u8 a1_3, .string a1_4, .int .i64 a1_5] 36 (0, 0)) q_109 hb); have n1_ := Aside0.mk (below_step q_108 hb); clear BK557; clear HB; have BK557 := n0_; have HB := n1_; clear n0_ n1_; (try clear hb); (try clear hb2); (try clear hk); (try clear hi)) | ((with_reducible refine gate_dst (N := 6) rfl ?_); (try (refine gate_guard (by rfl) ?_; dsimp only)); refine box_event ?hg (N := 6) ?hd (cs := #[.int .i64 0, .int .i64 0]) (t := 39) ?hr ?_; (case hd => rfl); (case hg => rfl); (case hr => first | (go_simp; done) | (go_simp; rfl)); intro gb562 hg w25 hbox hb; have n0_ := Aside0.mk (blk_below (g := gb557) (o := .cells #[.string a1_0, .int .u8 a1_1, .int .u8 a1_2, .int .u8 a1_3, .string a1_4, .int .i64 a1_5] 36 (0, 0)) q_109 hb); have n1_ := Aside0.mk (below_step q_108 hb); have n2_ := Aside0.mk (hbox); have n3_ := Aside0.mk ((by rw [hg]; exact (below_size q_108) : w.heap.size ≤ gb562)); have n4_ := Aside0.mk ((by rw [hg]; exact (below_size q_108) : w.heap.size ≤ gb562)); have n5_ := Aside0.mk ((q_153 : gb557 ≠ gb562)); have n6_ := Aside0.mk ((q_154 : gb562 ≠ gb557)); clear BK557; clear HB; have BK557 := n0_; have HB := n1_; have BK562 := n2_; have GW562 := n3_; have GE562 := n4_; have NB557_562 := n5_; have NB562_557 := n6_; clear n0_ n1_ n2_ n3_ n4_ n5_ n6_; clear hb hbox hg; have hnb26 := NB562_557.out; have hnc26 := NB557_562.out; obtain ⟨hcz27_0, hcz27_1, hfz27_0, hfz27_1⟩ := cells2_ BK562.out) | (go_at_call 39; (with_reducible refine (api_Fault_Bad.calls t560 t561 false _ A12.out).mono ?_); rintro e w28 ⟨rfl, hb⟩; have n0_ := Aside0.mk (blk_below (g := gb557) (o := .cells #[.string a1_0, .int .u8 a1_1, .int .u8 a1_2, .int .u8 a1_3, .string a1_4, .int .i64 a1_5] 36 (0, 0)) q_110 hb); have n1_ := Aside0.mk (blk_below (g := gb562) (o := .cells #[.int .i64 t560, .int .i64 t561] 39 (0, 0)) q_111 hb); have n2_ := Aside0.mk (below_step q_112 hb); clear BK557; clear BK562; clear HB; have BK557 := n0_; have BK562 := n1_; have HB := n2_; clear n0_ n1_ n2_; (try clear hb); (try clear hb2); (try clear hk); (try clear hi))); go_upto_region 6 with (first | (go_at_call 31; (with_reducible refine (frame_Frame_Print.calls kj2 a1_0 a1_1 a1_2 a1_3 a1_4 a1_5 a0 t559 t560 t561 _ A11.out).mono ?_); rintro e w24 ⟨rfl, hb⟩; have n0_ := Aside0.mk (blk_below (g := gb557) (o := .cells #[.string a1_0, .int .u8 a1_1, .int .u8 a1_2, .int .u8 a1_3, .string a1_4, .int .i64 a1_5] 36 (0, 0)) q_109 hb); have n1_ := Aside0.mk (below_step q_108 hb); clear BK557; clear HB; have BK557 := n0_; have HB := n1_; clear n0_ n1_; (try clear hb); (try clear hb2); (try clear hk); (try clear hi)) | ((with_reducible refine gate_dst (N := 6) rfl ?_); (try (refine gate_guard (by rfl) ?_; dsimp only)); refine box_event ?hg (N := 6) ?hd (cs := #[.int .i64 0, .int .i64 0]) (t := 39) ?hr ?_; (case hd => rfl); (case hg => rfl); (case hr => first | (go_simp; done) | (go_simp; rfl)); intro gb562 hg w25 hbox hb; have n0_ := Aside0.mk (blk_below (g := gb557) (o := .cells #[.string a1_0, .int .u8 a1_1, .int .u8 a1_2, .int .u8 a1_3, .string a1_4, .int .i64 a1_5] 36 (0, 0)) q_109 hb); have n1_ := Aside0.mk (below_step q_108 hb); have n2_ := Aside0.mk (hbox); have n3_ := Aside0.mk ((by rw [hg]; exact (below_size q_108) : w.heap.size ≤ gb562)); have n4_ := Aside0.mk ((by rw [hg]; exact (below_size q_108) : w.heap.size ≤ gb562)); have n5_ := Aside0.mk ((q_153 : gb557 ≠ gb562)); have n6_ := Aside0.mk ((q_154 : gb562 ≠ gb557)); clear BK557; clear HB; have BK557 := n0_; have HB := n1_; have BK562 := n2_; have GW562 := n3_; have GE562 := n4_; have NB557_562 := n5_; have NB562_557 := n6_; clear n0_ n1_ n2_ n3_ n4_ n5_ n6_; clear hb hbox hg; have hnb26 := NB562_557.out; have hnc26 := NB557_562.out; obtain ⟨hcz27_0, hcz27_1, hfz27_0, hfz27_1⟩ := cells2_ BK562.out) | (go_at_call 39; (with_reducible refine (api_Fault_Bad.calls t560 t561 false _ A12.out).mono ?_); rintro e w28 ⟨rfl, hb⟩; have n0_ := Aside0.mk (blk_below (g := gb557) (o := .cells #[.string a1_0, .int .u8 a1_1, .int .u8 a1_2, .int .u8 a1_3, .string a1_4, .int .i64 a1_5] 36 (0, 0)) q_110 hb); have n1_ := Aside0.mk (blk_below (g := gb562) (o := .cells #[.int .i64 t560, .int .i64 t561] 39 (0, 0)) q_111 hb); have n2_ := Aside0.mk (below_step q_112 hb); clear BK557; clear BK562; clear HB; have BK557 := n0_; have BK562 := n1_; have HB := n2_; clear n0_ n1_ n2_; (try clear hb); (try clear hb2); (try clear hk); (try clear hi))))
          (try simp only [Act.put, List.setIfInBounds_toArray, List.set_cons_zero, List.set_cons_succ])
          go_cut [42] (fun v42 wc => ∃ (kq : Nat) (x42_21 : Bool), v42 = .bool x42_21 ∧ Aside0 (diacriticlaw13_FrameSizes.j1 kq a0 t559 x42_21 a1_0 a1_1 a1_2 a1_3 a1_4 a1_5 = some r) ∧ Aside0 (kq ≤ kj2) ∧ Aside0 (wc.heap[gb557]? = some (.cells #[.string a1_0, .int .u8 a1_1, .int .u8 a1_2, .int .u8 a1_3, .string a1_4, .int .i64 a1_5] 36 (0, 0))) ∧ Aside0 (wc.heap[gb562]? = some (.cells #[.int .i64 t560, .int .i64 t561] 39 (0, 0))) ∧ Aside0 (Below w.heap.size w wc))
          case first =>
            have H := HC22.out
            clear HC22
            by_cases c29 : (t559.size : Int) < 6
            · rw [if_pos c29] at H
              have c29b0 : decide ((t559.size : Int) < 6) = true := decide_eq_true c29
              have c29b1 : decide (t559.size < 6) = true := decide_eq_true (by omega)
              clear c29
              (first | rw [c29b0] | (simp only [i64_w, i32_w]; rw [c29b0]) | skip)
              have H' := Aside0.mk H
              clear H
              go_wp2
              repeat (go_quiet (fail); try go_wp2)
              go_meet
              case rel => exact ⟨_, (true), q_1, H', ⟨q_114⟩, ⟨q_109⟩, ⟨q_113⟩, ⟨q_112⟩⟩
            · rw [if_neg c29] at H
              have c29b0 : decide ((t559.size : Int) < 6) = false := decide_eq_false c29
              have c29b1 : decide (t559.size < 6) = false := decide_eq_false (by omega)
              clear c29
              (first | rw [c29b0] | (simp only [i64_w, i32_w]; rw [c29b0]) | skip)
              by_cases c30 : a0 > 2
              · rw [if_pos c30] at H
                have c30b0 : decide (2 < a0) = true := decide_eq_true c30
                clear c30
                have H' := Aside0.mk H
                clear H
                go_wp2
                repeat (go_quiet (fail); try go_wp2)
                go_meet
                case rel => exact ⟨_, (decide ((t559.size : Int) < 10)), q_1, H', ⟨q_114⟩, ⟨q_109⟩, ⟨q_113⟩, ⟨q_112⟩⟩
              · rw [if_neg c30] at H
                have c30b0 : decide (2 < a0) = false := decide_eq_false c30
                clear c30
                have H' := Aside0.mk H
                clear H
                go_wp2
                repeat (go_quiet (fail); try go_wp2)
                go_meet
                case rel => exact ⟨_, (false), q_1, H', ⟨q_114⟩, ⟨q_109⟩, ⟨q_113⟩, ⟨q_112⟩⟩
          case rest =>
            clear HC22
            try clear c1; try clear c2; try clear p2; try clear c3; try clear c5; try clear c5b0; try clear c5b1; try clear c8; try clear c13; try clear c18; try clear c26; try clear c29; try clear c29b0; try clear c29b1; try clear c30; try clear c30b0; try clear hcz15_0; try clear hcz15_1; try clear hcz15_2; try clear hcz15_3; try clear hcz15_4; try clear hcz15_5; try clear hcz19_0; try clear hcz19_1; try clear hcz23_0; try clear hcz23_1; try clear hcz23_2; try clear hcz23_3; try clear hcz23_4; try clear hcz23_5; try clear hcz27_0; try clear hcz27_1; try clear hcz6_0; try clear hcz6_1; try clear hcz6_2; try clear hcz6_3; try clear hcz6_4; try clear hcz6_5; try clear hcz7_0; try clear hcz7_1; try clear hcz7_2; try clear hcz7_3; try clear hcz7_4; try clear hcz7_5; try clear hfz15_0; try clear hfz15_1; try clear hfz15_2; try clear hfz15_3; try clear hfz15_4; try clear hfz15_5; try clear hfz19_0; try clear hfz19_1; try clear hfz23_0; try clear hfz23_1; try clear hfz23_2; try clear hfz23_3; try clear hfz23_4; try clear hfz23_5; try clear hfz27_0; try clear hfz27_1; try clear hfz6_0; try clear hfz6_1; try clear hfz6_2; try clear hfz6_3; try clear hfz6_4; try clear hfz6_5; try clear hfz7_0; try clear hfz7_1; try clear hfz7_2; try clear hfz7_3; try clear hfz7_4; try clear hfz7_5; try clear p2
            obtain ⟨kq, x42_21, rfl, HA, HJ21, BK557, BK562, HB⟩ := hcut
            cases kq with
            | zero => exact absurd HA.out (by simp [diacriticlaw13_FrameSizes.j1])
            | succ kj21 =>
              have H := HA.out
              clear HA
              simp only [diacriticlaw13_FrameSizes.j1] at H
              by_cases c31 : x42_21 = true
              · subst c31
                have H1 : (some false) = some r := by rw [if_pos rfl] at H; exact H
                clear H
                have H := H1
                clear H1
                obtain rfl := Option.some.inj H
                go_wp2
                repeat (go_quiet (fail); try go_wp2)
                go_ret
                exact ⟨q_11, q_112⟩
              · replace c31 := Bool.eq_false_iff.mpr c31
                subst c31
                have H1 : (if a0 = 2 then (if 3 < (t559.size : Int) then (if 4 < (t559.size : Int) then (if 5 < (t559.size : Int) then (diacriticlaw13_FrameSizes.j2 kj21 a0 t559 (Go.bits .or .i64 (Go.bits .or .i64 (wrap64 ((wrap64 (bt t559 3)) * 65536)) (wrap64 ((wrap64 (bt t559 4)) * 256))) (wrap64 (bt t559 5))) 6 a1_0 a1_1 a1_2 a1_3 a1_4 a1_5) else (none)) else (none)) else (none)) else (if a0 = 3 then (if 4 < (t559.size : Int) then (if 5 < (t559.size : Int) then (if 6 < (t559.size : Int) then (if 7 < (t559.size : Int) then (diacriticlaw13_FrameSizes.j2 kj21 a0 t559 (Go.bits .or .i64 (Go.bits .or .i64 (Go.bits .or .i64 (wrap64 ((wrap64 (bt t559 4)) * 16777216)) (wrap64 ((wrap64 (bt t559 5)) * 65536))) (wrap64 ((wrap64 (bt t559 6)) * 256))) (wrap64 (bt t559 7))) 10 a1_0 a1_1 a1_2 a1_3 a1_4 a1_5) else (none)) else (none)) else (none)) else (none)) else (if a0 = 4 then (if 4 < (t559.size : Int) then (if 5 < (t559.size : Int) then (if 6 < (t559.size : Int) then (if 7 < (t559.size : Int) then (if (Go.bits .or .u8 (Go.bits .or .u8 (Go.bits .or .u8 (bt t559 4) (bt t559 5)) (bt t559 6)) (bt t559 7)) ≥ 128 then (some false) else (diacriticlaw13_FrameSizes.j2 kj21 a0 t559 (Go.bits .or .i64 (Go.bits .or .i64 (Go.bits .or .i64 (wrap64 ((wrap64 (bt t559 4)) * 2097152)) (wrap64 ((wrap64 (bt t559 5)) * 16384))) (wrap64 ((wrap64 (bt t559 6)) * 128))) (wrap64 (bt t559 7))) 10 a1_0 a1_1 a1_2 a1_3 a1_4 a1_5)) else (none)) else (none)) else (none)) else (none)) else (diacriticlaw13_FrameSizes.j2 kj21 a0 t559 0 10 a1_0 a1_1 a1_2 a1_3 a1_4 a1_5)))) = some r := by rw [if_neg (show ¬ (false = true) by decide)] at H; exact H
                clear H
                have H := H1
                clear H1
                have HC32 := Aside0.mk H
                clear H
                go_upto_block 0 with (fail)
                repeat (go_quiet (fail); go_upto_block 0 with (fail))
                go_cut [7, 8] (fun v7 v8 wc => ∃ (kq : Nat) (x7_31 : Int) (x8_31 : Int), v7 = .int .i64 x7_31 ∧ v8 = .int .i64 x8_31 ∧ Aside0 (diacriticlaw13_FrameSizes.j2 kq a0 t559 x7_31 x8_31 a1_0 a1_1 a1_2 a1_3 a1_4 a1_5 = some r) ∧ Aside0 (kq ≤ kj21) ∧ Aside0 (wc.heap[gb557]? = some (.cells #[.string a1_0, .int .u8 a1_1, .int .u8 a1_2, .int .u8 a1_3, .string a1_4, .int .i64 a1_5] 36 (0, 0))) ∧ Aside0 (wc.heap[gb562]? = some (.cells #[.int .i64 t560, .int .i64 t561] 39 (0, 0))) ∧ Aside0 (Below w.heap.size w wc))
                case first =>
                  have H := HC32.out
                  clear HC32
                  by_cases c33 : a0 = 2
                  · rw [if_pos c33] at H
                    have c33b0 : (a0 == 2) = true := beq_iff_eq.mpr c33
                    have c33b1 : (a0 != 2) = false := bne_eq_false_iff_eq.mpr c33
                    clear c33
                    (first | rw [c33b0] | (simp only [i64_w, i32_w]; rw [c33b0]) | skip)
                    by_cases c34 : 3 < (t559.size : Int)
                    · rw [if_pos c34] at H
                      have c34b0 : decide (3 < (t559.size : Int)) = true := decide_eq_true c34
                      have c34b1 : decide (3 < t559.size) = true := decide_eq_true (by omega)
                      clear c34
                      by_cases c36 : 4 < (t559.size : Int)
                      · rw [if_pos c36] at H
                        have c36b0 : decide (4 < (t559.size : Int)) = true := decide_eq_true c36
                        have c36b1 : decide (4 < t559.size) = true := decide_eq_true (by omega)
                        clear c36
                        by_cases c38 : 5 < (t559.size : Int)
                        · rw [if_pos c38] at H
                          have c38b0 : decide (5 < (t559.size : Int)) = true := decide_eq_true c38
                          have c38b1 : decide (5 < t559.size) = true := decide_eq_true (by omega)
                          clear c38
                          have H' := Aside0.mk H
                          clear H
                          have p35 : 0 ≤ (3 : Int) := (by omega)
                          have q35 : 3 < t559.size := (by have : (3 : Int) < (t559.size : Int) := of_decide_eq_true q_2; omega)
                          have hx35 : ∀ h : 3 < t559.size, ((t559[3]'h).toNat : Int) = bt t559 3 := bt_at t559 3
                          clear p35
                          have qi35 : (3 < (t559.size : Int)) = True := eq_true (of_decide_eq_true q_2)
                          replace q35 := eq_true q35
                          have p37 : 0 ≤ (4 : Int) := (by omega)
                          have q37 : 4 < t559.size := (by have : (4 : Int) < (t559.size : Int) := of_decide_eq_true q_2; omega)
                          have hx37 : ∀ h : 4 < t559.size, ((t559[4]'h).toNat : Int) = bt t559 4 := bt_at t559 4
                          clear p37
                          have qi37 : (4 < (t559.size : Int)) = True := eq_true (of_decide_eq_true q_2)
                          replace q37 := eq_true q37
                          have p39 : 0 ≤ (5 : Int) := (by omega)
                          have q39 : 5 < t559.size := (by have : (5 : Int) < (t559.size : Int) := of_decide_eq_true q_2; omega)
                          have hx39 : ∀ h : 5 < t559.size, ((t559[5]'h).toNat : Int) = bt t559 5 := bt_at t559 5
                          clear p39
                          have qi39 : (5 < (t559.size : Int)) = True := eq_true (of_decide_eq_true q_2)
                          replace q39 := eq_true q39
                          go_wp2
                          repeat (go_quiet (fail); try go_wp2)
                          go_meet
                          case rel => exact ⟨_, (Go.bits .or .i64 (Go.bits .or .i64 (wrap64 ((wrap64 (bt t559 3)) * 65536)) (wrap64 ((wrap64 (bt t559 4)) * 256))) (wrap64 (bt t559 5))), (6), q_1, q_1, H', ⟨q_115⟩, ⟨q_109⟩, ⟨q_113⟩, ⟨q_112⟩⟩
                        · rw [if_neg c38] at H
                          exact absurd H (by simp)
                      · rw [if_neg c36] at H
                        exact absurd H (by simp)
                    · rw [if_neg c34] at H
                      exact absurd H (by simp)
                  · rw [if_neg c33] at H
                    have c33b0 : (a0 == 2) = false := beq_eq_false_iff_ne.mpr c33
                    have c33b1 : (a0 != 2) = true := bne_iff_ne.mpr c33
                    (first | rw [c33b0] | (simp only [i64_w, i32_w]; rw [c33b0]) | skip)
                    by_cases c40 : a0 = 3
                    · rw [if_pos c40] at H
                      have c40b0 : (a0 == 3) = true := beq_iff_eq.mpr c40
                      have c40b1 : (a0 != 3) = false := bne_eq_false_iff_eq.mpr c40
                      clear c40
                      by_cases c41 : 4 < (t559.size : Int)
                      · rw [if_pos c41] at H
                        have c41b0 : decide (4 < (t559.size : Int)) = true := decide_eq_true c41
                        have c41b1 : decide (4 < t559.size) = true := decide_eq_true (by omega)
                        clear c41
                        by_cases c43 : 5 < (t559.size : Int)
                        · rw [if_pos c43] at H
                          have c43b0 : decide (5 < (t559.size : Int)) = true := decide_eq_true c43
                          have c43b1 : decide (5 < t559.size) = true := decide_eq_true (by omega)
                          clear c43
                          by_cases c45 : 6 < (t559.size : Int)
                          · rw [if_pos c45] at H
                            have c45b0 : decide (6 < (t559.size : Int)) = true := decide_eq_true c45
                            have c45b1 : decide (6 < t559.size) = true := decide_eq_true (by omega)
                            clear c45
                            by_cases c47 : 7 < (t559.size : Int)
                            · rw [if_pos c47] at H
                              have c47b0 : decide (7 < (t559.size : Int)) = true := decide_eq_true c47
                              have c47b1 : decide (7 < t559.size) = true := decide_eq_true (by omega)
                              clear c47
                              have H' := Aside0.mk H
                              clear H
                              have p42 : 0 ≤ (4 : Int) := (by omega)
                              have q42 : 4 < t559.size := (by have : (4 : Int) < (t559.size : Int) := of_decide_eq_true q_2; omega)
                              have hx42 : ∀ h : 4 < t559.size, ((t559[4]'h).toNat : Int) = bt t559 4 := bt_at t559 4
                              clear p42
                              have qi42 : (4 < (t559.size : Int)) = True := eq_true (of_decide_eq_true q_2)
                              replace q42 := eq_true q42
                              have p44 : 0 ≤ (5 : Int) := (by omega)
                              have q44 : 5 < t559.size := (by have : (5 : Int) < (t559.size : Int) := of_decide_eq_true q_2; omega)
                              have hx44 : ∀ h : 5 < t559.size, ((t559[5]'h).toNat : Int) = bt t559 5 := bt_at t559 5
                              clear p44
                              have qi44 : (5 < (t559.size : Int)) = True := eq_true (of_decide_eq_true q_2)
                              replace q44 := eq_true q44
                              have p46 : 0 ≤ (6 : Int) := (by omega)
                              have q46 : 6 < t559.size := (by have : (6 : Int) < (t559.size : Int) := of_decide_eq_true q_2; omega)
                              have hx46 : ∀ h : 6 < t559.size, ((t559[6]'h).toNat : Int) = bt t559 6 := bt_at t559 6
                              clear p46
                              have qi46 : (6 < (t559.size : Int)) = True := eq_true (of_decide_eq_true q_2)
                              replace q46 := eq_true q46
                              have p48 : 0 ≤ (7 : Int) := (by omega)
                              have q48 : 7 < t559.size := (by have : (7 : Int) < (t559.size : Int) := of_decide_eq_true q_2; omega)
                              have hx48 : ∀ h : 7 < t559.size, ((t559[7]'h).toNat : Int) = bt t559 7 := bt_at t559 7
                              clear p48
                              have qi48 : (7 < (t559.size : Int)) = True := eq_true (of_decide_eq_true q_2)
                              replace q48 := eq_true q48
                              go_wp2
                              repeat (go_quiet (fail); try go_wp2)
                              go_meet
                              case rel => exact ⟨_, (Go.bits .or .i64 (Go.bits .or .i64 (Go.bits .or .i64 (wrap64 ((wrap64 (bt t559 4)) * 16777216)) (wrap64 ((wrap64 (bt t559 5)) * 65536))) (wrap64 ((wrap64 (bt t559 6)) * 256))) (wrap64 (bt t559 7))), (10), q_1, q_1, H', ⟨q_115⟩, ⟨q_109⟩, ⟨q_113⟩, ⟨q_112⟩⟩
                            · rw [if_neg c47] at H
                              exact absurd H (by simp)
                          · rw [if_neg c45] at H
                            exact absurd H (by simp)
                        · rw [if_neg c43] at H
                          exact absurd H (by simp)
                      · rw [if_neg c41] at H
                        exact absurd H (by simp)
                    · rw [if_neg c40] at H
                      have c40b0 : (a0 == 3) = false := beq_eq_false_iff_ne.mpr c40
                      have c40b1 : (a0 != 3) = true := bne_iff_ne.mpr c40
                      by_cases c49 : a0 = 4
                      · rw [if_pos c49] at H
                        have c49b0 : (a0 == 4) = true := beq_iff_eq.mpr c49
                        have c49b1 : (a0 != 4) = false := bne_eq_false_iff_eq.mpr c49
                        clear c49
                        by_cases c50 : 4 < (t559.size : Int)
                        · rw [if_pos c50] at H
                          have c50b0 : decide (4 < (t559.size : Int)) = true := decide_eq_true c50
                          have c50b1 : decide (4 < t559.size) = true := decide_eq_true (by omega)
                          clear c50
                          by_cases c52 : 5 < (t559.size : Int)
                          · rw [if_pos c52] at H
                            have c52b0 : decide (5 < (t559.size : Int)) = true := decide_eq_true c52
                            have c52b1 : decide (5 < t559.size) = true := decide_eq_true (by omega)
                            clear c52
                            by_cases c54 : 6 < (t559.size : Int)
                            · rw [if_pos c54] at H
                              have c54b0 : decide (6 < (t559.size : Int)) = true := decide_eq_true c54
                              have c54b1 : decide (6 < t559.size) = true := decide_eq_true (by omega)
                              clear c54
                              by_cases c56 : 7 < (t559.size : Int)
                              · rw [if_pos c56] at H
                                have c56b0 : decide (7 < (t559.size : Int)) = true := decide_eq_true c56
                                have c56b1 : decide (7 < t559.size) = true := decide_eq_true (by omega)
                                clear c56
                                by_cases c58 : (Go.bits .or .u8 (Go.bits .or .u8 (Go.bits .or .u8 (bt t559 4) (bt t559 5)) (bt t559 6)) (bt t559 7)) ≥ 128
                                · rw [if_pos c58] at H
                                  have c58b0 : decide (128 ≤ (Go.bits .or .u8 (Go.bits .or .u8 (Go.bits .or .u8 (bt t559 4) (bt t559 5)) (bt t559 6)) (bt t559 7))) = true := decide_eq_true c58
                                  clear c58
                                  obtain rfl := Option.some.inj H
                                  have p51 : 0 ≤ (4 : Int) := (by omega)
                                  have q51 : 4 < t559.size := (by have : (4 : Int) < (t559.size : Int) := of_decide_eq_true q_2; omega)
                                  have hx51 : ∀ h : 4 < t559.size, ((t559[4]'h).toNat : Int) = bt t559 4 := bt_at t559 4
                                  clear p51
                                  have qi51 : (4 < (t559.size : Int)) = True := eq_true (of_decide_eq_true q_2)
                                  replace q51 := eq_true q51
                                  have p53 : 0 ≤ (5 : Int) := (by omega)
                                  have q53 : 5 < t559.size := (by have : (5 : Int) < (t559.size : Int) := of_decide_eq_true q_2; omega)
                                  have hx53 : ∀ h : 5 < t559.size, ((t559[5]'h).toNat : Int) = bt t559 5 := bt_at t559 5
                                  clear p53
                                  have qi53 : (5 < (t559.size : Int)) = True := eq_true (of_decide_eq_true q_2)
                                  replace q53 := eq_true q53
                                  have p55 : 0 ≤ (6 : Int) := (by omega)
                                  have q55 : 6 < t559.size := (by have : (6 : Int) < (t559.size : Int) := of_decide_eq_true q_2; omega)
                                  have hx55 : ∀ h : 6 < t559.size, ((t559[6]'h).toNat : Int) = bt t559 6 := bt_at t559 6
                                  clear p55
                                  have qi55 : (6 < (t559.size : Int)) = True := eq_true (of_decide_eq_true q_2)
                                  replace q55 := eq_true q55
                                  have p57 : 0 ≤ (7 : Int) := (by omega)
                                  have q57 : 7 < t559.size := (by have : (7 : Int) < (t559.size : Int) := of_decide_eq_true q_2; omega)
                                  have hx57 : ∀ h : 7 < t559.size, ((t559[7]'h).toNat : Int) = bt t559 7 := bt_at t559 7
                                  clear p57
                                  have qi57 : (7 < (t559.size : Int)) = True := eq_true (of_decide_eq_true q_2)
                                  replace q57 := eq_true q57
                                  go_wp2
                                  repeat (go_quiet (fail); try go_wp2)
                                  go_ret
                                  exact ⟨q_11, q_112⟩
                                · rw [if_neg c58] at H
                                  have c58b0 : decide (128 ≤ (Go.bits .or .u8 (Go.bits .or .u8 (Go.bits .or .u8 (bt t559 4) (bt t559 5)) (bt t559 6)) (bt t559 7))) = false := decide_eq_false c58
                                  clear c58
                                  have H' := Aside0.mk H
                                  clear H
                                  have p51 : 0 ≤ (4 : Int) := (by omega)
                                  have q51 : 4 < t559.size := (by have : (4 : Int) < (t559.size : Int) := of_decide_eq_true q_2; omega)
                                  have hx51 : ∀ h : 4 < t559.size, ((t559[4]'h).toNat : Int) = bt t559 4 := bt_at t559 4
                                  clear p51
                                  have qi51 : (4 < (t559.size : Int)) = True := eq_true (of_decide_eq_true q_2)
                                  replace q51 := eq_true q51
                                  have p53 : 0 ≤ (5 : Int) := (by omega)
                                  have q53 : 5 < t559.size := (by have : (5 : Int) < (t559.size : Int) := of_decide_eq_true q_2; omega)
                                  have hx53 : ∀ h : 5 < t559.size, ((t559[5]'h).toNat : Int) = bt t559 5 := bt_at t559 5
                                  clear p53
                                  have qi53 : (5 < (t559.size : Int)) = True := eq_true (of_decide_eq_true q_2)
                                  replace q53 := eq_true q53
                                  have p55 : 0 ≤ (6 : Int) := (by omega)
                                  have q55 : 6 < t559.size := (by have : (6 : Int) < (t559.size : Int) := of_decide_eq_true q_2; omega)
                                  have hx55 : ∀ h : 6 < t559.size, ((t559[6]'h).toNat : Int) = bt t559 6 := bt_at t559 6
                                  clear p55
                                  have qi55 : (6 < (t559.size : Int)) = True := eq_true (of_decide_eq_true q_2)
                                  replace q55 := eq_true q55
                                  have p57 : 0 ≤ (7 : Int) := (by omega)
                                  have q57 : 7 < t559.size := (by have : (7 : Int) < (t559.size : Int) := of_decide_eq_true q_2; omega)
                                  have hx57 : ∀ h : 7 < t559.size, ((t559[7]'h).toNat : Int) = bt t559 7 := bt_at t559 7
                                  clear p57
                                  have qi57 : (7 < (t559.size : Int)) = True := eq_true (of_decide_eq_true q_2)
                                  replace q57 := eq_true q57
                                  have p59 : 0 ≤ (4 : Int) := (by omega)
                                  have q59 : 4 < t559.size := (by have : (4 : Int) < (t559.size : Int) := of_decide_eq_true q_2; omega)
                                  have hx59 : ∀ h : 4 < t559.size, ((t559[4]'h).toNat : Int) = bt t559 4 := bt_at t559 4
                                  clear p59
                                  have qi59 : (4 < (t559.size : Int)) = True := eq_true (of_decide_eq_true q_2)
                                  replace q59 := eq_true q59
                                  have p60 : 0 ≤ (5 : Int) := (by omega)
                                  have q60 : 5 < t559.size := (by have : (5 : Int) < (t559.size : Int) := of_decide_eq_true q_2; omega)
                                  have hx60 : ∀ h : 5 < t559.size, ((t559[5]'h).toNat : Int) = bt t559 5 := bt_at t559 5
                                  clear p60
                                  have qi60 : (5 < (t559.size : Int)) = True := eq_true (of_decide_eq_true q_2)
                                  replace q60 := eq_true q60
                                  have p61 : 0 ≤ (6 : Int) := (by omega)
                                  have q61 : 6 < t559.size := (by have : (6 : Int) < (t559.size : Int) := of_decide_eq_true q_2; omega)
                                  have hx61 : ∀ h : 6 < t559.size, ((t559[6]'h).toNat : Int) = bt t559 6 := bt_at t559 6
                                  clear p61
                                  have qi61 : (6 < (t559.size : Int)) = True := eq_true (of_decide_eq_true q_2)
                                  replace q61 := eq_true q61
                                  have p62 : 0 ≤ (7 : Int) := (by omega)
                                  have q62 : 7 < t559.size := (by have : (7 : Int) < (t559.size : Int) := of_decide_eq_true q_2; omega)
                                  have hx62 : ∀ h : 7 < t559.size, ((t559[7]'h).toNat : Int) = bt t559 7 := bt_at t559 7
                                  clear p62
                                  have qi62 : (7 < (t559.size : Int)) = True := eq_true (of_decide_eq_true q_2)
                                  replace q62 := eq_true q62
                                  go_wp2
                                  repeat (go_quiet (fail); try go_wp2)
                                  go_meet
                                  case rel => exact ⟨_, (Go.bits .or .i64 (Go.bits .or .i64 (Go.bits .or .i64 (wrap64 ((wrap64 (bt t559 4)) * 2097152)) (wrap64 ((wrap64 (bt t559 5)) * 16384))) (wrap64 ((wrap64 (bt t559 6)) * 128))) (wrap64 (bt t559 7))), (10), q_1, q_1, H', ⟨q_115⟩, ⟨q_109⟩, ⟨q_113⟩, ⟨q_112⟩⟩
                              · rw [if_neg c56] at H
                                exact absurd H (by simp)
                            · rw [if_neg c54] at H
                              exact absurd H (by simp)
                          · rw [if_neg c52] at H
                            exact absurd H (by simp)
                        · rw [if_neg c50] at H
                          exact absurd H (by simp)
                      · rw [if_neg c49] at H
                        have c49b0 : (a0 == 4) = false := beq_eq_false_iff_ne.mpr c49
                        have c49b1 : (a0 != 4) = true := bne_iff_ne.mpr c49
                        have H' := Aside0.mk H
                        clear H
                        go_wp2
                        repeat (go_quiet (fail); try go_wp2)
                        go_meet
                        case rel => exact ⟨_, (0), (10), q_1, q_1, H', ⟨q_115⟩, ⟨q_109⟩, ⟨q_113⟩, ⟨q_112⟩⟩
                case rest =>
                  clear HC32
                  try clear c1; try clear c2; try clear p2; try clear c3; try clear p3; try clear q3; try clear hx3; try clear qi3; try clear c4; try clear p4; try clear q4; try clear hx4; try clear qi4; try clear c5; try clear c5b0; try clear c5b1; try clear p5; try clear q5; try clear hx5; try clear qi5; try clear p6; try clear q6; try clear hx6; try clear qi6; try clear c8; try clear c13; try clear c18; try clear c26; try clear c29; try clear c29b0; try clear c29b1; try clear c30; try clear c30b0; try clear c31; try clear c33; try clear c33b0; try clear c33b1; try clear c34; try clear c34b0; try clear c34b1; try clear p35; try clear q35; try clear hx35; try clear qi35; try clear c36; try clear c36b0; try clear c36b1; try clear p37; try clear q37; try clear hx37; try clear qi37; try clear c38; try clear c38b0; try clear c38b1; try clear p39; try clear q39; try clear hx39; try clear qi39; try clear c40; try clear c40b0; try clear c40b1; try clear c41; try clear c41b0; try clear c41b1; try clear p42; try clear q42; try clear hx42; try clear qi42; try clear c43; try clear c43b0; try clear c43b1; try clear p44; try clear q44; try clear hx44; try clear qi44; try clear c45; try clear c45b0; try clear c45b1; try clear p46; try clear q46; try clear hx46; try clear qi46; try clear c47; try clear c47b0; try clear c47b1; try clear p48; try clear q48; try clear hx48; try clear qi48; try clear c49; try clear c49b0; try clear c49b1; try clear c50; try clear c50b0; try clear c50b1; try clear p51; try clear q51; try clear hx51; try clear qi51; try clear c52; try clear c52b0; try clear c52b1; try clear p53; try clear q53; try clear hx53; try clear qi53; try clear c54; try clear c54b0; try clear c54b1; try clear p55; try clear q55; try clear hx55; try clear qi55; try clear c56; try clear c56b0; try clear c56b1; try clear p57; try clear q57; try clear hx57; try clear qi57; try clear c58; try clear c58b0; try clear p59; try clear q59; try clear hx59; try clear qi59; try clear p60; try clear q60; try clear hx60; try clear qi60; try clear p61; try clear q61; try clear hx61; try clear qi61; try clear p62; try clear q62; try clear hx62; try clear qi62; try clear hcz15_0; try clear hcz15_1; try clear hcz15_2; try clear hcz15_3; try clear hcz15_4; try clear hcz15_5; try clear hcz19_0; try clear hcz19_1; try clear hcz23_0; try clear hcz23_1; try clear hcz23_2; try clear hcz23_3; try clear hcz23_4; try clear hcz23_5; try clear hcz27_0; try clear hcz27_1; try clear hcz6_0; try clear hcz6_1; try clear hcz6_2; try clear hcz6_3; try clear hcz6_4; try clear hcz6_5; try clear hcz7_0; try clear hcz7_1; try clear hcz7_2; try clear hcz7_3; try clear hcz7_4; try clear hcz7_5; try clear hfz15_0; try clear hfz15_1; try clear hfz15_2; try clear hfz15_3; try clear hfz15_4; try clear hfz15_5; try clear hfz19_0; try clear hfz19_1; try clear hfz23_0; try clear hfz23_1; try clear hfz23_2; try clear hfz23_3; try clear hfz23_4; try clear hfz23_5; try clear hfz27_0; try clear hfz27_1; try clear hfz6_0; try clear hfz6_1; try clear hfz6_2; try clear hfz6_3; try clear hfz6_4; try clear hfz6_5; try clear hfz7_0; try clear hfz7_1; try clear hfz7_2; try clear hfz7_3; try clear hfz7_4; try clear hfz7_5; try clear p2; try clear p35; try clear p37; try clear p39; try clear p42; try clear p44; try clear p46; try clear p48; try clear p51; try clear p53; try clear p55; try clear p57; try clear p59; try clear p60; try clear p61; try clear p62; try clear q35; try clear q37; try clear q39; try clear q42; try clear q44; try clear q46; try clear q48; try clear q51; try clear q53; try clear q55; try clear q57; try clear q59; try clear q60; try clear q61; try clear q62
                  obtain ⟨kq, x7_31, x8_31, rfl, rfl, HA, HJ31, BK557, BK562, HB⟩ := hcut
                  cases kq with
                  | zero => exact absurd HA.out (by simp [diacriticlaw13_FrameSizes.j2])
                  | succ kj31 =>
                    have H := HA.out
                    clear HA
                    simp only [diacriticlaw13_FrameSizes.j2] at H
                    replace H := Option.bind_eq_some_iff.mp H
                    obtain ⟨t565, A630, H⟩ := H
                    replace H : (if t565 = true then (diacriticlaw13_FrameSizes.l0 kj31 t559 x7_31 x8_31 x8_31) else ((diacriticlaw13_awake.f kj31).bind fun t567 => (if t567 = true then (some ((t559.size : Int) == (wrap64 (x8_31 + x7_31)))) else (some false)))) = some r := H
                    have A63 := Aside0.mk A630
                    clear A630
                    by_cases c64 : t565 = true
                    · subst c64
                      have H1 : (diacriticlaw13_FrameSizes.l0 kj31 t559 x7_31 x8_31 x8_31) = some r := by rw [if_pos rfl] at H; exact H
                      clear H
                      have H := H1
                      clear H1
                      have H' := Aside0.mk H
                      clear H
                      have hnb65 := NB557_562.out
                      have hnc65 := NB562_557.out
                      obtain ⟨hcz66_0, hcz66_1, hcz66_2, hcz66_3, hcz66_4, hcz66_5, hfz66_0, hfz66_1, hfz66_2, hfz66_3, hfz66_4, hfz66_5⟩ := cells6_ BK557.out
                      go_wp2_with (first | (go_at_call 25; (with_reducible refine (frame_Head_Spread.calls a1_0 a1_1 a1_2 a0 true _ A63.out).mono ?_); rintro e w67 ⟨rfl, hb⟩; have n0_ := Aside0.mk (blk_below (g := gb557) (o := .cells #[.string a1_0, .int .u8 a1_1, .int .u8 a1_2, .int .u8 a1_3, .string a1_4, .int .i64 a1_5] 36 (0, 0)) q_109 hb); have n1_ := Aside0.mk (blk_below (g := gb562) (o := .cells #[.int .i64 t560, .int .i64 t561] 39 (0, 0)) q_113 hb); have n2_ := Aside0.mk (below_step q_112 hb); clear BK557; clear BK562; clear HB; have BK557 := n0_; have BK562 := n1_; have HB := n2_; clear n0_ n1_ n2_; (try clear hb); (try clear hb2); (try clear hk); (try clear hi)))
                      repeat (go_quiet (first | (go_at_call 25; (with_reducible refine (frame_Head_Spread.calls a1_0 a1_1 a1_2 a0 true _ A63.out).mono ?_); rintro e w67 ⟨rfl, hb⟩; have n0_ := Aside0.mk (blk_below (g := gb557) (o := .cells #[.string a1_0, .int .u8 a1_1, .int .u8 a1_2, .int .u8 a1_3, .string a1_4, .int .i64 a1_5] 36 (0, 0)) q_109 hb); have n1_ := Aside0.mk (blk_below (g := gb562) (o := .cells #[.int .i64 t560, .int .i64 t561] 39 (0, 0)) q_113 hb); have n2_ := Aside0.mk (below_step q_112 hb); clear BK557; clear BK562; clear HB; have BK557 := n0_; have BK562 := n1_; have HB := n2_; clear n0_ n1_ n2_; (try clear hb); (try clear hb2); (try clear hk); (try clear hi))); try go_wp2_with (first | (go_at_call 25; (with_reducible refine (frame_Head_Spread.calls a1_0 a1_1 a1_2 a0 true _ A63.out).mono ?_); rintro e w67 ⟨rfl, hb⟩; have n0_ := Aside0.mk (blk_below (g := gb557) (o := .cells #[.string a1_0, .int .u8 a1_1, .int .u8 a1_2, .int .u8 a1_3, .string a1_4, .int .i64 a1_5] 36 (0, 0)) q_109 hb); have n1_ := Aside0.mk (blk_below (g := gb562) (o := .cells #[.int .i64 t560, .int .i64 t561] 39 (0, 0)) q_113 hb); have n2_ := Aside0.mk (below_step q_112 hb); clear BK557; clear BK562; clear HB; have BK557 := n0_; have BK562 := n1_; have HB := n2_; clear n0_ n1_ n2_; (try clear hb); (try clear hb2); (try clear hk); (try clear hi))))
                      go_loopg [9] kj31 (fun kq v9 w' => ∃ (x9_4 : Int), v9 = .int .i64 x9_4 ∧ Aside0 (diacriticlaw13_FrameSizes.l0 kq t559 x7_31 x8_31 x9_4 = some r) ∧ Aside0 (kq ≤ kj31) ∧ Aside0 (w'.heap[gb557]? = some (.cells #[.string a1_0, .int .u8 a1_1, .int .u8 a1_2, .int .u8 a1_3, .string a1_4, .int .i64 a1_5] 36 (0, 0))) ∧ Aside0 (w'.heap[gb562]? = some (.cells #[.int .i64 t560, .int .i64 t561] 39 (0, 0))) ∧ Aside0 (Below w.heap.size w w'))
                      case atStart => exact ⟨(x8_31), q_1, H', ⟨Nat.le_refl _⟩, ⟨q_109⟩, ⟨q_113⟩, ⟨q_112⟩⟩
                      case round =>
                        clear H'
                        try clear c1; try clear c2; try clear p2; try clear c3; try clear p3; try clear q3; try clear hx3; try clear qi3; try clear c4; try clear p4; try clear q4; try clear hx4; try clear qi4; try clear c5; try clear c5b0; try clear c5b1; try clear p5; try clear q5; try clear hx5; try clear qi5; try clear c6; try clear p6; try clear q6; try clear hx6; try clear qi6; try clear c8; try clear c13; try clear c18; try clear c26; try clear c29; try clear c29b0; try clear c29b1; try clear c30; try clear c30b0; try clear c31; try clear c33; try clear c33b0; try clear c33b1; try clear c34; try clear c34b0; try clear c34b1; try clear p35; try clear q35; try clear hx35; try clear qi35; try clear c36; try clear c36b0; try clear c36b1; try clear p37; try clear q37; try clear hx37; try clear qi37; try clear c38; try clear c38b0; try clear c38b1; try clear p39; try clear q39; try clear hx39; try clear qi39; try clear c40; try clear c40b0; try clear c40b1; try clear c41; try clear c41b0; try clear c41b1; try clear p42; try clear q42; try clear hx42; try clear qi42; try clear c43; try clear c43b0; try clear c43b1; try clear p44; try clear q44; try clear hx44; try clear qi44; try clear c45; try clear c45b0; try clear c45b1; try clear p46; try clear q46; try clear hx46; try clear qi46; try clear c47; try clear c47b0; try clear c47b1; try clear p48; try clear q48; try clear hx48; try clear qi48; try clear c49; try clear c49b0; try clear c49b1; try clear c50; try clear c50b0; try clear c50b1; try clear p51; try clear q51; try clear hx51; try clear qi51; try clear c52; try clear c52b0; try clear c52b1; try clear p53; try clear q53; try clear hx53; try clear qi53; try clear c54; try clear c54b0; try clear c54b1; try clear p55; try clear q55; try clear hx55; try clear qi55; try clear c56; try clear c56b0; try clear c56b1; try clear p57; try clear q57; try clear hx57; try clear qi57; try clear c58; try clear c58b0; try clear p59; try clear q59; try clear hx59; try clear qi59; try clear p60; try clear q60; try clear hx60; try clear qi60; try clear p61; try clear q61; try clear hx61; try clear qi61; try clear p62; try clear q62; try clear hx62; try clear qi62; try clear c64; try clear p64; try clear c65; try clear hcz15_0; try clear hcz15_1; try clear hcz15_2; try clear hcz15_3; try clear hcz15_4; try clear hcz15_5; try clear hcz19_0; try clear hcz19_1; try clear hcz23_0; try clear hcz23_1; try clear hcz23_2; try clear hcz23_3; try clear hcz23_4; try clear hcz23_5; try clear hcz27_0; try clear hcz27_1; try clear hcz66_0; try clear hcz66_1; try clear hcz66_2; try clear hcz66_3; try clear hcz66_4; try clear hcz66_5; try clear hcz6_0; try clear hcz6_1; try clear hcz6_2; try clear hcz6_3; try clear hcz6_4; try clear hcz6_5; try clear hcz7_0; try clear hcz7_1; try clear hcz7_2; try clear hcz7_3; try clear hcz7_4; try clear hcz7_5; try clear hfz15_0; try clear hfz15_1; try clear hfz15_2; try clear hfz15_3; try clear hfz15_4; try clear hfz15_5; try clear hfz19_0; try clear hfz19_1; try clear hfz23_0; try clear hfz23_1; try clear hfz23_2; try clear hfz23_3; try clear hfz23_4; try clear hfz23_5; try clear hfz27_0; try clear hfz27_1; try clear hfz66_0; try clear hfz66_1; try clear hfz66_2; try clear hfz66_3; try clear hfz66_4; try clear hfz66_5; try clear hfz6_0; try clear hfz6_1; try clear hfz6_2; try clear hfz6_3; try clear hfz6_4; try clear hfz6_5; try clear hfz7_0; try clear hfz7_1; try clear hfz7_2; try clear hfz7_3; try clear hfz7_4; try clear hfz7_5; try clear p2; try clear p3; try clear p35; try clear p37; try clear p39; try clear p4; try clear p42; try clear p44; try clear p46; try clear p48; try clear p5; try clear p51; try clear p53; try clear p55; try clear p57; try clear p59; try clear p6; try clear p60; try clear p61; try clear p62; try clear q3; try clear q35; try clear q37; try clear q39; try clear q4; try clear q42; try clear q44; try clear q46; try clear q48; try clear q5; try clear q51; try clear q53; try clear q55; try clear q57; try clear q59; try clear q6; try clear q60; try clear q61; try clear q62
                        obtain ⟨x9_4, rfl, HA, HK4, BK557, BK562, HB⟩ := hrel
                        cases gk with
                        | zero => exact absurd HA.out (by simp [diacriticlaw13_FrameSizes.l0])
                        | succ k4 =>
                          have H := HA.out
                          clear HA
                          simp only [diacriticlaw13_FrameSizes.l0] at H
                          by_cases c68 : x9_4 < (wrap64 ((t559.size : Int) - 1))
                          · rw [if_pos c68] at H
                            have c68b0 : decide (x9_4 < (wrap64 ((t559.size : Int) - 1))) = true := decide_eq_true c68
                            clear c68
                            by_cases c69 : 0 ≤ x9_4
                            · rw [if_pos c69] at H
                              have c69b0 : decide (0 ≤ x9_4) = true := decide_eq_true c69
                              clear c69
                              by_cases c70 : x9_4 < (t559.size : Int)
                              · rw [if_pos c70] at H
                                have c70b0 : decide (x9_4 < (t559.size : Int)) = true := decide_eq_true c70
                                clear c70
                                by_cases c72 : (bt t559 x9_4) = 255
                                · rw [if_pos c72] at H
                                  have c72b0 : ((bt t559 x9_4) == 255) = true := beq_iff_eq.mpr c72
                                  have c72b1 : ((bt t559 x9_4) != 255) = false := bne_eq_false_iff_eq.mpr c72
                                  clear c72
                                  obtain ⟨ji73, hji73⟩ : ∃ j_ : Int, (wrap64 (x9_4 + 1)) = j_ := ⟨_, rfl⟩
                                  replace H : (if 0 ≤ (ji73) then (if (ji73) < (t559.size : Int) then (if (bt t559 (ji73)) ≥ 224 then (if x9_4 > (wrap64 (x8_31 + 5)) then (some false) else (diacriticlaw13_FrameSizes.l0 k4 t559 x7_31 x8_31 ji73)) else (diacriticlaw13_FrameSizes.l0 k4 t559 x7_31 x8_31 ji73)) else (none)) else (none)) = some r := by first | (rw [hji73] at H; exact H) | (simp only [hji73] at H ⊢; exact H)
                                  have hji73w : (IntKind.i64.wrap (x9_4 + 1)) = ji73 := (i64_w _).trans hji73
                                  by_cases c74 : 0 ≤ (ji73)
                                  · rw [if_pos c74] at H
                                    have c74b0 : decide (0 ≤ (ji73)) = true := decide_eq_true c74
                                    clear c74
                                    by_cases c75 : (ji73) < (t559.size : Int)
                                    · rw [if_pos c75] at H
                                      have c75b0 : decide ((ji73) < (t559.size : Int)) = true := decide_eq_true c75
                                      clear c75
                                      by_cases c77 : (bt t559 (ji73)) ≥ 224
                                      · rw [if_pos c77] at H
                                        have c77b0 : decide (224 ≤ (bt t559 (ji73))) = true := decide_eq_true c77
                                        clear c77
                                        by_cases c78 : x9_4 > (wrap64 (x8_31 + 5))
                                        · rw [if_pos c78] at H
                                          have c78b0 : decide ((wrap64 (x8_31 + 5)) < x9_4) = true := decide_eq_true c78
                                          clear c78
                                          obtain rfl := Option.some.inj H
                                          have p71 : 0 ≤ (x9_4 : Int) := of_decide_eq_true q_2
                                          have q71 : x9_4 < (t559.size : Int) := of_decide_eq_true q_2
                                          have hx71 := bt_at t559 x9_4
                                          replace p71 := eq_true p71
                                          replace q71 := eq_true q71
                                          have p76 : 0 ≤ ((ji73) : Int) := of_decide_eq_true q_2
                                          have q76 : (ji73) < (t559.size : Int) := of_decide_eq_true q_2
                                          have hx76 := bt_at t559 (ji73)
                                          replace p76 := eq_true p76
                                          replace q76 := eq_true q76
                                          go_wp2
                                          repeat (go_quiet (fail); try go_wp2)
                                          go_ret
                                          exact ⟨by first | rfl | (simp [errW_none, errW_some] <;> rfl) | (simp only [← hji73]; first | rfl | (simp [errW_none, errW_some] <;> rfl)) | (simp [*, errW_none, errW_some] <;> rfl), q_112⟩
                                        · rw [if_neg c78] at H
                                          have c78b0 : decide ((wrap64 (x8_31 + 5)) < x9_4) = false := decide_eq_false c78
                                          clear c78
                                          have H' := Aside0.mk H
                                          clear H
                                          have p71 : 0 ≤ (x9_4 : Int) := of_decide_eq_true q_2
                                          have q71 : x9_4 < (t559.size : Int) := of_decide_eq_true q_2
                                          have hx71 := bt_at t559 x9_4
                                          replace p71 := eq_true p71
                                          replace q71 := eq_true q71
                                          have p76 : 0 ≤ ((ji73) : Int) := of_decide_eq_true q_2
                                          have q76 : (ji73) < (t559.size : Int) := of_decide_eq_true q_2
                                          have hx76 := bt_at t559 (ji73)
                                          replace p76 := eq_true p76
                                          replace q76 := eq_true q76
                                          go_wp2
                                          repeat (go_quiet (fail); try go_wp2)
                                          go_roundg k4
                                          case measure => have := HJ2.out; have := HJ21.out; have := HJ31.out; have := HK4.out; omega
                                          case rel => exact ⟨(ji73), (by first | rfl | (simp; done) | (simp only [← hji73] <;> (first | rfl | simp)) | (simp [*]; done)), H', ⟨q_116⟩, ⟨q_109⟩, ⟨q_113⟩, ⟨q_112⟩⟩
                                      · rw [if_neg c77] at H
                                        have c77b0 : decide (224 ≤ (bt t559 (ji73))) = false := decide_eq_false c77
                                        clear c77
                                        have H' := Aside0.mk H
                                        clear H
                                        have p71 : 0 ≤ (x9_4 : Int) := of_decide_eq_true q_2
                                        have q71 : x9_4 < (t559.size : Int) := of_decide_eq_true q_2
                                        have hx71 := bt_at t559 x9_4
                                        replace p71 := eq_true p71
                                        replace q71 := eq_true q71
                                        have p76 : 0 ≤ ((ji73) : Int) := of_decide_eq_true q_2
                                        have q76 : (ji73) < (t559.size : Int) := of_decide_eq_true q_2
                                        have hx76 := bt_at t559 (ji73)
                                        replace p76 := eq_true p76
                                        replace q76 := eq_true q76
                                        go_wp2
                                        repeat (go_quiet (fail); try go_wp2)
                                        go_roundg k4
                                        case measure => have := HJ2.out; have := HJ21.out; have := HJ31.out; have := HK4.out; omega
                                        case rel => exact ⟨(ji73), (by first | rfl | (simp; done) | (simp only [← hji73] <;> (first | rfl | simp)) | (simp [*]; done)), H', ⟨q_116⟩, ⟨q_109⟩, ⟨q_113⟩, ⟨q_112⟩⟩
                                    · rw [if_neg c75] at H
                                      exact absurd H (by simp)
                                  · rw [if_neg c74] at H
                                    exact absurd H (by simp)
                                · rw [if_neg c72] at H
                                  have c72b0 : ((bt t559 x9_4) == 255) = false := beq_eq_false_iff_ne.mpr c72
                                  have c72b1 : ((bt t559 x9_4) != 255) = true := bne_iff_ne.mpr c72
                                  have H' := Aside0.mk H
                                  clear H
                                  have p71 : 0 ≤ (x9_4 : Int) := of_decide_eq_true q_2
                                  have q71 : x9_4 < (t559.size : Int) := of_decide_eq_true q_2
                                  have hx71 := bt_at t559 x9_4
                                  replace p71 := eq_true p71
                                  replace q71 := eq_true q71
                                  go_wp2
                                  repeat (go_quiet (fail); try go_wp2)
                                  go_roundg k4
                                  case measure => have := HJ2.out; have := HJ21.out; have := HJ31.out; have := HK4.out; omega
                                  case rel => exact ⟨(wrap64 (x9_4 + 1)), q_1, H', ⟨q_116⟩, ⟨q_109⟩, ⟨q_113⟩, ⟨q_112⟩⟩
                              · rw [if_neg c70] at H
                                exact absurd H (by simp)
                            · rw [if_neg c69] at H
                              exact absurd H (by simp)
                          · rw [if_neg c68] at H
                            have c68b0 : decide (x9_4 < (wrap64 ((t559.size : Int) - 1))) = false := decide_eq_false c68
                            clear c68
                            replace H := Option.bind_eq_some_iff.mp H
                            obtain ⟨t566, A790, H⟩ := H
                            replace H : (if t566 = true then (some ((t559.size : Int) == (wrap64 (x8_31 + x7_31)))) else (some false)) = some r := H
                            have A79 := Aside0.mk A790
                            clear A790
                            by_cases c80 : t566 = true
                            · subst c80
                              have H1 : (some ((t559.size : Int) == (wrap64 (x8_31 + x7_31)))) = some r := by rw [if_pos rfl] at H; exact H
                              clear H
                              have H := H1
                              clear H1
                              obtain rfl := Option.some.inj H
                              go_wp2_with (first | (go_at_call 18; (with_reducible refine (diacriticlaw13_awake.calls k4  true _ (GM.below HG.out q_112) A79.out).mono ?_); rintro e w81 ⟨rfl, hb⟩; have n0_ := Aside0.mk (blk_below (g := gb557) (o := .cells #[.string a1_0, .int .u8 a1_1, .int .u8 a1_2, .int .u8 a1_3, .string a1_4, .int .i64 a1_5] 36 (0, 0)) q_109 hb); have n1_ := Aside0.mk (blk_below (g := gb562) (o := .cells #[.int .i64 t560, .int .i64 t561] 39 (0, 0)) q_113 hb); have n2_ := Aside0.mk (below_step q_112 hb); clear BK557; clear BK562; clear HB; have BK557 := n0_; have BK562 := n1_; have HB := n2_; clear n0_ n1_ n2_; (try clear hb); (try clear hb2); (try clear hk); (try clear hi)))
                              repeat (go_quiet (first | (go_at_call 18; (with_reducible refine (diacriticlaw13_awake.calls k4  true _ (GM.below HG.out q_112) A79.out).mono ?_); rintro e w81 ⟨rfl, hb⟩; have n0_ := Aside0.mk (blk_below (g := gb557) (o := .cells #[.string a1_0, .int .u8 a1_1, .int .u8 a1_2, .int .u8 a1_3, .string a1_4, .int .i64 a1_5] 36 (0, 0)) q_109 hb); have n1_ := Aside0.mk (blk_below (g := gb562) (o := .cells #[.int .i64 t560, .int .i64 t561] 39 (0, 0)) q_113 hb); have n2_ := Aside0.mk (below_step q_112 hb); clear BK557; clear BK562; clear HB; have BK557 := n0_; have BK562 := n1_; have HB := n2_; clear n0_ n1_ n2_; (try clear hb); (try clear hb2); (try clear hk); (try clear hi))); try go_wp2_with (first | (go_at_call 18; (with_reducible refine (diacriticlaw13_awake.calls k4  true _ (GM.below HG.out q_112) A79.out).mono ?_); rintro e w81 ⟨rfl, hb⟩; have n0_ := Aside0.mk (blk_below (g := gb557) (o := .cells #[.string a1_0, .int .u8 a1_1, .int .u8 a1_2, .int .u8 a1_3, .string a1_4, .int .i64 a1_5] 36 (0, 0)) q_109 hb); have n1_ := Aside0.mk (blk_below (g := gb562) (o := .cells #[.int .i64 t560, .int .i64 t561] 39 (0, 0)) q_113 hb); have n2_ := Aside0.mk (below_step q_112 hb); clear BK557; clear BK562; clear HB; have BK557 := n0_; have BK562 := n1_; have HB := n2_; clear n0_ n1_ n2_; (try clear hb); (try clear hb2); (try clear hk); (try clear hi))))
                              go_ret
                              exact ⟨q_11, q_112⟩
                            · replace c80 := Bool.eq_false_iff.mpr c80
                              subst c80
                              have H1 : (some false) = some r := by rw [if_neg (show ¬ (false = true) by decide)] at H; exact H
                              clear H
                              have H := H1
                              clear H1
                              obtain rfl := Option.some.inj H
                              go_wp2_with (first | (go_at_call 18; (with_reducible refine (diacriticlaw13_awake.calls k4  false _ (GM.below HG.out q_112) A79.out).mono ?_); rintro e w82 ⟨rfl, hb⟩; have n0_ := Aside0.mk (blk_below (g := gb557) (o := .cells #[.string a1_0, .int .u8 a1_1, .int .u8 a1_2, .int .u8 a1_3, .string a1_4, .int .i64 a1_5] 36 (0, 0)) q_109 hb); have n1_ := Aside0.mk (blk_below (g := gb562) (o := .cells #[.int .i64 t560, .int .i64 t561] 39 (0, 0)) q_113 hb); have n2_ := Aside0.mk (below_step q_112 hb); clear BK557; clear BK562; clear HB; have BK557 := n0_; have BK562 := n1_; have HB := n2_; clear n0_ n1_ n2_; (try clear hb); (try clear hb2); (try clear hk); (try clear hi)))
                              repeat (go_quiet (first | (go_at_call 18; (with_reducible refine (diacriticlaw13_awake.calls k4  false _ (GM.below HG.out q_112) A79.out).mono ?_); rintro e w82 ⟨rfl, hb⟩; have n0_ := Aside0.mk (blk_below (g := gb557) (o := .cells #[.string a1_0, .int .u8 a1_1, .int .u8 a1_2, .int .u8 a1_3, .string a1_4, .int .i64 a1_5] 36 (0, 0)) q_109 hb); have n1_ := Aside0.mk (blk_below (g := gb562) (o := .cells #[.int .i64 t560, .int .i64 t561] 39 (0, 0)) q_113 hb); have n2_ := Aside0.mk (below_step q_112 hb); clear BK557; clear BK562; clear HB; have BK557 := n0_; have BK562 := n1_; have HB := n2_; clear n0_ n1_ n2_; (try clear hb); (try clear hb2); (try clear hk); (try clear hi))); try go_wp2_with (first | (go_at_call 18; (with_reducible refine (diacriticlaw13_awake.calls k4  false _ (GM.below HG.out q_112) A79.out).mono ?_); rintro e w82 ⟨rfl, hb⟩; have n0_ := Aside0.mk (blk_below (g := gb557) (o := .cells #[.string a1_0, .int .u8 a1_1, .int .u8 a1_2, .int .u8 a1_3, .string a1_4, .int .i64 a1_5] 36 (0, 0)) q_109 hb); have n1_ := Aside0.mk (blk_below (g := gb562) (o := .cells #[.int .i64 t560, .int .i64 t561] 39 (0, 0)) q_113 hb); have n2_ := Aside0.mk (below_step q_112 hb); clear BK557; clear BK562; clear HB; have BK557 := n0_; have BK562 := n1_; have HB := n2_; clear n0_ n1_ n2_; (try clear hb); (try clear hb2); (try clear hk); (try clear hi))))
                              go_ret
                              exact ⟨q_11, q_112⟩
                    · replace c64 := Bool.eq_false_iff.mpr c64
                      subst c64
                      have H1 : ((diacriticlaw13_awake.f kj31).bind fun t567 => (if t567 = true then (some ((t559.size : Int) == (wrap64 (x8_31 + x7_31)))) else (some false))) = some r := by rw [if_neg (show ¬ (false = true) by decide)] at H; exact H
                      clear H
                      have H := H1
                      clear H1
                      replace H := Option.bind_eq_some_iff.mp H
                      obtain ⟨t567, A830, H⟩ := H
                      replace H : (if t567 = true then (some ((t559.size : Int) == (wrap64 (x8_31 + x7_31)))) else (some false)) = some r := H
                      have A83 := Aside0.mk A830
                      clear A830
                      by_cases c84 : t567 = true
                      · subst c84
                        have H1 : (some ((t559.size : Int) == (wrap64 (x8_31 + x7_31)))) = some r := by rw [if_pos rfl] at H; exact H
                        clear H
                        have H := H1
                        clear H1
                        obtain rfl := Option.some.inj H
                        have hnb85 := NB557_562.out
                        have hnc85 := NB562_557.out
                        obtain ⟨hcz86_0, hcz86_1, hcz86_2, hcz86_3, hcz86_4, hcz86_5, hfz86_0, hfz86_1, hfz86_2, hfz86_3, hfz86_4, hfz86_5⟩ := cells6_ BK557.out
                        go_wp2_with (first | (go_at_call 25; (with_reducible refine (frame_Head_Spread.calls a1_0 a1_1 a1_2 a0 false _ A63.out).mono ?_); rintro e w87 ⟨rfl, hb⟩; have n0_ := Aside0.mk (blk_below (g := gb557) (o := .cells #[.string a1_0, .int .u8 a1_1, .int .u8 a1_2, .int .u8 a1_3, .string a1_4, .int .i64 a1_5] 36 (0, 0)) q_109 hb); have n1_ := Aside0.mk (blk_below (g := gb562) (o := .cells #[.int .i64 t560, .int .i64 t561] 39 (0, 0)) q_113 hb); have n2_ := Aside0.mk (below_step q_112 hb); clear BK557; clear BK562; clear HB; have BK557 := n0_; have BK562 := n1_; have HB := n2_; clear n0_ n1_ n2_; (try clear hb); (try clear hb2); (try clear hk); (try clear hi)) | (go_at_call 18; (with_reducible refine (diacriticlaw13_awake.calls kj31  true _ (GM.below HG.out q_112) A83.out).mono ?_); rintro e w88 ⟨rfl, hb⟩; have n0_ := Aside0.mk (blk_below (g := gb557) (o := .cells #[.string a1_0, .int .u8 a1_1, .int .u8 a1_2, .int .u8 a1_3, .string a1_4, .int .i64 a1_5] 36 (0, 0)) q_109 hb); have n1_ := Aside0.mk (blk_below (g := gb562) (o := .cells #[.int .i64 t560, .int .i64 t561] 39 (0, 0)) q_113 hb); have n2_ := Aside0.mk (below_step q_112 hb); clear BK557; clear BK562; clear HB; have BK557 := n0_; have BK562 := n1_; have HB := n2_; clear n0_ n1_ n2_; (try clear hb); (try clear hb2); (try clear hk); (try clear hi)))
                        repeat (go_quiet (first | (go_at_call 25; (with_reducible refine (frame_Head_Spread.calls a1_0 a1_1 a1_2 a0 false _ A63.out).mono ?_); rintro e w87 ⟨rfl, hb⟩; have n0_ := Aside0.mk (blk_below (g := gb557) (o := .cells #[.string a1_0, .int .u8 a1_1, .int .u8 a1_2, .int .u8 a1_3, .string a1_4, .int .i64 a1_5] 36 (0, 0)) q_109 hb); have n1_ := Aside0.mk (blk_below (g := gb562) (o := .cells #[.int .i64 t560, .int .i64 t561] 39 (0, 0)) q_113 hb); have n2_ := Aside0.mk (below_step q_112 hb); clear BK557; clear BK562; clear HB; have BK557 := n0_; have BK562 := n1_; have HB := n2_; clear n0_ n1_ n2_; (try clear hb); (try clear hb2); (try clear hk); (try clear hi)) | (go_at_call 18; (with_reducible refine (diacriticlaw13_awake.calls kj31  true _ (GM.below HG.out q_112) A83.out).mono ?_); rintro e w88 ⟨rfl, hb⟩; have n0_ := Aside0.mk (blk_below (g := gb557) (o := .cells #[.string a1_0, .int .u8 a1_1, .int .u8 a1_2, .int .u8 a1_3, .string a1_4, .int .i64 a1_5] 36 (0, 0)) q_109 hb); have n1_ := Aside0.mk (blk_below (g := gb562) (o := .cells #[.int .i64 t560, .int .i64 t561] 39 (0, 0)) q_113 hb); have n2_ := Aside0.mk (below_step q_112 hb); clear BK557; clear BK562; clear HB; have BK557 := n0_; have BK562 := n1_; have HB := n2_; clear n0_ n1_ n2_; (try clear hb); (try clear hb2); (try clear hk); (try clear hi))); try go_wp2_with (first | (go_at_call 25; (with_reducible refine (frame_Head_Spread.calls a1_0 a1_1 a1_2 a0 false _ A63.out).mono ?_); rintro e w87 ⟨rfl, hb⟩; have n0_ := Aside0.mk (blk_below (g := gb557) (o := .cells #[.string a1_0, .int .u8 a1_1, .int .u8 a1_2, .int .u8 a1_3, .string a1_4, .int .i64 a1_5] 36 (0, 0)) q_109 hb); have n1_ := Aside0.mk (blk_below (g := gb562) (o := .cells #[.int .i64 t560, .int .i64 t561] 39 (0, 0)) q_113 hb); have n2_ := Aside0.mk (below_step q_112 hb); clear BK557; clear BK562; clear HB; have BK557 := n0_; have BK562 := n1_; have HB := n2_; clear n0_ n1_ n2_; (try clear hb); (try clear hb2); (try clear hk); (try clear hi)) | (go_at_call 18; (with_reducible refine (diacriticlaw13_awake.calls kj31  true _ (GM.below HG.out q_112) A83.out).mono ?_); rintro e w88 ⟨rfl, hb⟩; have n0_ := Aside0.mk (blk_below (g := gb557) (o := .cells #[.string a1_0, .int .u8 a1_1, .int .u8 a1_2, .int .u8 a1_3, .string a1_4, .int .i64 a1_5] 36 (0, 0)) q_109 hb); have n1_ := Aside0.mk (blk_below (g := gb562) (o := .cells #[.int .i64 t560, .int .i64 t561] 39 (0, 0)) q_113 hb); have n2_ := Aside0.mk (below_step q_112 hb); clear BK557; clear BK562; clear HB; have BK557 := n0_; have BK562 := n1_; have HB := n2_; clear n0_ n1_ n2_; (try clear hb); (try clear hb2); (try clear hk); (try clear hi))))
                        go_ret
                        exact ⟨q_11, q_112⟩
                      · replace c84 := Bool.eq_false_iff.mpr c84
                        subst c84
                        have H1 : (some false) = some r := by rw [if_neg (show ¬ (false = true) by decide)] at H; exact H
                        clear H
                        have H := H1
                        clear H1
                        obtain rfl := Option.some.inj H
                        have hnb89 := NB557_562.out
                        have hnc89 := NB562_557.out
                        obtain ⟨hcz90_0, hcz90_1, hcz90_2, hcz90_3, hcz90_4, hcz90_5, hfz90_0, hfz90_1, hfz90_2, hfz90_3, hfz90_4, hfz90_5⟩ := cells6_ BK557.out
                        go_wp2_with (first | (go_at_call 25; (with_reducible refine (frame_Head_Spread.calls a1_0 a1_1 a1_2 a0 false _ A63.out).mono ?_); rintro e w91 ⟨rfl, hb⟩; have n0_ := Aside0.mk (blk_below (g := gb557) (o := .cells #[.string a1_0, .int .u8 a1_1, .int .u8 a1_2, .int .u8 a1_3, .string a1_4, .int .i64 a1_5] 36 (0, 0)) q_109 hb); have n1_ := Aside0.mk (blk_below (g := gb562) (o := .cells #[.int .i64 t560, .int .i64 t561] 39 (0, 0)) q_113 hb); have n2_ := Aside0.mk (below_step q_112 hb); clear BK557; clear BK562; clear HB; have BK557 := n0_; have BK562 := n1_; have HB := n2_; clear n0_ n1_ n2_; (try clear hb); (try clear hb2); (try clear hk); (try clear hi)) | (go_at_call 18; (with_reducible refine (diacriticlaw13_awake.calls kj31  false _ (GM.below HG.out q_112) A83.out).mono ?_); rintro e w92 ⟨rfl, hb⟩; have n0_ := Aside0.mk (blk_below (g := gb557) (o := .cells #[.string a1_0, .int .u8 a1_1, .int .u8 a1_2, .int .u8 a1_3, .string a1_4, .int .i64 a1_5] 36 (0, 0)) q_109 hb); have n1_ := Aside0.mk (blk_below (g := gb562) (o := .cells #[.int .i64 t560, .int .i64 t561] 39 (0, 0)) q_113 hb); have n2_ := Aside0.mk (below_step q_112 hb); clear BK557; clear BK562; clear HB; have BK557 := n0_; have BK562 := n1_; have HB := n2_; clear n0_ n1_ n2_; (try clear hb); (try clear hb2); (try clear hk); (try clear hi)))
                        repeat (go_quiet (first | (go_at_call 25; (with_reducible refine (frame_Head_Spread.calls a1_0 a1_1 a1_2 a0 false _ A63.out).mono ?_); rintro e w91 ⟨rfl, hb⟩; have n0_ := Aside0.mk (blk_below (g := gb557) (o := .cells #[.string a1_0, .int .u8 a1_1, .int .u8 a1_2, .int .u8 a1_3, .string a1_4, .int .i64 a1_5] 36 (0, 0)) q_109 hb); have n1_ := Aside0.mk (blk_below (g := gb562) (o := .cells #[.int .i64 t560, .int .i64 t561] 39 (0, 0)) q_113 hb); have n2_ := Aside0.mk (below_step q_112 hb); clear BK557; clear BK562; clear HB; have BK557 := n0_; have BK562 := n1_; have HB := n2_; clear n0_ n1_ n2_; (try clear hb); (try clear hb2); (try clear hk); (try clear hi)) | (go_at_call 18; (with_reducible refine (diacriticlaw13_awake.calls kj31  false _ (GM.below HG.out q_112) A83.out).mono ?_); rintro e w92 ⟨rfl, hb⟩; have n0_ := Aside0.mk (blk_below (g := gb557) (o := .cells #[.string a1_0, .int .u8 a1_1, .int .u8 a1_2, .int .u8 a1_3, .string a1_4, .int .i64 a1_5] 36 (0, 0)) q_109 hb); have n1_ := Aside0.mk (blk_below (g := gb562) (o := .cells #[.int .i64 t560, .int .i64 t561] 39 (0, 0)) q_113 hb); have n2_ := Aside0.mk (below_step q_112 hb); clear BK557; clear BK562; clear HB; have BK557 := n0_; have BK562 := n1_; have HB := n2_; clear n0_ n1_ n2_; (try clear hb); (try clear hb2); (try clear hk); (try clear hi))); try go_wp2_with (first | (go_at_call 25; (with_reducible refine (frame_Head_Spread.calls a1_0 a1_1 a1_2 a0 false _ A63.out).mono ?_); rintro e w91 ⟨rfl, hb⟩; have n0_ := Aside0.mk (blk_below (g := gb557) (o := .cells #[.string a1_0, .int .u8 a1_1, .int .u8 a1_2, .int .u8 a1_3, .string a1_4, .int .i64 a1_5] 36 (0, 0)) q_109 hb); have n1_ := Aside0.mk (blk_below (g := gb562) (o := .cells #[.int .i64 t560, .int .i64 t561] 39 (0, 0)) q_113 hb); have n2_ := Aside0.mk (below_step q_112 hb); clear BK557; clear BK562; clear HB; have BK557 := n0_; have BK562 := n1_; have HB := n2_; clear n0_ n1_ n2_; (try clear hb); (try clear hb2); (try clear hk); (try clear hi)) | (go_at_call 18; (with_reducible refine (diacriticlaw13_awake.calls kj31  false _ (GM.below HG.out q_112) A83.out).mono ?_); rintro e w92 ⟨rfl, hb⟩; have n0_ := Aside0.mk (blk_below (g := gb557) (o := .cells #[.string a1_0, .int .u8 a1_1, .int .u8 a1_2, .int .u8 a1_3, .string a1_4, .int .i64 a1_5] 36 (0, 0)) q_109 hb); have n1_ := Aside0.mk (blk_below (g := gb562) (o := .cells #[.int .i64 t560, .int .i64 t561] 39 (0, 0)) q_113 hb); have n2_ := Aside0.mk (below_step q_112 hb); clear BK557; clear BK562; clear HB; have BK557 := n0_; have BK562 := n1_; have HB := n2_; clear n0_ n1_ n2_; (try clear hb); (try clear hb2); (try clear hk); (try clear hi))))
                        go_ret
                        exact ⟨q_11, q_112⟩

/-- THE ONE PURE STATEMENT of diacriticlaw13_FrameSizes: yours. -/
def diacriticlaw13_FrameSizes.Pure : Prop := ∀ (a0 : Int) (a1_0 : ByteArray) (a1_1 : Int) (a1_2 : Int) (a1_3 : Int) (a1_4 : ByteArray) (a1_5 : Int), (Lit.int .i64 a0).wf = true → a1_0.size ≤ 9223372036854775807 → (Lit.int .u8 a1_1).wf = true → (Lit.int .u8 a1_2).wf = true → (Lit.int .u8 a1_3).wf = true → a1_4.size ≤ 9223372036854775807 → (Lit.int .i64 a1_5).wf = true → ∃ k, diacriticlaw13_FrameSizes.f k a0 a1_0 a1_1 a1_2 a1_3 a1_4 a1_5 = some true
theorem diacriticlaw13_FrameSizes.walk (P : diacriticlaw13_FrameSizes.Pure) (a0 : Int) (a1_0 : ByteArray) (a1_1 : Int) (a1_2 : Int) (a1_3 : Int) (a1_4 : ByteArray) (a1_5 : Int) (w : World) (w0 : (Lit.int .i64 a0).wf = true) (w1_0_0 : a1_0.size ≤ 9223372036854775807) (w1_1_0 : (Lit.int .u8 a1_1).wf = true) (w1_2_0 : (Lit.int .u8 a1_2).wf = true) (w1_3_0 : (Lit.int .u8 a1_3).wf = true) (w1_4_0 : a1_4.size ≤ 9223372036854775807) (w1_5_0 : (Lit.int .i64 a1_5).wf = true) (hG : GM w) :
    Calls Tryd.prog 8 #[.int .i64 a0, .agg #[.string a1_0, .int .u8 a1_1, .int .u8 a1_2, .int .u8 a1_3, .string a1_4, .int .i64 a1_5]] w fun e w' => e = .returned (.bool true) ∧ Below w.heap.size w w' := by
  obtain ⟨k, h⟩ := P a0 a1_0 a1_1 a1_2 a1_3 a1_4 a1_5 w0 w1_0_0 w1_1_0 w1_2_0 w1_3_0 w1_4_0 w1_5_0
  refine (diacriticlaw13_FrameSizes.calls k a0 a1_0 a1_1 a1_2 a1_3 a1_4 a1_5 true w hG h).mono ?_
  rintro e w' ⟨rfl, hd⟩
  exact ⟨rfl, hd⟩

end Go.Proofs.YtlmhlmendnjmlaaDoor.PAll
