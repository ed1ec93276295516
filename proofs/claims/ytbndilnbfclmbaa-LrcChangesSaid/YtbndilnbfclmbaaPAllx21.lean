/- Written by a program of this session: functions of the Go program as Lean functions, and the walks that tie them to it. -/
import Derived.Test.YtbndilnbfclmbaaPAllx0
import Derived.Test.YtbndilnbfclmbaaPAllx17
import Derived.Test.YtbndilnbfclmbaaPAllx20
namespace Go.Proofs.Ytbndilnbfclmbaa.PAll
open Go.RowKit Go.Proofs.YtbndilnbfclmbaaW.PrintWords Go.Proofs.YtbndilnbfclmbaaW.PrintLast Go.Proofs.YtbndilnbfclmbaaW.PrintMore
attribute [local go_sem] max2_int min2_int max_two min_two max_three min_three max_four min_four   -- for this text's walks alone
-- squeezed
set_option linter.unusedVariables false
set_option linter.unusedSimpArgs false

/-! ### diacriticref26_Pieces: function 36 -/
mutual
def diacriticref26_Pieces.l0 : Nat → ByteArray → List (S50) → Int → Option ((List (S50)) × Bool)
 | 0, _, _, _ => none
 | k + 1, x0, x4, x5 => if 0 ≤ x5 then (if x5 ≤ (x0.size : Int) then ((diacriticref26_time.f k (x0.extract (x5 : Int).toNat x0.size)).bind fun t393 => (if t393 > 0 then ((diacriticref26_time.f k (x0.extract (x5 : Int).toNat x0.size)).bind fun t394 => (if x5 ≤ (wrap64 (x5 + t394)) then (if (wrap64 (x5 + t394)) ≤ (x0.size : Int) then ((diacriticref22_Put.f x4 (x0.extract (x5 : Int).toNat ((wrap64 (x5 + t394)) : Int).toNat)).bind fun t395 => (diacriticref26_Pieces.l0 k x0 t395 (wrap64 (x5 + t394)))) else (none)) else (none))) else (if x5 > 0 then (if x5 < (x0.size : Int) then ((diacriticref22_Write.f x4 (⟨#[116, 101, 120, 116]⟩ : ByteArray) (x0.extract (x5 : Int).toNat x0.size)).bind fun t398 => (some (t398, true))) else (some (x4, true))) else (diacriticref26_Pieces.l1 k x0 x4 1)))) else (none)) else (none)
def diacriticref26_Pieces.j2 : Nat → ByteArray → List (S50) → Int → Option ((List (S50)) × Bool)
 | 0, _, _, _ => none
 | k + 1, x0, x4, x7 => if 0 < (x0.size : Int) then (if (bt x0 0) = 91 then (if x7 < 2 then (diacriticref26_Pieces.j3 k x0 x4 x7 true) else (if x7 ≥ (x0.size : Int) then (diacriticref26_Pieces.j3 k x0 x4 x7 true) else (if 0 ≤ x7 then (if x7 < (x0.size : Int) then (diacriticref26_Pieces.j3 k x0 x4 x7 ((bt x0 x7) != 58)) else (none)) else (none)))) else (diacriticref26_Pieces.j3 k x0 x4 x7 true)) else (none)
def diacriticref26_Pieces.j3 : Nat → ByteArray → List (S50) → Int → Bool → Option ((List (S50)) × Bool)
 | 0, _, _, _, _ => none
 | k + 1, x0, x4, x7, x80 => if x80 = true then (some (([] : List (S50)), false)) else (diacriticref26_Pieces.l2 k x0 x4 x7 x7)
def diacriticref26_Pieces.l2 : Nat → ByteArray → List (S50) → Int → Int → Option ((List (S50)) × Bool)
 | 0, _, _, _, _ => none
 | k + 1, x0, x4, x7, x8 => if x8 < (x0.size : Int) then (if 0 ≤ x8 then (if (bt x0 x8) = 93 then (if x8 < (wrap64 ((x0.size : Int) - 1)) then (some (([] : List (S50)), false)) else (diacriticref26_Pieces.l2 k x0 x4 x7 (wrap64 (x8 + 1)))) else (diacriticref26_Pieces.l2 k x0 x4 x7 (wrap64 (x8 + 1)))) else (none)) else (if 0 ≤ (wrap64 ((x0.size : Int) - 1)) then (if (wrap64 ((x0.size : Int) - 1)) < (x0.size : Int) then (if (bt x0 (wrap64 ((x0.size : Int) - 1))) = 93 then (if 0 ≤ (wrap64 (x7 + 1)) then (if (wrap64 (x7 + 1)) ≤ (x0.size : Int) then ((diacriticref22_Put.f x4 (x0.extract 0 ((wrap64 (x7 + 1)) : Int).toNat)).bind fun t401 => (if 1 ≤ x7 then (if x7 ≤ (x0.size : Int) then (if (wrap64 (x7 + 1)) ≤ (wrap64 ((x0.size : Int) - 1)) then (if (wrap64 ((x0.size : Int) - 1)) ≤ (x0.size : Int) then ((diacriticref22_Write.f t401 (x0.extract 1 (x7 : Int).toNat) (x0.extract ((wrap64 (x7 + 1)) : Int).toNat ((wrap64 ((x0.size : Int) - 1)) : Int).toNat)).bind fun t404 => ((diacriticref22_Put.f t404 (⟨#[93]⟩ : ByteArray)).bind fun t407 => (some (t407, true)))) else (none)) else (none)) else (none)) else (none))) else (none)) else (none)) else (some (([] : List (S50)), false))) else (none)) else (none))
def diacriticref26_Pieces.l1 : Nat → ByteArray → List (S50) → Int → Option ((List (S50)) × Bool)
 | 0, _, _, _ => none
 | k + 1, x0, x4, x7 => if x7 < (x0.size : Int) then (if 0 ≤ x7 then (if (bt x0 x7) ≥ 97 then (if (bt x0 x7) ≤ 122 then (diacriticref26_Pieces.l1 k x0 x4 (wrap64 (x7 + 1))) else (diacriticref26_Pieces.j2 k x0 x4 x7)) else (diacriticref26_Pieces.j2 k x0 x4 x7)) else (none)) else (diacriticref26_Pieces.j2 k x0 x4 x7)
end
def diacriticref26_Pieces.f (k : Nat) (a0 : ByteArray) : Option ((List (S50)) × Bool) := if a0.toList = ([] : List UInt8) then (some (([] : List (S50)), true)) else (diacriticref26_Pieces.l0 k a0 ([] : List (S50)) 0)
theorem diacriticref26_Pieces.mono_l : ∀ k, (∀ y0 y1 y2, LeO (diacriticref26_Pieces.l0 k y0 y1 y2) (diacriticref26_Pieces.l0 (k + 1) y0 y1 y2)) ∧ (∀ y0 y1 y2, LeO (diacriticref26_Pieces.j2 k y0 y1 y2) (diacriticref26_Pieces.j2 (k + 1) y0 y1 y2)) ∧ (∀ y0 y1 y2 y3, LeO (diacriticref26_Pieces.j3 k y0 y1 y2 y3) (diacriticref26_Pieces.j3 (k + 1) y0 y1 y2 y3)) ∧ (∀ y0 y1 y2 y3, LeO (diacriticref26_Pieces.l2 k y0 y1 y2 y3) (diacriticref26_Pieces.l2 (k + 1) y0 y1 y2 y3)) ∧ (∀ y0 y1 y2, LeO (diacriticref26_Pieces.l1 k y0 y1 y2) (diacriticref26_Pieces.l1 (k + 1) y0 y1 y2))
 | 0 => ⟨fun _ _ _ r h => by simp [diacriticref26_Pieces.l0] at h, fun _ _ _ r h => by simp [diacriticref26_Pieces.j2] at h, fun _ _ _ _ r h => by simp [diacriticref26_Pieces.j3] at h, fun _ _ _ _ r h => by simp [diacriticref26_Pieces.l2] at h, fun _ _ _ r h => by simp [diacriticref26_Pieces.l1] at h⟩
 | k + 1 => by
  obtain ⟨ih0, ih1, ih2, ih3, ih4⟩ := diacriticref26_Pieces.mono_l k
  refine ⟨?_, ?_, ?_, ?_, ?_⟩
  ·
   intro y0 y1 y2
   unfold diacriticref26_Pieces.l0
   repeat' first
   | (with_reducible exact ih0 _ _ _)
   | (with_reducible exact ih1 _ _ _)
   | (with_reducible exact ih2 _ _ _ _)
   | (with_reducible exact ih3 _ _ _ _)
   | (with_reducible exact ih4 _ _ _)
   | (with_reducible exact diacriticref26_time.mono _ _)
   | (with_reducible exact LeO.refl _)
   | (with_reducible exact LeO.none _)
   | (with_reducible refine LeO.ite ?_ ?_)
   | (with_reducible refine LeO.bind ?_ (fun _ => ?_))
   | exact ih0 _ _ _
   | exact ih1 _ _ _
   | exact ih2 _ _ _ _
   | exact ih3 _ _ _ _
   | exact ih4 _ _ _
   | exact diacriticref26_time.mono _ _
   | exact LeO.none _
   | refine LeO.ite ?_ ?_
   | refine LeO.bind ?_ (fun _ => ?_)
  ·
   intro y0 y1 y2
   unfold diacriticref26_Pieces.j2
   repeat' first
   | (with_reducible exact ih0 _ _ _)
   | (with_reducible exact ih1 _ _ _)
   | (with_reducible exact ih2 _ _ _ _)
   | (with_reducible exact ih3 _ _ _ _)
   | (with_reducible exact ih4 _ _ _)
   | (with_reducible exact diacriticref26_time.mono _ _)
   | (with_reducible exact LeO.refl _)
   | (with_reducible exact LeO.none _)
   | (with_reducible refine LeO.ite ?_ ?_)
   | (with_reducible refine LeO.bind ?_ (fun _ => ?_))
   | exact ih0 _ _ _
   | exact ih1 _ _ _
   | exact ih2 _ _ _ _
   | exact ih3 _ _ _ _
   | exact ih4 _ _ _
   | exact diacriticref26_time.mono _ _
   | exact LeO.none _
   | refine LeO.ite ?_ ?_
   | refine LeO.bind ?_ (fun _ => ?_)
  ·
   intro y0 y1 y2 y3
   unfold diacriticref26_Pieces.j3
   repeat' first
   | (with_reducible exact ih0 _ _ _)
   | (with_reducible exact ih1 _ _ _)
   | (with_reducible exact ih2 _ _ _ _)
   | (with_reducible exact ih3 _ _ _ _)
   | (with_reducible exact ih4 _ _ _)
   | (with_reducible exact diacriticref26_time.mono _ _)
   | (with_reducible exact LeO.refl _)
   | (with_reducible exact LeO.none _)
   | (with_reducible refine LeO.ite ?_ ?_)
   | (with_reducible refine LeO.bind ?_ (fun _ => ?_))
   | exact ih0 _ _ _
   | exact ih1 _ _ _
   | exact ih2 _ _ _ _
   | exact ih3 _ _ _ _
   | exact ih4 _ _ _
   | exact diacriticref26_time.mono _ _
   | exact LeO.none _
   | refine LeO.ite ?_ ?_
   | refine LeO.bind ?_ (fun _ => ?_)
  ·
   intro y0 y1 y2 y3
   unfold diacriticref26_Pieces.l2
   repeat' first
   | (with_reducible exact ih0 _ _ _)
   | (with_reducible exact ih1 _ _ _)
   | (with_reducible exact ih2 _ _ _ _)
   | (with_reducible exact ih3 _ _ _ _)
   | (with_reducible exact ih4 _ _ _)
   | (with_reducible exact diacriticref26_time.mono _ _)
   | (with_reducible exact LeO.refl _)
   | (with_reducible exact LeO.none _)
   | (with_reducible refine LeO.ite ?_ ?_)
   | (with_reducible refine LeO.bind ?_ (fun _ => ?_))
   | exact ih0 _ _ _
   | exact ih1 _ _ _
   | exact ih2 _ _ _ _
   | exact ih3 _ _ _ _
   | exact ih4 _ _ _
   | exact diacriticref26_time.mono _ _
   | exact LeO.none _
   | refine LeO.ite ?_ ?_
   | refine LeO.bind ?_ (fun _ => ?_)
  ·
   intro y0 y1 y2
   unfold diacriticref26_Pieces.l1
   repeat' first
   | (with_reducible exact ih0 _ _ _)
   | (with_reducible exact ih1 _ _ _)
   | (with_reducible exact ih2 _ _ _ _)
   | (with_reducible exact ih3 _ _ _ _)
   | (with_reducible exact ih4 _ _ _)
   | (with_reducible exact diacriticref26_time.mono _ _)
   | (with_reducible exact LeO.refl _)
   | (with_reducible exact LeO.none _)
   | (with_reducible refine LeO.ite ?_ ?_)
   | (with_reducible refine LeO.bind ?_ (fun _ => ?_))
   | exact ih0 _ _ _
   | exact ih1 _ _ _
   | exact ih2 _ _ _ _
   | exact ih3 _ _ _ _
   | exact ih4 _ _ _
   | exact diacriticref26_time.mono _ _
   | exact LeO.none _
   | refine LeO.ite ?_ ?_
   | refine LeO.bind ?_ (fun _ => ?_)
theorem diacriticref26_Pieces.mono : ∀ a0 k, LeO (diacriticref26_Pieces.f k a0) (diacriticref26_Pieces.f (k + 1) a0) := by
 intro a0 k
 obtain ⟨ih0, ih1, ih2, ih3, ih4⟩ := diacriticref26_Pieces.mono_l k
 unfold diacriticref26_Pieces.f
 repeat' first
   | (with_reducible exact ih0 _ _ _)
   | (with_reducible exact ih1 _ _ _)
   | (with_reducible exact ih2 _ _ _ _)
   | (with_reducible exact ih3 _ _ _ _)
   | (with_reducible exact ih4 _ _ _)
   | (with_reducible exact diacriticref26_time.mono _ _)
   | (with_reducible exact LeO.refl _)
   | (with_reducible exact LeO.none _)
   | (with_reducible refine LeO.ite ?_ ?_)
   | (with_reducible refine LeO.bind ?_ (fun _ => ?_))
   | exact ih0 _ _ _
   | exact ih1 _ _ _
   | exact ih2 _ _ _ _
   | exact ih3 _ _ _ _
   | exact ih4 _ _ _
   | exact diacriticref26_time.mono _ _
   | exact LeO.none _
   | refine LeO.ite ?_ ?_
   | refine LeO.bind ?_ (fun _ => ?_)
def diacriticref26_Pieces.T26 : Bool × List (List Nat × List Nat) := (true, [([], []), ([], []), ([], []), ([1, 2], [1, 2]), ([], []), ([], []), ([5], [5]), ([], []), ([7], [7]), ([8], [8]), ([4, 6, 9], [4, 6, 9]), ([0, 3, 10], [0, 3, 10]), ([11, 11, 0, 1, 2, 3, 4, 5, 6, 7, 8, 9, 10, 11], [0, 11])])
def diacriticref26_Pieces.B26 : List Nat := [0, 0, 0, 6, 0, 0, 32, 0, 128, 384, 1008, 2047, 4095]
theorem diacriticref26_Pieces.tab26 : rtab .any (opsOf Try.f36 26) = diacriticref26_Pieces.T26 := by kernel_rfl
theorem diacriticref26_Pieces.bits26 : waitsOk diacriticref26_Pieces.T26.2 diacriticref26_Pieces.B26 = true := by kernel_rfl
set_option maxHeartbeats 8000000 in
set_option maxRecDepth 100000 in
theorem diacriticref26_Pieces.calls (k : Nat) (a0 : ByteArray) (r1 : List (S50)) (r2 : Bool) (w : World) (h : diacriticref26_Pieces.f k a0 = some (r1, r2)) :
  Calls Try.prog 36 #[.string a0] w fun e w' => ∃ v0_ : Value, e = .returned (.tuple #[v0_, .bool r2]) ∧ Kd.R k50 50 w' w.heap.size (fun _ => True) v0_ r1 ∧ Below w.heap.size w w' := by
 have HB := Aside0.mk (Below.refl w.heap.size w)
 have H : (if a0.toList = ([] : List UInt8) then (some (([] : List (S50)), true)) else (diacriticref26_Pieces.l0 k a0 ([] : List (S50)) 0)) = some (r1, r2) := h
 clear h
 by_cases c2 : a0.toList = ([] : List UInt8)
 ·
  rw [if_pos c2] at H
  have c2b0 : (a0.toList == ([] : List UInt8)) = true := beq_iff_eq.mpr c2
  have c2b1 : (a0.toList != ([] : List UInt8)) = false := bne_eq_false_iff_eq.mpr c2
  clear c2
  simp only [Option.some.injEq, Prod.mk.injEq] at H
  obtain ⟨rfl, rfl⟩ := H
  go_enter Try.func36, Try.ntmps36
  go_wp2
  go_ret2
  exact ⟨_, by first | rfl | (simp [errW_none, errW_some] <;> rfl) | (simp [*, errW_none, errW_some] <;> rfl), by first | exact Kd.R_nil _ _ _ _ _ | exact Kd.N_nil _ _ _ _ _ | exact Kd.V_nil _ _ _ _ _ | exact Kd.Q_nil _ _ _ _ _ | exact Kd.S_nil _ _ _ _ _, by repeat (first | (with_reducible first | exact HB.out | apply below_alloc | apply pw_below_drewN | apply below_drew1) | exact HB.out)⟩
 ·
  rw [if_neg c2] at H
  have c2b0 : (a0.toList == ([] : List UInt8)) = false := beq_eq_false_iff_ne.mpr c2
  have c2b1 : (a0.toList != ([] : List UInt8)) = true := bne_iff_ne.mpr c2
  have H' := Aside0.mk H
  clear H
  go_enter Try.func36, Try.ntmps36
  go_wp2
  go_loopg [4, 5] k (fun kq v4 v5 w' => ∃ (x4_1 : List (S50)) (x5_1 : Int), v5 = .int .i64 x5_1 ∧ Aside0 (diacriticref26_Pieces.l0 kq a0 x4_1 x5_1 = some (r1, r2)) ∧ Aside0 (kq ≤ k) ∧ Aside0 (Kd.R k50 50 w' w.heap.size (fun _ => True) v4 x4_1) ∧ Aside0 (Below w.heap.size w w'))
  case atStart => exact ⟨(([] : List (S50))), (0), (by first | rfl | (simp; done) | (simp [*]; done) | (simp [beq_nil_isEmpty, bne_nil_isEmpty]; done)), H', ⟨Nat.le_refl _⟩, ⟨by first | exact Kd.R_nil _ _ _ _ _ | exact Kd.N_nil _ _ _ _ _ | exact Kd.V_nil _ _ _ _ _ | exact Kd.Q_nil _ _ _ _ _ | exact Kd.S_nil _ _ _ _ _⟩, ⟨by repeat (first | (with_reducible first | exact HB.out | apply below_alloc | apply pw_below_drewN | apply below_drew1) | exact HB.out)⟩⟩
  case round =>
   clear H'
   try clear c2
   try clear c2b0
   try clear c2b1
   try clear p2
   obtain ⟨x4_1, x5_1, rfl, HA, HK1, HO_4, HB⟩ := hrel
   cases gk with
   | zero => exact absurd HA.out (by simp [diacriticref26_Pieces.l0])
   | succ k1 =>
    have H := HA.out
    clear HA
    simp only [diacriticref26_Pieces.l0] at H
    by_cases c3 : 0 ≤ x5_1
    ·
     rw [if_pos c3] at H
     have c3b0 := eq_true c3
     have c3b1 : decide (0 ≤ x5_1) = true := decide_eq_true c3
     clear c3
     by_cases c4 : x5_1 ≤ (a0.size : Int)
     ·
      rw [if_pos c4] at H
      have c4b0 := eq_true c4
      have c4b1 : decide (x5_1 ≤ (a0.size : Int)) = true := decide_eq_true c4
      clear c4; replace H := Option.bind_eq_some_iff.mp H; obtain ⟨t393, A50, H⟩ := H
      replace H : (if t393 > 0 then ((diacriticref26_time.f k1 (a0.extract (x5_1 : Int).toNat a0.size)).bind fun t394 => (if x5_1 ≤ (wrap64 (x5_1 + t394)) then (if (wrap64 (x5_1 + t394)) ≤ (a0.size : Int) then ((diacriticref22_Put.f x4_1 (a0.extract (x5_1 : Int).toNat ((wrap64 (x5_1 + t394)) : Int).toNat)).bind fun t395 => (diacriticref26_Pieces.l0 k1 a0 t395 (wrap64 (x5_1 + t394)))) else (none)) else (none))) else (if x5_1 > 0 then (if x5_1 < (a0.size : Int) then ((diacriticref22_Write.f x4_1 (⟨#[116, 101, 120, 116]⟩ : ByteArray) (a0.extract (x5_1 : Int).toNat a0.size)).bind fun t398 => (some (t398, true))) else (some (x4_1, true))) else (diacriticref26_Pieces.l1 k1 a0 x4_1 1))) = some (r1, r2) := H
      have A5 := Aside0.mk A50; clear A50
      by_cases c6 : t393 > 0
      ·
       rw [if_pos c6] at H
       have c6b0 : decide (0 < t393) = true := decide_eq_true c6
       clear c6
       have c7b0 := eq_true (of_decide_eq_true (by first | (with_reducible assumption) | assumption) : 0 ≤ x5_1)
       have c8b0 := eq_true (of_decide_eq_true (by first | (with_reducible assumption) | assumption) : x5_1 ≤ (a0.size : Int))
       replace H := Option.bind_eq_some_iff.mp H; obtain ⟨t394, A90, H⟩ := H
       replace H : (if x5_1 ≤ (wrap64 (x5_1 + t394)) then (if (wrap64 (x5_1 + t394)) ≤ (a0.size : Int) then ((diacriticref22_Put.f x4_1 (a0.extract (x5_1 : Int).toNat ((wrap64 (x5_1 + t394)) : Int).toNat)).bind fun t395 => (diacriticref26_Pieces.l0 k1 a0 t395 (wrap64 (x5_1 + t394)))) else (none)) else (none)) = some (r1, r2) := H
       have A9 := Aside0.mk A90; clear A90
       have c10b0 := eq_true (of_decide_eq_true (by first | (with_reducible assumption) | assumption) : 0 ≤ x5_1)
       by_cases c11 : x5_1 ≤ (wrap64 (x5_1 + t394))
       ·
        rw [if_pos c11] at H
        have c11b0 := eq_true c11
        have c11b1 : decide (x5_1 ≤ (wrap64 (x5_1 + t394))) = true := decide_eq_true c11
        by_cases c12 : (wrap64 (x5_1 + t394)) ≤ (a0.size : Int)
        ·
         rw [if_pos c12] at H
         have c12b0 := eq_true c12
         have c12b1 : decide ((wrap64 (x5_1 + t394)) ≤ (a0.size : Int)) = true := decide_eq_true c12
         replace H := Option.bind_eq_some_iff.mp H; obtain ⟨t395, A130, H⟩ := H
         replace H : (diacriticref26_Pieces.l0 k1 a0 t395 (wrap64 (x5_1 + t394))) = some (r1, r2) := H
         have A13 := Aside0.mk A130; clear A130
         have H' := Aside0.mk H
         clear H
         go_wp2_with (first | ((with_reducible refine gate_callee (f := 58) rfl ?_); refine goesL_ (some 15) rfl rfl Try.func58 (by kernel_rfl) rfl #[.string (a0.extract (x5_1 : Int).toNat a0.size)] rfl (by (try simp only [List.map_toArray, List.map_cons, List.map_nil]); first | done | rfl | (simp only [List.length_drop, List.length_take]; rfl)) ?_; (with_reducible refine (diacriticref26_time.calls k1 (a0.extract (x5_1 : Int).toNat a0.size) t393 _ A5.out).mono ?_); rintro e w' ⟨rfl, ⟨nd, rfl⟩⟩; refine ⟨_, rfl, ?_⟩) | ((with_reducible refine gate_callee (f := 58) rfl ?_); refine goesL_ (some 20) rfl rfl Try.func58 (by kernel_rfl) rfl #[.string (a0.extract (x5_1 : Int).toNat a0.size)] rfl (by (try simp only [List.map_toArray, List.map_cons, List.map_nil]); first | done | rfl | (simp only [List.length_drop, List.length_take]; rfl)) ?_; (with_reducible refine (diacriticref26_time.calls k1 (a0.extract (x5_1 : Int).toNat a0.size) t394 _ A9.out).mono ?_); rintro e w' ⟨rfl, ⟨nd, rfl⟩⟩; refine ⟨_, rfl, ?_⟩; obtain ⟨Ao14, co14, eo14⟩ := Kd.R_slice HO_4.out; subst eo14) | ((with_reducible refine gate_callee (f := 53) rfl ?_); refine goesL_ (some 28) rfl rfl Try.func53 (by kernel_rfl) rfl #[.slice Ao14 x4_1.length co14, .string (a0.extract (x5_1 : Int).toNat ((wrap64 (x5_1 + t394)) : Int).toNat)] rfl (by (try simp only [List.map_toArray, List.map_cons, List.map_nil]); first | done | rfl | (simp only [List.length_drop, List.length_take]; rfl)) ?_; (with_reducible refine (diacriticref22_Put.calls (fun k_ => some k_ = (.slice Ao14 x4_1.length co14 : Value).ownBlock) (.slice Ao14 x4_1.length co14) x4_1 (a0.extract (x5_1 : Int).toNat ((wrap64 (x5_1 + t394)) : Int).toNat) t395 w _ ?side1 ?side2 A13.out).mono ?_); (case side1 => repeat (first | (with_reducible first | exact HB.out | apply below_alloc | apply pw_below_drewN | apply below_drew1) | exact HB.out)); (case side2 => exact Kd.R_tight rfl HO_4.out); rintro e w15 ⟨v396, rfl, ho0, hb, hkp⟩; refine ⟨_, rfl, ?_⟩; have n0_ := Aside0.mk (Kd.R_mono (ok' := fun k_ => True) ho0 (fun k_ hk_ => trivial)); have n1_ := Aside0.mk (hb); clear HB; clear HO_4; have HO397 := n0_; have HB := n1_; clear n0_ n1_; (try clear hb); (try clear hkp); (try clear ho0)))
         go_roundg k1
         case measure => have := HK1.out; omega
         case rel => exact ⟨(t395), (wrap64 (x5_1 + t394)), (by first | rfl | (simp; done) | (simp [*]; done) | (simp [beq_nil_isEmpty, bne_nil_isEmpty]; done)), H', ⟨by have := HK1.out; omega⟩, ⟨by (with_reducible repeat (first | apply Kd.R_alloc | apply Kd.R_drewN | apply Kd.R_drew)); exact HO397.out⟩, ⟨by repeat (first | (with_reducible first | exact HB.out | apply below_alloc | apply pw_below_drewN | apply below_drew1) | exact HB.out)⟩⟩
        ·
         rw [if_neg c12] at H
         exact absurd H (by simp)
       ·
        rw [if_neg c11] at H
        exact absurd H (by simp)
      ·
       rw [if_neg c6] at H
       have c6b0 : decide (0 < t393) = false := decide_eq_false c6
       clear c6
       by_cases c16 : x5_1 > 0
       ·
        rw [if_pos c16] at H
        have c16b0 : decide (0 < x5_1) = true := decide_eq_true c16
        clear c16
        by_cases c17 : x5_1 < (a0.size : Int)
        ·
         rw [if_pos c17] at H
         have c17b0 : decide (x5_1 < (a0.size : Int)) = true := decide_eq_true c17
         clear c17
         have c18b0 := eq_true (of_decide_eq_true (by first | (with_reducible assumption) | assumption) : 0 ≤ x5_1)
         have c19b0 := eq_true (of_decide_eq_true (by first | (with_reducible assumption) | assumption) : x5_1 ≤ (a0.size : Int))
         replace H := Option.bind_eq_some_iff.mp H; obtain ⟨t398, A200, H⟩ := H
         replace H : (some (t398, true)) = some (r1, r2) := H
         have A20 := Aside0.mk A200; clear A200
         simp only [Option.some.injEq, Prod.mk.injEq] at H
         obtain ⟨rfl, rfl⟩ := H
         go_wp2_with (first | ((with_reducible refine gate_callee (f := 58) rfl ?_); refine goesL_ (some 15) rfl rfl Try.func58 (by kernel_rfl) rfl #[.string (a0.extract (x5_1 : Int).toNat a0.size)] rfl (by (try simp only [List.map_toArray, List.map_cons, List.map_nil]); first | done | rfl | (simp only [List.length_drop, List.length_take]; rfl)) ?_; (with_reducible refine (diacriticref26_time.calls k1 (a0.extract (x5_1 : Int).toNat a0.size) t393 _ A5.out).mono ?_); rintro e w' ⟨rfl, ⟨nd, rfl⟩⟩; refine ⟨_, rfl, ?_⟩; obtain ⟨Ao21, co21, eo21⟩ := Kd.R_slice HO_4.out; subst eo21) | ((with_reducible refine gate_callee (f := 54) rfl ?_); refine goesL_ (some 42) rfl rfl Try.func54 (by kernel_rfl) rfl #[.slice Ao21 x4_1.length co21, .string (⟨#[116, 101, 120, 116]⟩ : ByteArray), .string (a0.extract (x5_1 : Int).toNat a0.size)] rfl (by (try simp only [List.map_toArray, List.map_cons, List.map_nil]); first | done | rfl | (simp only [List.length_drop, List.length_take]; rfl)) ?_; (with_reducible refine (diacriticref22_Write.calls (fun k_ => some k_ = (.slice Ao21 x4_1.length co21 : Value).ownBlock) (.slice Ao21 x4_1.length co21) x4_1 (⟨#[116, 101, 120, 116]⟩ : ByteArray) (a0.extract (x5_1 : Int).toNat a0.size) t398 w _ ?side1 ?side2 A20.out).mono ?_); (case side1 => repeat (first | (with_reducible first | exact HB.out | apply below_alloc | apply pw_below_drewN | apply below_drew1) | exact HB.out)); (case side2 => exact Kd.R_tight rfl HO_4.out); rintro e w22 ⟨v399, rfl, ho0, hb, hkp⟩; refine ⟨_, rfl, ?_⟩; have n0_ := Aside0.mk (Kd.R_mono (ok' := fun k_ => True) ho0 (fun k_ hk_ => trivial)); have n1_ := Aside0.mk (hb); clear HB; clear HO_4; have HO400 := n0_; have HB := n1_; clear n0_ n1_; (try clear hb); (try clear hkp); (try clear ho0)))
         go_ret2
         exact ⟨_, by first | rfl | (simp [errW_none, errW_some] <;> rfl) | (simp [*, errW_none, errW_some] <;> rfl), by (with_reducible repeat (first | apply Kd.R_alloc | apply Kd.R_drewN | apply Kd.R_drew)); exact HO400.out, by repeat (first | (with_reducible first | exact HB.out | apply below_alloc | apply pw_below_drewN | apply below_drew1) | exact HB.out)⟩
        ·
         rw [if_neg c17] at H
         have c17b0 : decide (x5_1 < (a0.size : Int)) = false := decide_eq_false c17
         clear c17
         simp only [Option.some.injEq, Prod.mk.injEq] at H
         obtain ⟨rfl, rfl⟩ := H
         go_wp2_with (first | ((with_reducible refine gate_callee (f := 58) rfl ?_); refine goesL_ (some 15) rfl rfl Try.func58 (by kernel_rfl) rfl #[.string (a0.extract (x5_1 : Int).toNat a0.size)] rfl (by (try simp only [List.map_toArray, List.map_cons, List.map_nil]); first | done | rfl | (simp only [List.length_drop, List.length_take]; rfl)) ?_; (with_reducible refine (diacriticref26_time.calls k1 (a0.extract (x5_1 : Int).toNat a0.size) t393 _ A5.out).mono ?_); rintro e w' ⟨rfl, ⟨nd, rfl⟩⟩; refine ⟨_, rfl, ?_⟩))
         go_ret2
         exact ⟨_, by first | rfl | (simp [errW_none, errW_some] <;> rfl) | (simp [*, errW_none, errW_some] <;> rfl), by (with_reducible repeat (first | apply Kd.R_alloc | apply Kd.R_drewN | apply Kd.R_drew)); exact HO_4.out, by repeat (first | (with_reducible first | exact HB.out | apply below_alloc | apply pw_below_drewN | apply below_drew1) | exact HB.out)⟩
       ·
        rw [if_neg c16] at H
        have c16b0 : decide (0 < x5_1) = false := decide_eq_false c16
        clear c16
        have HC23 := Aside0.mk H
        clear H
        go_upto_block 2 with (first | ((with_reducible refine gate_callee (f := 58) rfl ?_); refine goesL_ (some 15) rfl rfl Try.func58 (by kernel_rfl) rfl #[.string (a0.extract (x5_1 : Int).toNat a0.size)] rfl (by (try simp only [List.map_toArray, List.map_cons, List.map_nil]); first | done | rfl | (simp only [List.length_drop, List.length_take]; rfl)) ?_; (with_reducible refine (diacriticref26_time.calls k1 (a0.extract (x5_1 : Int).toNat a0.size) t393 _ A5.out).mono ?_); rintro e w' ⟨rfl, ⟨nd, rfl⟩⟩; refine ⟨_, rfl, ?_⟩))
        (try simp only [Act.put, List.setIfInBounds_toArray, List.set_cons_zero, List.set_cons_succ])
        go_cut [7] (fun v7 wc => ∃ (kq : Nat) (x7_22 : Int), v7 = .int .i64 x7_22 ∧ Aside0 (diacriticref26_Pieces.j2 kq a0 x4_1 x7_22 = some (r1, r2)) ∧ Aside0 (kq ≤ k1) ∧ Aside0 (Kd.R k50 50 wc w.heap.size (fun _ => True) u4 x4_1) ∧ Aside0 (Below w.heap.size w wc))
        case first =>
         have H := HC23.out
         clear HC23
         have H' := Aside0.mk H
         clear H
         go_wp2
         go_loopg [7] k1 (fun kq v7 w' => ∃ (x7_2 : Int), v7 = .int .i64 x7_2 ∧ Aside0 (diacriticref26_Pieces.l1 kq a0 x4_1 x7_2 = some (r1, r2)) ∧ Aside0 (kq ≤ k1) ∧ Aside0 (Kd.R k50 50 w' w.heap.size (fun _ => True) u4 x4_1) ∧ Aside0 (Below w.heap.size w w'))
         case atStart => exact ⟨(1), (by first | rfl | (simp; done) | (simp [*]; done) | (simp [beq_nil_isEmpty, bne_nil_isEmpty]; done)), H', ⟨Nat.le_refl _⟩, ⟨by (with_reducible repeat (first | apply Kd.R_alloc | apply Kd.R_drewN | apply Kd.R_drew)); exact HO_4.out⟩, ⟨by repeat (first | (with_reducible first | exact HB.out | apply below_alloc | apply pw_below_drewN | apply below_drew1) | exact HB.out)⟩⟩
         case round =>
          clear H'
          try clear c1
          try clear c2
          try clear c2b0
          try clear c2b1
          try clear p2
          try clear c3
          try clear c3b0
          try clear c3b1
          try clear c4
          try clear c4b0
          try clear c4b1
          try clear c5
          try clear c6
          try clear c6b0
          try clear p6
          try clear c7
          try clear c7b0
          try clear c8
          try clear c8b0
          try clear c10
          try clear c10b0
          try clear c11
          try clear c11b0
          try clear c11b1
          try clear c12
          try clear c12b0
          try clear c12b1
          try clear c16
          try clear c16b0
          try clear c17
          try clear c17b0
          try clear c18
          try clear c18b0
          try clear c19
          try clear c19b0
          try clear p2
          obtain ⟨x7_2, rfl, HA, HK2, HO_4, HB⟩ := hrel
          cases gk with
          | zero => exact absurd HA.out (by simp [diacriticref26_Pieces.l1])
          | succ k2 =>
           have H := HA.out
           clear HA
           simp only [diacriticref26_Pieces.l1] at H
           by_cases c24 : x7_2 < (a0.size : Int)
           ·
            rw [if_pos c24] at H
            have c24b0 : decide (x7_2 < (a0.size : Int)) = true := decide_eq_true c24
            clear c24
            (first | rw [c24b0] | (simp only [i64_w, i32_w]; rw [c24b0]) | skip)
            by_cases c25 : 0 ≤ x7_2
            ·
             rw [if_pos c25] at H
             have c25b0 : decide (0 ≤ x7_2) = true := decide_eq_true c25
             clear c25
             by_cases c27 : (bt a0 x7_2) ≥ 97
             ·
              rw [if_pos c27] at H
              have c27b0 : decide (97 ≤ (bt a0 x7_2)) = true := decide_eq_true c27
              clear c27
              by_cases c29 : (bt a0 x7_2) ≤ 122
              ·
               rw [if_pos c29] at H
               have c29b0 : decide ((bt a0 x7_2) ≤ 122) = true := decide_eq_true c29
               clear c29
               have H' := Aside0.mk H
               clear H
               have p26 : 0 ≤ (x7_2 : Int) := of_decide_eq_true (by first | (with_reducible assumption) | assumption)
               have q26 : x7_2 < (a0.size : Int) := of_decide_eq_true (by first | (with_reducible assumption) | assumption)
               have hx26 := bt_at a0 x7_2
               replace p26 := eq_true p26
               replace q26 := eq_true q26
               have p28 : 0 ≤ (x7_2 : Int) := of_decide_eq_true (by first | (with_reducible assumption) | assumption)
               have q28 : x7_2 < (a0.size : Int) := of_decide_eq_true (by first | (with_reducible assumption) | assumption)
               have hx28 := bt_at a0 x7_2
               replace p28 := eq_true p28
               replace q28 := eq_true q28
               go_wp2
               go_roundg k2
               case measure => have := HK1.out; have := HK2.out; omega
               case rel => exact ⟨(wrap64 (x7_2 + 1)), (by first | rfl | (simp; done) | (simp [*]; done) | (simp [beq_nil_isEmpty, bne_nil_isEmpty]; done)), H', ⟨by have := HK1.out; have := HK2.out; omega⟩, ⟨by (with_reducible repeat (first | apply Kd.R_alloc | apply Kd.R_drewN | apply Kd.R_drew)); exact HO_4.out⟩, ⟨by repeat (first | (with_reducible first | exact HB.out | apply below_alloc | apply pw_below_drewN | apply below_drew1) | exact HB.out)⟩⟩
              ·
               rw [if_neg c29] at H
               have c29b0 : decide ((bt a0 x7_2) ≤ 122) = false := decide_eq_false c29
               clear c29
               have H' := Aside0.mk H
               clear H
               have p26 : 0 ≤ (x7_2 : Int) := of_decide_eq_true (by first | (with_reducible assumption) | assumption)
               have q26 : x7_2 < (a0.size : Int) := of_decide_eq_true (by first | (with_reducible assumption) | assumption)
               have hx26 := bt_at a0 x7_2
               replace p26 := eq_true p26
               replace q26 := eq_true q26
               have p28 : 0 ≤ (x7_2 : Int) := of_decide_eq_true (by first | (with_reducible assumption) | assumption)
               have q28 : x7_2 < (a0.size : Int) := of_decide_eq_true (by first | (with_reducible assumption) | assumption)
               have hx28 := bt_at a0 x7_2
               replace p28 := eq_true p28
               replace q28 := eq_true q28
               go_wp2
               go_meet
               case rel => exact ⟨_, (x7_2), (by first | rfl | (simp; done) | (simp [*]; done) | (simp [beq_nil_isEmpty, bne_nil_isEmpty]; done)), H', ⟨by have := HK1.out; have := HK2.out; first | omega | exact Nat.le_refl _⟩, ⟨by (with_reducible repeat (first | apply Kd.R_alloc | apply Kd.R_drewN | apply Kd.R_drew)); exact HO_4.out⟩, ⟨by repeat (first | (with_reducible first | exact HB.out | apply below_alloc | apply pw_below_drewN | apply below_drew1) | exact HB.out)⟩⟩
             ·
              rw [if_neg c27] at H
              have c27b0 : decide (97 ≤ (bt a0 x7_2)) = false := decide_eq_false c27
              clear c27
              have H' := Aside0.mk H
              clear H
              have p26 : 0 ≤ (x7_2 : Int) := of_decide_eq_true (by first | (with_reducible assumption) | assumption)
              have q26 : x7_2 < (a0.size : Int) := of_decide_eq_true (by first | (with_reducible assumption) | assumption)
              have hx26 := bt_at a0 x7_2
              replace p26 := eq_true p26
              replace q26 := eq_true q26
              go_wp2
              go_meet
              case rel => exact ⟨_, (x7_2), (by first | rfl | (simp; done) | (simp [*]; done) | (simp [beq_nil_isEmpty, bne_nil_isEmpty]; done)), H', ⟨by have := HK1.out; have := HK2.out; first | omega | exact Nat.le_refl _⟩, ⟨by (with_reducible repeat (first | apply Kd.R_alloc | apply Kd.R_drewN | apply Kd.R_drew)); exact HO_4.out⟩, ⟨by repeat (first | (with_reducible first | exact HB.out | apply below_alloc | apply pw_below_drewN | apply below_drew1) | exact HB.out)⟩⟩
            ·
             rw [if_neg c25] at H
             exact absurd H (by simp)
           ·
            rw [if_neg c24] at H
            have c24b0 : decide (x7_2 < (a0.size : Int)) = false := decide_eq_false c24
            clear c24
            (first | rw [c24b0] | (simp only [i64_w, i32_w]; rw [c24b0]) | skip)
            have H' := Aside0.mk H
            clear H
            go_wp2
            go_meet
            case rel => exact ⟨_, (x7_2), (by first | rfl | (simp; done) | (simp [*]; done) | (simp [beq_nil_isEmpty, bne_nil_isEmpty]; done)), H', ⟨by have := HK1.out; have := HK2.out; first | omega | exact Nat.le_refl _⟩, ⟨by (with_reducible repeat (first | apply Kd.R_alloc | apply Kd.R_drewN | apply Kd.R_drew)); exact HO_4.out⟩, ⟨by repeat (first | (with_reducible first | exact HB.out | apply below_alloc | apply pw_below_drewN | apply below_drew1) | exact HB.out)⟩⟩
        case rest =>
         clear HC23
         try clear c1
         try clear c2
         try clear c2b0
         try clear c2b1
         try clear p2
         try clear q2
         try clear hx2
         try clear c3
         try clear c3b0
         try clear c3b1
         try clear c4
         try clear c4b0
         try clear c4b1
         try clear c5
         try clear c6
         try clear c6b0
         try clear p6
         try clear c7
         try clear c7b0
         try clear c8
         try clear c8b0
         try clear c10
         try clear c10b0
         try clear c11
         try clear c11b0
         try clear c11b1
         try clear c12
         try clear c12b0
         try clear c12b1
         try clear c16
         try clear c16b0
         try clear c17
         try clear c17b0
         try clear c18
         try clear c18b0
         try clear c19
         try clear c19b0
         try clear c24
         try clear c24b0
         try clear c25
         try clear c25b0
         try clear p26
         try clear q26
         try clear hx26
         try clear c27
         try clear c27b0
         try clear p28
         try clear q28
         try clear hx28
         try clear c29
         try clear c29b0
         try clear p2
         try clear p26
         try clear p28
         try clear p6
         try clear q26
         try clear q28
         obtain ⟨kq, x7_22, rfl, HA, HJ22, HO_4, HB⟩ := hcut
         cases kq with
         | zero => exact absurd HA.out (by simp [diacriticref26_Pieces.j2])
         | succ kj22 =>
          have H := HA.out
          clear HA
          simp only [diacriticref26_Pieces.j2] at H
          have HC30 := Aside0.mk H
          clear H
          go_upto_region 16 with (fail)
          go_cut [80] (fun v80 wc => ∃ (kq : Nat) (x80_29 : Bool), v80 = .bool x80_29 ∧ Aside0 (diacriticref26_Pieces.j3 kq a0 x4_1 x7_22 x80_29 = some (r1, r2)) ∧ Aside0 (kq ≤ kj22) ∧ Aside0 (Kd.R k50 50 wc w.heap.size (fun _ => True) u4 x4_1) ∧ Aside0 (Below w.heap.size w wc))
          case first =>
           have H := HC30.out
           clear HC30
           by_cases c31 : 0 < (a0.size : Int)
           ·
            rw [if_pos c31] at H
            have c31b0 : decide (0 < (a0.size : Int)) = true := decide_eq_true c31
            have c31b1 : decide (0 < a0.size) = true := decide_eq_true (by omega)
            clear c31
            (first | rw [c31b0] | (simp only [i64_w, i32_w]; rw [c31b0]) | skip)
            by_cases c33 : (bt a0 0) = 91
            ·
             rw [if_pos c33] at H
             have c33b0 : ((bt a0 0) == 91) = true := beq_iff_eq.mpr c33
             have c33b1 : ((bt a0 0) != 91) = false := bne_eq_false_iff_eq.mpr c33
             clear c33
             by_cases c34 : x7_22 < 2
             ·
              rw [if_pos c34] at H
              have c34b0 : decide (x7_22 < 2) = true := decide_eq_true c34
              clear c34
              have H' := Aside0.mk H
              clear H
              have p32 : 0 ≤ (0 : Int) := (by omega)
              have q32 : 0 < a0.size := (by have : (0 : Int) < (a0.size : Int) := of_decide_eq_true (by first | (with_reducible assumption) | assumption); omega)
              have hx32 : ∀ h : 0 < a0.size, ((a0[0]'h).toNat : Int) = bt a0 0 := bt_at a0 0
              clear p32
              have qi32 : (0 < (a0.size : Int)) = True := eq_true (of_decide_eq_true (by first | (with_reducible assumption) | assumption))
              replace q32 := eq_true q32
              go_wp2
              go_meet
              case rel => exact ⟨_, (true), (by first | rfl | (simp; done) | (simp [*]; done) | (simp [beq_nil_isEmpty, bne_nil_isEmpty]; done)), H', ⟨by have := HK1.out; have := HJ22.out; first | omega | exact Nat.le_refl _⟩, ⟨by (with_reducible repeat (first | apply Kd.R_alloc | apply Kd.R_drewN | apply Kd.R_drew)); exact HO_4.out⟩, ⟨by repeat (first | (with_reducible first | exact HB.out | apply below_alloc | apply pw_below_drewN | apply below_drew1) | exact HB.out)⟩⟩
             ·
              rw [if_neg c34] at H
              have c34b0 : decide (x7_22 < 2) = false := decide_eq_false c34
              clear c34
              by_cases c35 : x7_22 ≥ (a0.size : Int)
              ·
               rw [if_pos c35] at H
               have c35b0 : decide ((a0.size : Int) ≤ x7_22) = true := decide_eq_true c35
               clear c35
               have H' := Aside0.mk H
               clear H
               have p32 : 0 ≤ (0 : Int) := (by omega)
               have q32 : 0 < a0.size := (by have : (0 : Int) < (a0.size : Int) := of_decide_eq_true (by first | (with_reducible assumption) | assumption); omega)
               have hx32 : ∀ h : 0 < a0.size, ((a0[0]'h).toNat : Int) = bt a0 0 := bt_at a0 0
               clear p32
               have qi32 : (0 < (a0.size : Int)) = True := eq_true (of_decide_eq_true (by first | (with_reducible assumption) | assumption))
               replace q32 := eq_true q32
               go_wp2
               go_meet
               case rel => exact ⟨_, (true), (by first | rfl | (simp; done) | (simp [*]; done) | (simp [beq_nil_isEmpty, bne_nil_isEmpty]; done)), H', ⟨by have := HK1.out; have := HJ22.out; first | omega | exact Nat.le_refl _⟩, ⟨by (with_reducible repeat (first | apply Kd.R_alloc | apply Kd.R_drewN | apply Kd.R_drew)); exact HO_4.out⟩, ⟨by repeat (first | (with_reducible first | exact HB.out | apply below_alloc | apply pw_below_drewN | apply below_drew1) | exact HB.out)⟩⟩
              ·
               rw [if_neg c35] at H
               have c35b0 : decide ((a0.size : Int) ≤ x7_22) = false := decide_eq_false c35
               clear c35
               by_cases c36 : 0 ≤ x7_22
               ·
                rw [if_pos c36] at H
                have c36b0 : decide (0 ≤ x7_22) = true := decide_eq_true c36
                clear c36
                by_cases c37 : x7_22 < (a0.size : Int)
                ·
                 rw [if_pos c37] at H
                 have c37b0 : decide (x7_22 < (a0.size : Int)) = true := decide_eq_true c37
                 clear c37
                 have H' := Aside0.mk H
                 clear H
                 have p32 : 0 ≤ (0 : Int) := (by omega)
                 have q32 : 0 < a0.size := (by have : (0 : Int) < (a0.size : Int) := of_decide_eq_true (by first | (with_reducible assumption) | assumption); omega)
                 have hx32 : ∀ h : 0 < a0.size, ((a0[0]'h).toNat : Int) = bt a0 0 := bt_at a0 0
                 clear p32
                 have qi32 : (0 < (a0.size : Int)) = True := eq_true (of_decide_eq_true (by first | (with_reducible assumption) | assumption))
                 replace q32 := eq_true q32
                 have p38 : 0 ≤ (x7_22 : Int) := of_decide_eq_true (by first | (with_reducible assumption) | assumption)
                 have q38 : x7_22 < (a0.size : Int) := of_decide_eq_true (by first | (with_reducible assumption) | assumption)
                 have hx38 := bt_at a0 x7_22
                 replace p38 := eq_true p38
                 replace q38 := eq_true q38
                 go_wp2
                 go_meet
                 case rel => exact ⟨_, (((bt a0 x7_22) != 58)), (by first | rfl | (simp; done) | (simp [*]; done) | (simp [beq_nil_isEmpty, bne_nil_isEmpty]; done)), H', ⟨by have := HK1.out; have := HJ22.out; first | omega | exact Nat.le_refl _⟩, ⟨by (with_reducible repeat (first | apply Kd.R_alloc | apply Kd.R_drewN | apply Kd.R_drew)); exact HO_4.out⟩, ⟨by repeat (first | (with_reducible first | exact HB.out | apply below_alloc | apply pw_below_drewN | apply below_drew1) | exact HB.out)⟩⟩
                ·
                 rw [if_neg c37] at H
                 exact absurd H (by simp)
               ·
                rw [if_neg c36] at H
                exact absurd H (by simp)
            ·
             rw [if_neg c33] at H
             have c33b0 : ((bt a0 0) == 91) = false := beq_eq_false_iff_ne.mpr c33
             have c33b1 : ((bt a0 0) != 91) = true := bne_iff_ne.mpr c33
             have H' := Aside0.mk H
             clear H
             have p32 : 0 ≤ (0 : Int) := (by omega)
             have q32 : 0 < a0.size := (by have : (0 : Int) < (a0.size : Int) := of_decide_eq_true (by first | (with_reducible assumption) | assumption); omega)
             have hx32 : ∀ h : 0 < a0.size, ((a0[0]'h).toNat : Int) = bt a0 0 := bt_at a0 0
             clear p32
             have qi32 : (0 < (a0.size : Int)) = True := eq_true (of_decide_eq_true (by first | (with_reducible assumption) | assumption))
             replace q32 := eq_true q32
             go_wp2
             go_meet
             case rel => exact ⟨_, (true), (by first | rfl | (simp; done) | (simp [*]; done) | (simp [beq_nil_isEmpty, bne_nil_isEmpty]; done)), H', ⟨by have := HK1.out; have := HJ22.out; first | omega | exact Nat.le_refl _⟩, ⟨by (with_reducible repeat (first | apply Kd.R_alloc | apply Kd.R_drewN | apply Kd.R_drew)); exact HO_4.out⟩, ⟨by repeat (first | (with_reducible first | exact HB.out | apply below_alloc | apply pw_below_drewN | apply below_drew1) | exact HB.out)⟩⟩
           ·
            rw [if_neg c31] at H
            exact absurd H (by simp)
          case rest =>
           clear HC30
           try clear c1
           try clear c2
           try clear c2b0
           try clear c2b1
           try clear p2
           try clear q2
           try clear hx2
           try clear c3
           try clear c3b0
           try clear c3b1
           try clear p3
           try clear q3
           try clear hx3
           try clear qi3
           try clear c4
           try clear c4b0
           try clear c4b1
           try clear c5
           try clear c6
           try clear c6b0
           try clear p6
           try clear c7
           try clear c7b0
           try clear c8
           try clear c8b0
           try clear c10
           try clear c10b0
           try clear c11
           try clear c11b0
           try clear c11b1
           try clear c12
           try clear c12b0
           try clear c12b1
           try clear c16
           try clear c16b0
           try clear c17
           try clear c17b0
           try clear c18
           try clear c18b0
           try clear c19
           try clear c19b0
           try clear c24
           try clear c24b0
           try clear c25
           try clear c25b0
           try clear p26
           try clear q26
           try clear hx26
           try clear c27
           try clear c27b0
           try clear p28
           try clear q28
           try clear hx28
           try clear c29
           try clear c29b0
           try clear c31
           try clear c31b0
           try clear c31b1
           try clear p32
           try clear q32
           try clear hx32
           try clear qi32
           try clear c33
           try clear c33b0
           try clear c33b1
           try clear c34
           try clear c34b0
           try clear c35
           try clear c35b0
           try clear c36
           try clear c36b0
           try clear c37
           try clear c37b0
           try clear p38
           try clear q38
           try clear hx38
           try clear p2
           try clear p26
           try clear p28
           try clear p32
           try clear p38
           try clear p6
           try clear q2
           try clear q26
           try clear q28
           try clear q32
           try clear q38
           obtain ⟨kq, x80_29, rfl, HA, HJ29, HO_4, HB⟩ := hcut
           cases kq with
           | zero => exact absurd HA.out (by simp [diacriticref26_Pieces.j3])
           | succ kj29 =>
            have H := HA.out
            clear HA
            simp only [diacriticref26_Pieces.j3] at H
            by_cases c39 : x80_29 = true
            ·
             subst c39
             have H1 : (some (([] : List (S50)), false)) = some (r1, r2) := by rw [if_pos rfl] at H; exact H
             clear H; have H := H1; clear H1
             simp only [Option.some.injEq, Prod.mk.injEq] at H
             obtain ⟨rfl, rfl⟩ := H
             go_wp2
             go_ret2
             exact ⟨_, by first | rfl | (simp [errW_none, errW_some] <;> rfl) | (simp [*, errW_none, errW_some] <;> rfl), by first | exact Kd.R_nil _ _ _ _ _ | exact Kd.N_nil _ _ _ _ _ | exact Kd.V_nil _ _ _ _ _ | exact Kd.Q_nil _ _ _ _ _ | exact Kd.S_nil _ _ _ _ _, by repeat (first | (with_reducible first | exact HB.out | apply below_alloc | apply pw_below_drewN | apply below_drew1) | exact HB.out)⟩
            ·
             replace c39 := Bool.eq_false_iff.mpr c39
             subst c39
             have H1 : (diacriticref26_Pieces.l2 kj29 a0 x4_1 x7_22 x7_22) = some (r1, r2) := by rw [if_neg (show ¬ (false = true) by decide)] at H; exact H
             clear H; have H := H1; clear H1
             have H' := Aside0.mk H
             clear H
             go_wp2
             go_loopg [8] kj29 (fun kq v8 w' => ∃ (x8_4 : Int), v8 = .int .i64 x8_4 ∧ Aside0 (diacriticref26_Pieces.l2 kq a0 x4_1 x7_22 x8_4 = some (r1, r2)) ∧ Aside0 (kq ≤ kj29) ∧ Aside0 (Kd.R k50 50 w' w.heap.size (fun _ => True) u4 x4_1) ∧ Aside0 (Below w.heap.size w w'))
             case atStart => exact ⟨(x7_22), (by first | rfl | (simp; done) | (simp [*]; done) | (simp [beq_nil_isEmpty, bne_nil_isEmpty]; done)), H', ⟨Nat.le_refl _⟩, ⟨by (with_reducible repeat (first | apply Kd.R_alloc | apply Kd.R_drewN | apply Kd.R_drew)); exact HO_4.out⟩, ⟨by repeat (first | (with_reducible first | exact HB.out | apply below_alloc | apply pw_below_drewN | apply below_drew1) | exact HB.out)⟩⟩
             case round =>
              clear H'
              try clear c1
              try clear c2
              try clear c2b0
              try clear c2b1
              try clear p2
              try clear q2
              try clear hx2
              try clear c3
              try clear c3b0
              try clear c3b1
              try clear p3
              try clear q3
              try clear hx3
              try clear qi3
              try clear c4
              try clear c4b0
              try clear c4b1
              try clear c5
              try clear c6
              try clear c6b0
              try clear p6
              try clear c7
              try clear c7b0
              try clear c8
              try clear c8b0
              try clear c10
              try clear c10b0
              try clear c11
              try clear c11b0
              try clear c11b1
              try clear c12
              try clear c12b0
              try clear c12b1
              try clear c16
              try clear c16b0
              try clear c17
              try clear c17b0
              try clear c18
              try clear c18b0
              try clear c19
              try clear c19b0
              try clear c24
              try clear c24b0
              try clear c25
              try clear c25b0
              try clear p26
              try clear q26
              try clear hx26
              try clear c27
              try clear c27b0
              try clear p28
              try clear q28
              try clear hx28
              try clear c29
              try clear c29b0
              try clear c31
              try clear c31b0
              try clear c31b1
              try clear p32
              try clear q32
              try clear hx32
              try clear qi32
              try clear c33
              try clear c33b0
              try clear c33b1
              try clear c34
              try clear c34b0
              try clear c35
              try clear c35b0
              try clear c36
              try clear c36b0
              try clear c37
              try clear c37b0
              try clear p38
              try clear q38
              try clear hx38
              try clear c39
              try clear p2
              try clear p26
              try clear p28
              try clear p3
              try clear p32
              try clear p38
              try clear p6
              try clear q2
              try clear q26
              try clear q28
              try clear q3
              try clear q32
              try clear q38
              obtain ⟨x8_4, rfl, HA, HK4, HO_4, HB⟩ := hrel
              cases gk with
              | zero => exact absurd HA.out (by simp [diacriticref26_Pieces.l2])
              | succ k4 =>
               have H := HA.out
               clear HA
               simp only [diacriticref26_Pieces.l2] at H
               by_cases c40 : x8_4 < (a0.size : Int)
               ·
                rw [if_pos c40] at H
                have c40b0 : decide (x8_4 < (a0.size : Int)) = true := decide_eq_true c40
                clear c40
                by_cases c41 : 0 ≤ x8_4
                ·
                 rw [if_pos c41] at H
                 have c41b0 : decide (0 ≤ x8_4) = true := decide_eq_true c41
                 clear c41
                 by_cases c43 : (bt a0 x8_4) = 93
                 ·
                  rw [if_pos c43] at H
                  have c43b0 : ((bt a0 x8_4) == 93) = true := beq_iff_eq.mpr c43
                  have c43b1 : ((bt a0 x8_4) != 93) = false := bne_eq_false_iff_eq.mpr c43
                  clear c43
                  by_cases c44 : x8_4 < (wrap64 ((a0.size : Int) - 1))
                  ·
                   rw [if_pos c44] at H
                   have c44b0 : decide (x8_4 < (wrap64 ((a0.size : Int) - 1))) = true := decide_eq_true c44
                   clear c44
                   simp only [Option.some.injEq, Prod.mk.injEq] at H
                   obtain ⟨rfl, rfl⟩ := H
                   have p42 : 0 ≤ (x8_4 : Int) := of_decide_eq_true (by first | (with_reducible assumption) | assumption)
                   have q42 : x8_4 < (a0.size : Int) := of_decide_eq_true (by first | (with_reducible assumption) | assumption)
                   have hx42 := bt_at a0 x8_4
                   replace p42 := eq_true p42
                   replace q42 := eq_true q42
                   go_wp2
                   go_ret2
                   exact ⟨_, by first | rfl | (simp [errW_none, errW_some] <;> rfl) | (simp [*, errW_none, errW_some] <;> rfl), by first | exact Kd.R_nil _ _ _ _ _ | exact Kd.N_nil _ _ _ _ _ | exact Kd.V_nil _ _ _ _ _ | exact Kd.Q_nil _ _ _ _ _ | exact Kd.S_nil _ _ _ _ _, by repeat (first | (with_reducible first | exact HB.out | apply below_alloc | apply pw_below_drewN | apply below_drew1) | exact HB.out)⟩
                  ·
                   rw [if_neg c44] at H
                   have c44b0 : decide (x8_4 < (wrap64 ((a0.size : Int) - 1))) = false := decide_eq_false c44
                   clear c44
                   have H' := Aside0.mk H
                   clear H
                   have p42 : 0 ≤ (x8_4 : Int) := of_decide_eq_true (by first | (with_reducible assumption) | assumption)
                   have q42 : x8_4 < (a0.size : Int) := of_decide_eq_true (by first | (with_reducible assumption) | assumption)
                   have hx42 := bt_at a0 x8_4
                   replace p42 := eq_true p42
                   replace q42 := eq_true q42
                   go_wp2
                   go_roundg k4
                   case measure => have := HK1.out; have := HJ22.out; have := HJ29.out; have := HK4.out; omega
                   case rel => exact ⟨(wrap64 (x8_4 + 1)), (by first | rfl | (simp; done) | (simp [*]; done) | (simp [beq_nil_isEmpty, bne_nil_isEmpty]; done)), H', ⟨by have := HK1.out; have := HJ22.out; have := HJ29.out; have := HK4.out; omega⟩, ⟨by (with_reducible repeat (first | apply Kd.R_alloc | apply Kd.R_drewN | apply Kd.R_drew)); exact HO_4.out⟩, ⟨by repeat (first | (with_reducible first | exact HB.out | apply below_alloc | apply pw_below_drewN | apply below_drew1) | exact HB.out)⟩⟩
                 ·
                  rw [if_neg c43] at H
                  have c43b0 : ((bt a0 x8_4) == 93) = false := beq_eq_false_iff_ne.mpr c43
                  have c43b1 : ((bt a0 x8_4) != 93) = true := bne_iff_ne.mpr c43
                  have H' := Aside0.mk H
                  clear H
                  have p42 : 0 ≤ (x8_4 : Int) := of_decide_eq_true (by first | (with_reducible assumption) | assumption)
                  have q42 : x8_4 < (a0.size : Int) := of_decide_eq_true (by first | (with_reducible assumption) | assumption)
                  have hx42 := bt_at a0 x8_4
                  replace p42 := eq_true p42
                  replace q42 := eq_true q42
                  go_wp2
                  go_roundg k4
                  case measure => have := HK1.out; have := HJ22.out; have := HJ29.out; have := HK4.out; omega
                  case rel => exact ⟨(wrap64 (x8_4 + 1)), (by first | rfl | (simp; done) | (simp [*]; done) | (simp [beq_nil_isEmpty, bne_nil_isEmpty]; done)), H', ⟨by have := HK1.out; have := HJ22.out; have := HJ29.out; have := HK4.out; omega⟩, ⟨by (with_reducible repeat (first | apply Kd.R_alloc | apply Kd.R_drewN | apply Kd.R_drew)); exact HO_4.out⟩, ⟨by repeat (first | (with_reducible first | exact HB.out | apply below_alloc | apply pw_below_drewN | apply below_drew1) | exact HB.out)⟩⟩
                ·
                 rw [if_neg c41] at H
                 exact absurd H (by simp)
               ·
                rw [if_neg c40] at H
                have c40b0 : decide (x8_4 < (a0.size : Int)) = false := decide_eq_false c40
                clear c40
                obtain ⟨ji45, hji45⟩ : ∃ j_ : Int, (wrap64 ((a0.size : Int) - 1)) = j_ := ⟨_, rfl⟩
                replace H : (if 0 ≤ (ji45) then (if (ji45) < (a0.size : Int) then (if (bt a0 (ji45)) = 93 then (if 0 ≤ (wrap64 (x7_22 + 1)) then (if (wrap64 (x7_22 + 1)) ≤ (a0.size : Int) then ((diacriticref22_Put.f x4_1 (a0.extract 0 ((wrap64 (x7_22 + 1)) : Int).toNat)).bind fun t401 => (if 1 ≤ x7_22 then (if x7_22 ≤ (a0.size : Int) then (if (wrap64 (x7_22 + 1)) ≤ (ji45) then (if (ji45) ≤ (a0.size : Int) then ((diacriticref22_Write.f t401 (a0.extract 1 (x7_22 : Int).toNat) (a0.extract ((wrap64 (x7_22 + 1)) : Int).toNat ((ji45) : Int).toNat)).bind fun t404 => ((diacriticref22_Put.f t404 (⟨#[93]⟩ : ByteArray)).bind fun t407 => (some (t407, true)))) else (none)) else (none)) else (none)) else (none))) else (none)) else (none)) else (some (([] : List (S50)), false))) else (none)) else (none)) = some (r1, r2) := by first | (rw [hji45] at H; exact H) | (simp only [hji45] at H ⊢; exact H)
                have hji45w : (IntKind.i64.wrap ((a0.size : Int) - 1)) = ji45 := (i64_w _).trans hji45
                by_cases c46 : 0 ≤ (ji45)
                ·
                 rw [if_pos c46] at H
                 have c46b0 : decide (0 ≤ (ji45)) = true := decide_eq_true c46
                 clear c46
                 by_cases c47 : (ji45) < (a0.size : Int)
                 ·
                  rw [if_pos c47] at H
                  have c47b0 : decide ((ji45) < (a0.size : Int)) = true := decide_eq_true c47
                  clear c47
                  by_cases c49 : (bt a0 (ji45)) = 93
                  ·
                   rw [if_pos c49] at H
                   have c49b0 : ((bt a0 (ji45)) == 93) = true := beq_iff_eq.mpr c49
                   have c49b1 : ((bt a0 (ji45)) != 93) = false := bne_eq_false_iff_eq.mpr c49
                   clear c49
                   obtain ⟨ji50, hji50⟩ : ∃ j_ : Int, (wrap64 (x7_22 + 1)) = j_ := ⟨_, rfl⟩
                   replace H : (if 0 ≤ (ji50) then (if (ji50) ≤ (a0.size : Int) then ((diacriticref22_Put.f x4_1 (a0.extract 0 ((ji50) : Int).toNat)).bind fun t401 => (if 1 ≤ x7_22 then (if x7_22 ≤ (a0.size : Int) then (if (ji50) ≤ (ji45) then (if (ji45) ≤ (a0.size : Int) then ((diacriticref22_Write.f t401 (a0.extract 1 (x7_22 : Int).toNat) (a0.extract ((ji50) : Int).toNat ((ji45) : Int).toNat)).bind fun t404 => ((diacriticref22_Put.f t404 (⟨#[93]⟩ : ByteArray)).bind fun t407 => (some (t407, true)))) else (none)) else (none)) else (none)) else (none))) else (none)) else (none)) = some (r1, r2) := by first | (rw [hji50] at H; exact H) | (simp only [hji50] at H ⊢; exact H)
                   have hji50w : (IntKind.i64.wrap (x7_22 + 1)) = ji50 := (i64_w _).trans hji50
                   by_cases c51 : 0 ≤ (ji50)
                   ·
                    rw [if_pos c51] at H
                    have c51b0 := eq_true c51
                    have c51b1 : decide (0 ≤ (ji50)) = true := decide_eq_true c51
                    clear c51
                    by_cases c52 : (ji50) ≤ (a0.size : Int)
                    ·
                     rw [if_pos c52] at H
                     have c52b0 := eq_true c52
                     have c52b1 : decide ((ji50) ≤ (a0.size : Int)) = true := decide_eq_true c52
                     clear c52; replace H := Option.bind_eq_some_iff.mp H; obtain ⟨t401, A530, H⟩ := H
                     replace H : (if 1 ≤ x7_22 then (if x7_22 ≤ (a0.size : Int) then (if (ji50) ≤ (ji45) then (if (ji45) ≤ (a0.size : Int) then ((diacriticref22_Write.f t401 (a0.extract 1 (x7_22 : Int).toNat) (a0.extract ((ji50) : Int).toNat ((ji45) : Int).toNat)).bind fun t404 => ((diacriticref22_Put.f t404 (⟨#[93]⟩ : ByteArray)).bind fun t407 => (some (t407, true)))) else (none)) else (none)) else (none)) else (none)) = some (r1, r2) := H
                     have A53 := Aside0.mk A530; clear A530
                     by_cases c54 : 1 ≤ x7_22
                     ·
                      rw [if_pos c54] at H
                      have c54b0 := eq_true c54
                      have c54b1 : decide (1 ≤ x7_22) = true := decide_eq_true c54
                      clear c54
                      by_cases c55 : x7_22 ≤ (a0.size : Int)
                      ·
                       rw [if_pos c55] at H
                       have c55b0 := eq_true c55
                       have c55b1 : decide (x7_22 ≤ (a0.size : Int)) = true := decide_eq_true c55
                       clear c55
                       have c56b0 := eq_true (of_decide_eq_true (by first | (with_reducible assumption) | assumption) : 0 ≤ (ji50))
                       by_cases c57 : (ji50) ≤ (ji45)
                       ·
                        rw [if_pos c57] at H
                        have c57b0 := eq_true c57
                        have c57b1 : decide ((ji50) ≤ (ji45)) = true := decide_eq_true c57
                        clear c57
                        by_cases c58 : (ji45) ≤ (a0.size : Int)
                        ·
                         rw [if_pos c58] at H
                         have c58b0 := eq_true c58
                         have c58b1 : decide ((ji45) ≤ (a0.size : Int)) = true := decide_eq_true c58
                         clear c58; replace H := Option.bind_eq_some_iff.mp H; obtain ⟨t404, A590, H⟩ := H
                         replace H : ((diacriticref22_Put.f t404 (⟨#[93]⟩ : ByteArray)).bind fun t407 => (some (t407, true))) = some (r1, r2) := H
                         have A59 := Aside0.mk A590; clear A590; replace H := Option.bind_eq_some_iff.mp H; obtain ⟨t407, A600, H⟩ := H
                         replace H : (some (t407, true)) = some (r1, r2) := H
                         have A60 := Aside0.mk A600; clear A600
                         simp only [Option.some.injEq, Prod.mk.injEq] at H
                         obtain ⟨rfl, rfl⟩ := H
                         have p48 : 0 ≤ ((ji45) : Int) := of_decide_eq_true (by first | (with_reducible assumption) | assumption)
                         have q48 : (ji45) < (a0.size : Int) := of_decide_eq_true (by first | (with_reducible assumption) | assumption)
                         have hx48 := bt_at a0 (ji45)
                         replace p48 := eq_true p48
                         replace q48 := eq_true q48
                         obtain ⟨Ao61, co61, eo61⟩ := Kd.R_slice HO_4.out
                         subst eo61
                         try go_wp2_with (first | ((with_reducible refine gate_callee (f := 53) rfl ?_); refine goesL_ (some 110) rfl rfl Try.func53 (by kernel_rfl) rfl #[.slice Ao61 x4_1.length co61, .string (a0.extract 0 ((ji50) : Int).toNat)] rfl (by (try simp only [List.map_toArray, List.map_cons, List.map_nil]); first | done | (simp only [hji50]; rfl) | rfl | (simp only [List.length_drop, List.length_take]; rfl)) ?_; (with_reducible refine (diacriticref22_Put.calls (fun k_ => some k_ = (.slice Ao61 x4_1.length co61 : Value).ownBlock) (.slice Ao61 x4_1.length co61) x4_1 (a0.extract 0 ((ji50) : Int).toNat) t401 w _ ?side1 ?side2 A53.out).mono ?_); (case side1 => repeat (first | (with_reducible first | exact HB.out | apply below_alloc | apply pw_below_drewN | apply below_drew1) | exact HB.out)); (case side2 => exact Kd.R_tight rfl HO_4.out); rintro e w62 ⟨v402, rfl, ho0, hb, hkp⟩; refine ⟨_, rfl, ?_⟩; have n0_ := Aside0.mk (Kd.R_mono (ok' := fun k_ => True) ho0 (fun k_ hk_ => trivial)); have n1_ := Aside0.mk (hb); clear HB; clear HO_4; have HO403 := n0_; have HB := n1_; clear n0_ n1_; (try clear hb); (try clear hkp); (try clear ho0)))
                         have n0_ := Aside0.mk (Kd.R_drew HO403.out); have n1_ := Aside0.mk (below_drew1 HB.out); clear HO403; clear HB; have HO403 := n0_; have HB := n1_; clear n0_ n1_
                         obtain ⟨Ao64, co64, eo64⟩ := Kd.R_slice HO403.out
                         (first | subst eo64 | (injection eo64 with f1_ f2_ f3_; have f4_ := f1_.symm; have f5_ := f3_.symm; clear f1_ f2_ f3_; subst f4_; subst f5_))
                         refine start_ (n := 13) (S := fun w' => True) (ds := []) #[false, false, false, false, false, false, false, false, false, false, false, false, false] (by kernel_rfl) rfl rfl trivial (fun hHeld => ?_); refine with_tabW diacriticref26_Pieces.tab26 diacriticref26_Pieces.bits26 (fun HT_ HW_ => ?_)
                         generalize w62.drew = w63 at HO403 HB hHeld ⊢
                         refine pure_ (i := 0) (N := some 111) (v := ?_) (a' := ?_) #[true, false, false, false, false, false, false, false, false, false, false, false, false] rfl rfl (any_of HT_.out (by kernel_rfl)) (fun _ _ _ h => h) (Or.inl ⟨by rfl, ?_⟩) ?_ ?_
                         rotate_left
                         ·
                          intro w'
                          go_simp
                          with_reducible rfl
                         rotate_left
                         ·
                          simp only [Act.put, List.setIfInBounds_toArray, List.set_cons_zero, List.set_cons_succ, i64_w, i32_w]
                          rfl
                         refine pure_ (i := 1) (N := some 112) (v := ?_) (a' := ?_) #[true, true, false, false, false, false, false, false, false, false, false, false, false] rfl rfl (any_of HT_.out (by kernel_rfl)) (fun _ _ _ h => h) (Or.inl ⟨by rfl, ?_⟩) ?_ ?_
                         rotate_left
                         ·
                          intro w'
                          go_simp
                          with_reducible rfl
                         rotate_left
                         ·
                          simp only [Act.put, List.setIfInBounds_toArray, List.set_cons_zero, List.set_cons_succ, i64_w, i32_w]
                          rfl
                         refine pure_ (i := 2) (N := some 113) (v := ?_) (a' := ?_) #[true, true, true, false, false, false, false, false, false, false, false, false, false] rfl rfl (any_of HT_.out (by kernel_rfl)) (fun _ _ _ h => h) (Or.inl ⟨by rfl, ?_⟩) ?_ ?_
                         rotate_left
                         ·
                          intro w'
                          go_simp
                          with_reducible rfl
                         rotate_left
                         ·
                          simp only [Act.put, List.setIfInBounds_toArray, List.set_cons_zero, List.set_cons_succ, i64_w, i32_w]
                          rfl
                         refine pure_ (i := 3) (N := some 114) (v := ?_) (a' := ?_) #[true, true, true, true, false, false, false, false, false, false, false, false, false] rfl rfl (any_of HT_.out (by kernel_rfl)) (fun _ _ _ h => h) (Or.inl ⟨by rfl, ?_⟩) ?_ ?_
                         rotate_left
                         ·
                          intro w'
                          go_simp
                          with_reducible rfl
                         rotate_left
                         ·
                          simp only [Act.put, List.setIfInBounds_toArray, List.set_cons_zero, List.set_cons_succ, i64_w, i32_w]
                          rfl
                         refine pure_ (i := 4) (N := some 115) (v := ?_) (a' := ?_) #[true, true, true, true, true, false, false, false, false, false, false, false, false] rfl rfl (any_of HT_.out (by kernel_rfl)) (fun _ _ _ h => h) (Or.inl ⟨by rfl, ?_⟩) ?_ ?_
                         rotate_left
                         ·
                          intro w'
                          go_simp
                          with_reducible rfl
                         rotate_left
                         ·
                          simp only [Act.put, List.setIfInBounds_toArray, List.set_cons_zero, List.set_cons_succ, i64_w, i32_w]
                          rfl
                         refine pure_ (i := 5) (N := some 116) (v := ?_) (a' := ?_) #[true, true, true, true, true, true, false, false, false, false, false, false, false] rfl rfl (any_of HT_.out (by kernel_rfl)) (fun _ _ _ h => h) (Or.inl ⟨by rfl, ?_⟩) ?_ ?_
                         rotate_left
                         ·
                          intro w'
                          go_simp
                          with_reducible rfl
                         rotate_left
                         ·
                          simp only [Act.put, List.setIfInBounds_toArray, List.set_cons_zero, List.set_cons_succ, i64_w, i32_w]
                          rfl
                         refine pure_ (i := 6) (N := some 117) (v := ?_) (a' := ?_) #[true, true, true, true, true, true, true, false, false, false, false, false, false] rfl rfl (any_of HT_.out (by kernel_rfl)) (fun _ _ _ h => h) (Or.inl ⟨by rfl, ?_⟩) ?_ ?_
                         rotate_left
                         ·
                          intro w'
                          go_simp
                          with_reducible rfl
                         rotate_left
                         ·
                          simp only [Act.put, List.setIfInBounds_toArray, List.set_cons_zero, List.set_cons_succ, i64_w, i32_w]
                          rfl
                         refine pure_ (i := 7) (N := some 118) (v := ?_) (a' := ?_) #[true, true, true, true, true, true, true, true, false, false, false, false, false] rfl rfl (any_of HT_.out (by kernel_rfl)) (fun _ _ _ h => h) (Or.inl ⟨by rfl, ?_⟩) ?_ ?_
                         rotate_left
                         ·
                          intro w'
                          go_simp
                          with_reducible rfl
                         rotate_left
                         ·
                          simp only [Act.put, List.setIfInBounds_toArray, List.set_cons_zero, List.set_cons_succ, i64_w, i32_w]
                          rfl
                         refine pure_ (i := 8) (N := some 119) (v := ?_) (a' := ?_) #[true, true, true, true, true, true, true, true, true, false, false, false, false] rfl rfl (any_of HT_.out (by kernel_rfl)) (fun _ _ _ h => h) (Or.inl ⟨by rfl, ?_⟩) ?_ ?_
                         rotate_left
                         ·
                          intro w'
                          go_simp
                          with_reducible rfl
                         rotate_left
                         ·
                          simp only [Act.put, List.setIfInBounds_toArray, List.set_cons_zero, List.set_cons_succ, i64_w, i32_w]
                          rfl
                         refine pure_ (i := 9) (N := some 120) (v := ?_) (a' := ?_) #[true, true, true, true, true, true, true, true, true, true, false, false, false] rfl rfl (any_of HT_.out (by kernel_rfl)) (fun _ _ _ h => h) (Or.inl ⟨by rfl, ?_⟩) ?_ ?_
                         rotate_left
                         ·
                          intro w'
                          go_simp
                          with_reducible rfl
                         rotate_left
                         ·
                          simp only [Act.put, List.setIfInBounds_toArray, List.set_cons_zero, List.set_cons_succ, i64_w, i32_w]
                          rfl
                         refine pure_ (i := 10) (N := some 121) (v := ?_) (a' := ?_) #[true, true, true, true, true, true, true, true, true, true, true, false, false] rfl rfl (any_of HT_.out (by kernel_rfl)) (fun _ _ _ h => h) (Or.inl ⟨by rfl, ?_⟩) ?_ ?_
                         rotate_left
                         ·
                          intro w'
                          go_simp
                          with_reducible rfl
                         rotate_left
                         ·
                          simp only [Act.put, List.setIfInBounds_toArray, List.set_cons_zero, List.set_cons_succ, i64_w, i32_w]
                          rfl
                         refine one_ (i := 11) (N := some 122) #[true, true, true, true, true, true, true, true, true, true, true, true, false] rfl rfl (one_of HT_.out (by kernel_rfl)) (by decide) (fun K hK => ?_)
                         refine goes_ Try.func54 (by kernel_rfl) rfl #[.slice Ao64 t401.length co64, .string (a0.extract 1 (x7_22 : Int).toNat), .string (a0.extract ((ji50) : Int).toNat ((ji45) : Int).toNat)] (by rfl) rfl rfl (by (try simp only [List.map_toArray, List.map_cons, List.map_nil]); first | done | (simp only [hji45, hji50]; rfl) | rfl | (simp only [List.length_drop, List.length_take]; rfl)) ?_
                         with_reducible refine (diacriticref22_Write.calls (fun k_ => some k_ = (.slice Ao64 t401.length co64 : Value).ownBlock) (.slice Ao64 t401.length co64) t401 (a0.extract 1 (x7_22 : Int).toNat) (a0.extract ((ji50) : Int).toNat ((ji45) : Int).toNat) t404 w _ ?side1 ?side2 A59.out).mono ?_
                         (case side1 => repeat (first | (with_reducible first | exact HB.out | apply below_alloc | apply pw_below_drewN | apply below_drew1) | exact HB.out))
                         (case side2 => exact Kd.R_tight rfl HO403.out)
                         rintro e w65 ⟨v405, rfl, ho0, hb, hkp⟩; refine ⟨_, rfl, ?_⟩; have n0_ := Aside0.mk (Kd.R_mono (ok' := fun k_ => True) ho0 (fun k_ hk_ => trivial)); have n1_ := Aside0.mk (hb); clear HB; clear HO403; have HO406 := n0_; have HB := n1_; clear n0_ n1_; (try clear hb); (try clear hkp); (try clear ho0)
                         refine hK.out _ _ trivial (fun hHeld => ?_)
                         clear hK K
                         refine norm_ (a' := ?_) ?_ ?_
                         rotate_left
                         ·
                          show Act.put _ (some 122) _ = _
                          simp only [Act.put, List.setIfInBounds_toArray, List.set_cons_zero, List.set_cons_succ, i64_w, i32_w]
                          rfl
                         refine pure_ (i := 12) (N := some 4) (v := ?_) (a' := ?_) #[true, true, true, true, true, true, true, true, true, true, true, true, true] rfl rfl (any_of HT_.out (by kernel_rfl)) (fun _ _ _ h => h) (Or.inl ⟨by rfl, ?_⟩) ?_ ?_
                         rotate_left
                         ·
                          intro w'
                          go_simp
                          with_reducible rfl
                         rotate_left
                         ·
                          simp only [Act.put, List.setIfInBounds_toArray, List.set_cons_zero, List.set_cons_succ, i64_w, i32_w]
                          rfl
                         refine done_ (done_of HT_.out (by kernel_rfl)) ?_
                         obtain ⟨Ao66, co66, eo66⟩ := Kd.R_slice HO406.out
                         subst eo66
                         try go_wp2_with (first | ((with_reducible refine gate_callee (f := 53) rfl ?_); refine goesL_ (some 124) rfl rfl Try.func53 (by kernel_rfl) rfl #[.slice Ao66 t404.length co66, .string (⟨#[93]⟩ : ByteArray)] rfl (by (try simp only [List.map_toArray, List.map_cons, List.map_nil]); first | done | rfl | (simp only [List.length_drop, List.length_take]; rfl)) ?_; (with_reducible refine (diacriticref22_Put.calls (fun k_ => some k_ = (.slice Ao66 t404.length co66 : Value).ownBlock) (.slice Ao66 t404.length co66) t404 (⟨#[93]⟩ : ByteArray) t407 w _ ?side1 ?side2 A60.out).mono ?_); (case side1 => repeat (first | (with_reducible first | exact HB.out | apply below_alloc | apply pw_below_drewN | apply below_drew1) | exact HB.out)); (case side2 => exact Kd.R_tight rfl HO406.out); rintro e w67 ⟨v408, rfl, ho0, hb, hkp⟩; refine ⟨_, rfl, ?_⟩; have n0_ := Aside0.mk (Kd.R_mono (ok' := fun k_ => True) ho0 (fun k_ hk_ => trivial)); have n1_ := Aside0.mk (hb); clear HB; clear HO406; have HO409 := n0_; have HB := n1_; clear n0_ n1_; (try clear hb); (try clear hkp); (try clear ho0)))
                         go_ret2
                         exact ⟨_, by first | rfl | (simp [errW_none, errW_some] <;> rfl) | (simp only [← hji45, ← hji50]; first | rfl | (simp [errW_none, errW_some] <;> rfl)) | (simp [*, errW_none, errW_some] <;> rfl), by (with_reducible repeat (first | apply Kd.R_alloc | apply Kd.R_drewN | apply Kd.R_drew)); exact HO409.out, by repeat (first | (with_reducible first | exact HB.out | apply below_alloc | apply pw_below_drewN | apply below_drew1) | exact HB.out)⟩
                        ·
                         rw [if_neg c58] at H
                         exact absurd H (by simp)
                       ·
                        rw [if_neg c57] at H
                        exact absurd H (by simp)
                      ·
                       rw [if_neg c55] at H
                       exact absurd H (by simp)
                     ·
                      rw [if_neg c54] at H
                      exact absurd H (by simp)
                    ·
                     rw [if_neg c52] at H
                     exact absurd H (by simp)
                   ·
                    rw [if_neg c51] at H
                    exact absurd H (by simp)
                  ·
                   rw [if_neg c49] at H
                   have c49b0 : ((bt a0 (ji45)) == 93) = false := beq_eq_false_iff_ne.mpr c49
                   have c49b1 : ((bt a0 (ji45)) != 93) = true := bne_iff_ne.mpr c49
                   simp only [Option.some.injEq, Prod.mk.injEq] at H
                   obtain ⟨rfl, rfl⟩ := H
                   have p48 : 0 ≤ ((ji45) : Int) := of_decide_eq_true (by first | (with_reducible assumption) | assumption)
                   have q48 : (ji45) < (a0.size : Int) := of_decide_eq_true (by first | (with_reducible assumption) | assumption)
                   have hx48 := bt_at a0 (ji45)
                   replace p48 := eq_true p48
                   replace q48 := eq_true q48
                   go_wp2
                   go_ret2
                   exact ⟨_, by first | rfl | (simp [errW_none, errW_some] <;> rfl) | (simp only [← hji45]; first | rfl | (simp [errW_none, errW_some] <;> rfl)) | (simp [*, errW_none, errW_some] <;> rfl), by first | exact Kd.R_nil _ _ _ _ _ | exact Kd.N_nil _ _ _ _ _ | exact Kd.V_nil _ _ _ _ _ | exact Kd.Q_nil _ _ _ _ _ | exact Kd.S_nil _ _ _ _ _, by repeat (first | (with_reducible first | exact HB.out | apply below_alloc | apply pw_below_drewN | apply below_drew1) | exact HB.out)⟩
                 ·
                  rw [if_neg c47] at H
                  exact absurd H (by simp)
                ·
                 rw [if_neg c46] at H
                 exact absurd H (by simp)
     ·
      rw [if_neg c4] at H
      exact absurd H (by simp)
    ·
     rw [if_neg c3] at H
     exact absurd H (by simp)

end Go.Proofs.Ytbndilnbfclmbaa.PAll
