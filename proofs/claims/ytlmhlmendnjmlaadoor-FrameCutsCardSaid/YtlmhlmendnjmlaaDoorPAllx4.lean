/- Written by a program of this session: functions of the Go program as Lean functions, and the walks that tie them to it. -/
import Derived.Test.YtlmhlmendnjmlaaDoorPAllx0
import Derived.Test.YtlmhlmendnjmlaaDoorPAllx3
namespace Go.Proofs.YtlmhlmendnjmlaaDoor.PAll
open Go.RowKit Go.Proofs.YtlmhlmendnjmlaaDoorW.PrintWords Go.Proofs.YtlmhlmendnjmlaaDoorW.PrintLast Go.Proofs.YtlmhlmendnjmlaaDoorW.PrintMore
attribute [local go_sem] max2_int min2_int max_two min_two max_three min_three max_four min_four   -- for this text's walks alone
set_option linter.unusedVariables false
set_option linter.unusedSimpArgs false

/-! ### diacriticlaw11_Awake: function 42 -/
def diacriticlaw11_Awake.f (k : Nat)  : Option (Bool) := (unsync_Put.f k (⟨#[255, 224]⟩ : ByteArray)).bind fun t113 => (if t113.toList = ([255, 0, 224] : List UInt8) then ((unsync_Drop.f (⟨#[255, 0, 0]⟩ : ByteArray)).bind fun t114 => (if t114.toList = ([255, 0] : List UInt8) then ((unsync_Clean.f k (⟨#[255]⟩ : ByteArray)).bind fun t115 => (some (!t115))) else (some false))) else (some false))
theorem diacriticlaw11_Awake.mono : ∀ k, LeO (diacriticlaw11_Awake.f k ) (diacriticlaw11_Awake.f (k + 1) ) := by
  intro  k
  unfold diacriticlaw11_Awake.f
  repeat' first
      | (with_reducible exact unsync_Clean.mono _ _)
      | (with_reducible exact unsync_Put.mono _ _)
      | (with_reducible exact LeO.refl _)
      | (with_reducible exact LeO.none _)
      | (with_reducible refine LeO.ite ?_ ?_)
      | (with_reducible refine LeO.bind ?_ (fun _ => ?_))
      | exact unsync_Clean.mono _ _
      | exact unsync_Put.mono _ _
      | exact LeO.none _
      | refine LeO.ite ?_ ?_
      | refine LeO.bind ?_ (fun _ => ?_)
set_option maxHeartbeats 8000000 in
set_option maxRecDepth 100000 in
theorem diacriticlaw11_Awake.calls (k : Nat)  (r : Bool) (w : World) (hG : GM w) (h : diacriticlaw11_Awake.f k  = some r) :
    Calls Tryd.prog 42 #[] w fun e w' => e = .returned (.bool r) ∧ Below w.heap.size w w' := by
  have HB := Aside0.mk (Below.refl w.heap.size w)
  have HG := Aside0.mk hG
  clear hG
  have H : ((unsync_Put.f k (⟨#[255, 224]⟩ : ByteArray)).bind fun t113 => (if t113.toList = ([255, 0, 224] : List UInt8) then ((unsync_Drop.f (⟨#[255, 0, 0]⟩ : ByteArray)).bind fun t114 => (if t114.toList = ([255, 0] : List UInt8) then ((unsync_Clean.f k (⟨#[255]⟩ : ByteArray)).bind fun t115 => (some (!t115))) else (some false))) else (some false))) = some r := h
  clear h
  replace H := Option.bind_eq_some_iff.mp H
  obtain ⟨t113, A10, H⟩ := H
  replace H : (if t113.toList = ([255, 0, 224] : List UInt8) then ((unsync_Drop.f (⟨#[255, 0, 0]⟩ : ByteArray)).bind fun t114 => (if t114.toList = ([255, 0] : List UInt8) then ((unsync_Clean.f k (⟨#[255]⟩ : ByteArray)).bind fun t115 => (some (!t115))) else (some false))) else (some false)) = some r := H
  have A1 := Aside0.mk A10
  clear A10
  by_cases c2 : t113.toList = ([255, 0, 224] : List UInt8)
  · rw [if_pos c2] at H
    have c2b0 : (t113.toList == ([255, 0, 224] : List UInt8)) = true := beq_iff_eq.mpr c2
    have c2b1 : (t113.toList != ([255, 0, 224] : List UInt8)) = false := bne_eq_false_iff_eq.mpr c2
    clear c2
    replace H := Option.bind_eq_some_iff.mp H
    obtain ⟨t114, A30, H⟩ := H
    replace H : (if t114.toList = ([255, 0] : List UInt8) then ((unsync_Clean.f k (⟨#[255]⟩ : ByteArray)).bind fun t115 => (some (!t115))) else (some false)) = some r := H
    have A3 := Aside0.mk A30
    clear A30
    by_cases c4 : t114.toList = ([255, 0] : List UInt8)
    · rw [if_pos c4] at H
      have c4b0 : (t114.toList == ([255, 0] : List UInt8)) = true := beq_iff_eq.mpr c4
      have c4b1 : (t114.toList != ([255, 0] : List UInt8)) = false := bne_eq_false_iff_eq.mpr c4
      clear c4
      replace H := Option.bind_eq_some_iff.mp H
      obtain ⟨t115, A50, H⟩ := H
      replace H : (some (!t115)) = some r := H
      have A5 := Aside0.mk A50
      clear A50
      obtain rfl := Option.some.inj H
      go_enter Tryd.func42, Tryd.ntmps42
      go_wp2_with (first | ((with_reducible refine gate_callee (f := 11) rfl ?_); refine goesL_ (some 1) rfl rfl Tryd.func11 (by kernel_rfl) rfl #[.string (⟨#[255, 224]⟩ : ByteArray)] rfl q_7 ?_; (with_reducible refine (unsync_Put.calls k (⟨#[255, 224]⟩ : ByteArray) t113 _ A1.out).mono ?_); rintro e w6 ⟨rfl, hb⟩; refine ⟨_, rfl, ?_⟩; have n0_ := Aside0.mk (below_step q_3 hb); clear HB; have HB := n0_; clear n0_; (try clear hb); (try clear hb2); (try clear hk); (try clear hi)) | (go_at_call 12; (with_reducible refine (unsync_Drop.calls (⟨#[255, 0, 0]⟩ : ByteArray) t114 _ (GM.below HG.out q_3) A3.out).mono ?_); rintro e w7 ⟨rfl, hb⟩; have n0_ := Aside0.mk (below_step q_3 hb); clear HB; have HB := n0_; clear n0_; (try clear hb); (try clear hb2); (try clear hk); (try clear hi)) | (go_at_call 13; (with_reducible refine (unsync_Clean.calls k (⟨#[255]⟩ : ByteArray) t115 _ A5.out).mono ?_); rintro e w' ⟨rfl, ⟨nd, rfl⟩⟩))
      go_ret
      exact ⟨q_11, q_3⟩
    · rw [if_neg c4] at H
      have c4b0 : (t114.toList == ([255, 0] : List UInt8)) = false := beq_eq_false_iff_ne.mpr c4
      have c4b1 : (t114.toList != ([255, 0] : List UInt8)) = true := bne_iff_ne.mpr c4
      obtain rfl := Option.some.inj H
      go_enter Tryd.func42, Tryd.ntmps42
      go_wp2_with (first | ((with_reducible refine gate_callee (f := 11) rfl ?_); refine goesL_ (some 1) rfl rfl Tryd.func11 (by kernel_rfl) rfl #[.string (⟨#[255, 224]⟩ : ByteArray)] rfl q_7 ?_; (with_reducible refine (unsync_Put.calls k (⟨#[255, 224]⟩ : ByteArray) t113 _ A1.out).mono ?_); rintro e w8 ⟨rfl, hb⟩; refine ⟨_, rfl, ?_⟩; have n0_ := Aside0.mk (below_step q_3 hb); clear HB; have HB := n0_; clear n0_; (try clear hb); (try clear hb2); (try clear hk); (try clear hi)) | (go_at_call 12; (with_reducible refine (unsync_Drop.calls (⟨#[255, 0, 0]⟩ : ByteArray) t114 _ (GM.below HG.out q_3) A3.out).mono ?_); rintro e w9 ⟨rfl, hb⟩; have n0_ := Aside0.mk (below_step q_3 hb); clear HB; have HB := n0_; clear n0_; (try clear hb); (try clear hb2); (try clear hk); (try clear hi)))
      go_ret
      exact ⟨q_11, q_3⟩
  · rw [if_neg c2] at H
    have c2b0 : (t113.toList == ([255, 0, 224] : List UInt8)) = false := beq_eq_false_iff_ne.mpr c2
    have c2b1 : (t113.toList != ([255, 0, 224] : List UInt8)) = true := bne_iff_ne.mpr c2
    obtain rfl := Option.some.inj H
    go_enter Tryd.func42, Tryd.ntmps42
    go_wp2_with (first | ((with_reducible refine gate_callee (f := 11) rfl ?_); refine goesL_ (some 1) rfl rfl Tryd.func11 (by kernel_rfl) rfl #[.string (⟨#[255, 224]⟩ : ByteArray)] rfl q_7 ?_; (with_reducible refine (unsync_Put.calls k (⟨#[255, 224]⟩ : ByteArray) t113 _ A1.out).mono ?_); rintro e w10 ⟨rfl, hb⟩; refine ⟨_, rfl, ?_⟩; have n0_ := Aside0.mk (below_step q_3 hb); clear HB; have HB := n0_; clear n0_; (try clear hb); (try clear hb2); (try clear hk); (try clear hi)))
    go_ret
    exact ⟨q_11, q_3⟩

/-! ### diacriticlaw11_awake: function 10 -/
def diacriticlaw11_awake.f (k : Nat)  : Option (Bool) := (diacriticlaw11_Awake.f k).bind fun t116 => (some t116)
theorem diacriticlaw11_awake.mono : ∀ k, LeO (diacriticlaw11_awake.f k ) (diacriticlaw11_awake.f (k + 1) ) := by
  intro  k
  unfold diacriticlaw11_awake.f
  repeat' first
      | (with_reducible exact diacriticlaw11_Awake.mono _)
      | (with_reducible exact LeO.refl _)
      | (with_reducible exact LeO.none _)
      | (with_reducible refine LeO.ite ?_ ?_)
      | (with_reducible refine LeO.bind ?_ (fun _ => ?_))
      | exact diacriticlaw11_Awake.mono _
      | exact LeO.none _
      | refine LeO.ite ?_ ?_
      | refine LeO.bind ?_ (fun _ => ?_)
set_option maxHeartbeats 8000000 in
set_option maxRecDepth 100000 in
theorem diacriticlaw11_awake.calls (k : Nat)  (r : Bool) (w : World) (hG : GM w) (h : diacriticlaw11_awake.f k  = some r) :
    Calls Tryd.prog 10 #[] w fun e w' => e = .returned (.bool r) ∧ Below w.heap.size w w' := by
  have HB := Aside0.mk (Below.refl w.heap.size w)
  have HG := Aside0.mk hG
  clear hG
  have H : ((diacriticlaw11_Awake.f k).bind fun t116 => (some t116)) = some r := h
  clear h
  replace H := Option.bind_eq_some_iff.mp H
  obtain ⟨t116, A10, H⟩ := H
  replace H : (some t116) = some r := H
  have A1 := Aside0.mk A10
  clear A10
  obtain rfl := Option.some.inj H
  go_enter Tryd.func10, Tryd.ntmps10
  go_wp2_with (first | ((with_reducible refine gate_callee (f := 42) rfl ?_); refine goesL_ (some 1) rfl rfl Tryd.func42 (by kernel_rfl) rfl #[] rfl q_7 ?_; (with_reducible refine (diacriticlaw11_Awake.calls k  t116 _ (GM.below HG.out q_3) A1.out).mono ?_); rintro e w2 ⟨rfl, hb⟩; refine ⟨_, rfl, ?_⟩; have n0_ := Aside0.mk (below_step q_3 hb); clear HB; have HB := n0_; clear n0_; (try clear hb); (try clear hb2); (try clear hk); (try clear hi)))
  go_ret
  exact ⟨q_11, q_3⟩

/-! ### diacriticlaw11_SyncBack: function 3 -/
def diacriticlaw11_SyncBack.l0 : Nat → ByteArray → ByteArray → Int → Int → Option (Bool)
  | 0, _, _, _, _ => none
  | k + 1, x0, x3, x12, x13 => if x13 < x12 then (if 0 ≤ x13 then (if x13 < (x3.size : Int) then (if (bt x3 x13) = 255 then (if x13 = (wrap64 ((x3.size : Int) - 1)) then (some false) else (if 0 ≤ (wrap64 (x13 + 1)) then (if (wrap64 (x13 + 1)) < (x3.size : Int) then (if (bt x3 (wrap64 (x13 + 1))) ≥ 224 then (some false) else (diacriticlaw11_SyncBack.l0 k x0 x3 x12 (wrap64 (x13 + 1)))) else (none)) else (none))) else (diacriticlaw11_SyncBack.l0 k x0 x3 x12 (wrap64 (x13 + 1)))) else (none)) else (none)) else ((diacriticlaw11_awake.f k).bind fun t119 => (if t119 = true then ((unsync_Drop.f x3).bind fun t120 => (if t120.toList = x0.toList then ((unsync_Clean.f k x0).bind fun t121 => (if t121 = true then (some (x3.toList == x0.toList)) else (some true))) else (some false))) else (some false)))
def diacriticlaw11_SyncBack.f (k : Nat) (a0 : ByteArray) : Option (Bool) := if (a0.size : Int) > 1000 then ((diacriticlaw11_awake.f k).bind fun t117 => (some t117)) else ((unsync_Put.f k a0).bind fun t118 => (diacriticlaw11_SyncBack.l0 k a0 t118 (t118.size : Int) 0))
theorem diacriticlaw11_SyncBack.mono_l : ∀ k, (∀ y0 y1 y2 y3, LeO (diacriticlaw11_SyncBack.l0 k y0 y1 y2 y3) (diacriticlaw11_SyncBack.l0 (k + 1) y0 y1 y2 y3))
  | 0 => fun _ _ _ _ r h => by simp [diacriticlaw11_SyncBack.l0] at h
  | k + 1 => by
    have ih0 := diacriticlaw11_SyncBack.mono_l k
    · intro y0 y1 y2 y3
      unfold diacriticlaw11_SyncBack.l0
      repeat' first
      | (with_reducible exact ih0 _ _ _ _)
      | (with_reducible exact diacriticlaw11_awake.mono _)
      | (with_reducible exact unsync_Clean.mono _ _)
      | (with_reducible exact unsync_Put.mono _ _)
      | (with_reducible exact LeO.refl _)
      | (with_reducible exact LeO.none _)
      | (with_reducible refine LeO.ite ?_ ?_)
      | (with_reducible refine LeO.bind ?_ (fun _ => ?_))
      | exact ih0 _ _ _ _
      | exact diacriticlaw11_awake.mono _
      | exact unsync_Clean.mono _ _
      | exact unsync_Put.mono _ _
      | exact LeO.none _
      | refine LeO.ite ?_ ?_
      | refine LeO.bind ?_ (fun _ => ?_)
theorem diacriticlaw11_SyncBack.mono : ∀ a0 k, LeO (diacriticlaw11_SyncBack.f k a0) (diacriticlaw11_SyncBack.f (k + 1) a0) := by
  intro a0 k
  have ih0 := diacriticlaw11_SyncBack.mono_l k
  unfold diacriticlaw11_SyncBack.f
  repeat' first
      | (with_reducible exact ih0 _ _ _ _)
      | (with_reducible exact diacriticlaw11_awake.mono _)
      | (with_reducible exact unsync_Clean.mono _ _)
      | (with_reducible exact unsync_Put.mono _ _)
      | (with_reducible exact LeO.refl _)
      | (with_reducible exact LeO.none _)
      | (with_reducible refine LeO.ite ?_ ?_)
      | (with_reducible refine LeO.bind ?_ (fun _ => ?_))
      | exact ih0 _ _ _ _
      | exact diacriticlaw11_awake.mono _
      | exact unsync_Clean.mono _ _
      | exact unsync_Put.mono _ _
      | exact LeO.none _
      | refine LeO.ite ?_ ?_
      | refine LeO.bind ?_ (fun _ => ?_)
set_option maxHeartbeats 8000000 in
set_option maxRecDepth 100000 in
theorem diacriticlaw11_SyncBack.calls (k : Nat) (a0 : ByteArray) (r : Bool) (w : World) (hG : GM w) (h : diacriticlaw11_SyncBack.f k a0 = some r) :
    Calls Tryd.prog 3 #[.string a0] w fun e w' => e = .returned (.bool r) ∧ Below w.heap.size w w' := by
  have HB := Aside0.mk (Below.refl w.heap.size w)
  have HG := Aside0.mk hG
  clear hG
  have H : (if (a0.size : Int) > 1000 then ((diacriticlaw11_awake.f k).bind fun t117 => (some t117)) else ((unsync_Put.f k a0).bind fun t118 => (diacriticlaw11_SyncBack.l0 k a0 t118 (t118.size : Int) 0))) = some r := h
  clear h
  by_cases c2 : (a0.size : Int) > 1000
  · rw [if_pos c2] at H
    have c2b0 : decide (1000 < (a0.size : Int)) = true := decide_eq_true c2
    have c2b1 : decide (1000 < a0.size) = true := decide_eq_true (by omega)
    clear c2
    replace H := Option.bind_eq_some_iff.mp H
    obtain ⟨t117, A30, H⟩ := H
    replace H : (some t117) = some r := H
    have A3 := Aside0.mk A30
    clear A30
    obtain rfl := Option.some.inj H
    go_enter Tryd.func3, Tryd.ntmps3
    go_wp2_with (first | ((with_reducible refine gate_callee (f := 10) rfl ?_); refine goesL_ (some 8) rfl rfl Tryd.func10 (by kernel_rfl) rfl #[] rfl q_7 ?_; (with_reducible refine (diacriticlaw11_awake.calls k  t117 _ (GM.below HG.out q_3) A3.out).mono ?_); rintro e w4 ⟨rfl, hb⟩; refine ⟨_, rfl, ?_⟩; have n0_ := Aside0.mk (below_step q_3 hb); clear HB; have HB := n0_; clear n0_; (try clear hb); (try clear hb2); (try clear hk); (try clear hi)))
    go_ret
    exact ⟨q_11, q_3⟩
  · rw [if_neg c2] at H
    have c2b0 : decide (1000 < (a0.size : Int)) = false := decide_eq_false c2
    have c2b1 : decide (1000 < a0.size) = false := decide_eq_false (by omega)
    clear c2
    replace H := Option.bind_eq_some_iff.mp H
    obtain ⟨t118, A50, H⟩ := H
    replace H : (diacriticlaw11_SyncBack.l0 k a0 t118 (t118.size : Int) 0) = some r := H
    have A5 := Aside0.mk A50
    clear A50
    have H' := Aside0.mk H
    clear H
    go_enter Tryd.func3, Tryd.ntmps3
    go_wp2_with (first | ((with_reducible refine gate_callee (f := 11) rfl ?_); refine goesL_ (some 10) rfl rfl Tryd.func11 (by kernel_rfl) rfl #[.string a0] rfl q_7 ?_; (with_reducible refine (unsync_Put.calls k a0 t118 _ A5.out).mono ?_); rintro e w6 ⟨rfl, hb⟩; refine ⟨_, rfl, ?_⟩; have n0_ := Aside0.mk (below_step q_3 hb); clear HB; have HB := n0_; clear n0_; (try clear hb); (try clear hb2); (try clear hk); (try clear hi)))
    go_loopg [13] k (fun kq v13 w' => ∃ (x13_1 : Int), v13 = .int .i64 x13_1 ∧ Aside0 (diacriticlaw11_SyncBack.l0 kq a0 t118 (t118.size : Int) x13_1 = some r) ∧ Aside0 (kq ≤ k) ∧ Aside0 (Below w.heap.size w w'))
    case atStart => exact ⟨(0), q_1, H', ⟨Nat.le_refl _⟩, ⟨q_3⟩⟩
    case round =>
      clear H'
      try clear c1; try clear c2; try clear c2b0; try clear c2b1; try clear p2; try clear c3
      obtain ⟨x13_1, rfl, HA, HK1, HB⟩ := hrel
      cases gk with
      | zero => exact absurd HA.out (by simp [diacriticlaw11_SyncBack.l0])
      | succ k1 =>
        have H := HA.out
        clear HA
        simp only [diacriticlaw11_SyncBack.l0] at H
        by_cases c7 : x13_1 < (t118.size : Int)
        · rw [if_pos c7] at H
          have c7b0 : decide (x13_1 < (t118.size : Int)) = true := decide_eq_true c7
          clear c7
          by_cases c8 : 0 ≤ x13_1
          · rw [if_pos c8] at H
            have c8b0 : decide (0 ≤ x13_1) = true := decide_eq_true c8
            clear c8
            by_cases c9 : x13_1 < (t118.size : Int)
            · rw [if_pos c9] at H
              have c9b0 : decide (x13_1 < (t118.size : Int)) = true := decide_eq_true c9
              clear c9
              by_cases c11 : (bt t118 x13_1) = 255
              · rw [if_pos c11] at H
                have c11b0 : ((bt t118 x13_1) == 255) = true := beq_iff_eq.mpr c11
                have c11b1 : ((bt t118 x13_1) != 255) = false := bne_eq_false_iff_eq.mpr c11
                clear c11
                by_cases c12 : x13_1 = (wrap64 ((t118.size : Int) - 1))
                · rw [if_pos c12] at H
                  have c12b0 : (x13_1 == (wrap64 ((t118.size : Int) - 1))) = true := beq_iff_eq.mpr c12
                  have c12b1 : (x13_1 != (wrap64 ((t118.size : Int) - 1))) = false := bne_eq_false_iff_eq.mpr c12
                  clear c12
                  obtain rfl := Option.some.inj H
                  have p10 : 0 ≤ (x13_1 : Int) := of_decide_eq_true q_2
                  have q10 : x13_1 < (t118.size : Int) := of_decide_eq_true q_2
                  have hx10 := bt_at t118 x13_1
                  replace p10 := eq_true p10
                  replace q10 := eq_true q10
                  go_wp2
                  go_ret
                  exact ⟨q_11, q_3⟩
                · rw [if_neg c12] at H
                  have c12b0 : (x13_1 == (wrap64 ((t118.size : Int) - 1))) = false := beq_eq_false_iff_ne.mpr c12
                  have c12b1 : (x13_1 != (wrap64 ((t118.size : Int) - 1))) = true := bne_iff_ne.mpr c12
                  obtain ⟨ji13, hji13⟩ : ∃ j_ : Int, (wrap64 (x13_1 + 1)) = j_ := ⟨_, rfl⟩
                  replace H : (if 0 ≤ (ji13) then (if (ji13) < (t118.size : Int) then (if (bt t118 (ji13)) ≥ 224 then (some false) else (diacriticlaw11_SyncBack.l0 k1 a0 t118 (t118.size : Int) ji13)) else (none)) else (none)) = some r := by first | (rw [hji13] at H; exact H) | (simp only [hji13] at H ⊢; exact H)
                  have hji13w : (IntKind.i64.wrap (x13_1 + 1)) = ji13 := (i64_w _).trans hji13
                  by_cases c14 : 0 ≤ (ji13)
                  · rw [if_pos c14] at H
                    have c14b0 : decide (0 ≤ (ji13)) = true := decide_eq_true c14
                    clear c14
                    by_cases c15 : (ji13) < (t118.size : Int)
                    · rw [if_pos c15] at H
                      have c15b0 : decide ((ji13) < (t118.size : Int)) = true := decide_eq_true c15
                      clear c15
                      by_cases c17 : (bt t118 (ji13)) ≥ 224
                      · rw [if_pos c17] at H
                        have c17b0 : decide (224 ≤ (bt t118 (ji13))) = true := decide_eq_true c17
                        clear c17
                        obtain rfl := Option.some.inj H
                        have p10 : 0 ≤ (x13_1 : Int) := of_decide_eq_true q_2
                        have q10 : x13_1 < (t118.size : Int) := of_decide_eq_true q_2
                        have hx10 := bt_at t118 x13_1
                        replace p10 := eq_true p10
                        replace q10 := eq_true q10
                        have p16 : 0 ≤ ((ji13) : Int) := of_decide_eq_true q_2
                        have q16 : (ji13) < (t118.size : Int) := of_decide_eq_true q_2
                        have hx16 := bt_at t118 (ji13)
                        replace p16 := eq_true p16
                        replace q16 := eq_true q16
                        go_wp2
                        go_ret
                        exact ⟨by first | rfl | (simp [errW_none, errW_some] <;> rfl) | (simp only [← hji13]; first | rfl | (simp [errW_none, errW_some] <;> rfl)) | (simp [*, errW_none, errW_some] <;> rfl), q_3⟩
                      · rw [if_neg c17] at H
                        have c17b0 : decide (224 ≤ (bt t118 (ji13))) = false := decide_eq_false c17
                        clear c17
                        have H' := Aside0.mk H
                        clear H
                        have p10 : 0 ≤ (x13_1 : Int) := of_decide_eq_true q_2
                        have q10 : x13_1 < (t118.size : Int) := of_decide_eq_true q_2
                        have hx10 := bt_at t118 x13_1
                        replace p10 := eq_true p10
                        replace q10 := eq_true q10
                        have p16 : 0 ≤ ((ji13) : Int) := of_decide_eq_true q_2
                        have q16 : (ji13) < (t118.size : Int) := of_decide_eq_true q_2
                        have hx16 := bt_at t118 (ji13)
                        replace p16 := eq_true p16
                        replace q16 := eq_true q16
                        go_wp2
                        go_roundg k1
                        case measure => have := HK1.out; omega
                        case rel => exact ⟨(ji13), q_6, H', ⟨by have := HK1.out; omega⟩, ⟨q_3⟩⟩
                    · rw [if_neg c15] at H
                      exact absurd H (by simp)
                  · rw [if_neg c14] at H
                    exact absurd H (by simp)
              · rw [if_neg c11] at H
                have c11b0 : ((bt t118 x13_1) == 255) = false := beq_eq_false_iff_ne.mpr c11
                have c11b1 : ((bt t118 x13_1) != 255) = true := bne_iff_ne.mpr c11
                have H' := Aside0.mk H
                clear H
                have p10 : 0 ≤ (x13_1 : Int) := of_decide_eq_true q_2
                have q10 : x13_1 < (t118.size : Int) := of_decide_eq_true q_2
                have hx10 := bt_at t118 x13_1
                replace p10 := eq_true p10
                replace q10 := eq_true q10
                go_wp2
                go_roundg k1
                case measure => have := HK1.out; omega
                case rel => exact ⟨(wrap64 (x13_1 + 1)), q_1, H', ⟨by have := HK1.out; omega⟩, ⟨q_3⟩⟩
            · rw [if_neg c9] at H
              exact absurd H (by simp)
          · rw [if_neg c8] at H
            exact absurd H (by simp)
        · rw [if_neg c7] at H
          have c7b0 : decide (x13_1 < (t118.size : Int)) = false := decide_eq_false c7
          clear c7
          replace H := Option.bind_eq_some_iff.mp H
          obtain ⟨t119, A180, H⟩ := H
          replace H : (if t119 = true then ((unsync_Drop.f t118).bind fun t120 => (if t120.toList = a0.toList then ((unsync_Clean.f k1 a0).bind fun t121 => (if t121 = true then (some (t118.toList == a0.toList)) else (some true))) else (some false))) else (some false)) = some r := H
          have A18 := Aside0.mk A180
          clear A180
          by_cases c19 : t119 = true
          · subst c19
            have H1 : ((unsync_Drop.f t118).bind fun t120 => (if t120.toList = a0.toList then ((unsync_Clean.f k1 a0).bind fun t121 => (if t121 = true then (some (t118.toList == a0.toList)) else (some true))) else (some false))) = some r := by rw [if_pos rfl] at H; exact H
            clear H
            have H := H1
            clear H1
            replace H := Option.bind_eq_some_iff.mp H
            obtain ⟨t120, A200, H⟩ := H
            replace H : (if t120.toList = a0.toList then ((unsync_Clean.f k1 a0).bind fun t121 => (if t121 = true then (some (t118.toList == a0.toList)) else (some true))) else (some false)) = some r := H
            have A20 := Aside0.mk A200
            clear A200
            by_cases c21 : t120.toList = a0.toList
            · rw [if_pos c21] at H
              have c21b0 : (t120.toList == a0.toList) = true := beq_iff_eq.mpr c21
              have c21b1 : (t120.toList != a0.toList) = false := bne_eq_false_iff_eq.mpr c21
              clear c21
              replace H := Option.bind_eq_some_iff.mp H
              obtain ⟨t121, A220, H⟩ := H
              replace H : (if t121 = true then (some (t118.toList == a0.toList)) else (some true)) = some r := H
              have A22 := Aside0.mk A220
              clear A220
              by_cases c23 : t121 = true
              · subst c23
                have H1 : (some (t118.toList == a0.toList)) = some r := by rw [if_pos rfl] at H; exact H
                clear H
                have H := H1
                clear H1
                obtain rfl := Option.some.inj H
                go_wp2_with (first | ((with_reducible refine gate_callee (f := 10) rfl ?_); refine goesL_ (some 35) rfl rfl Tryd.func10 (by kernel_rfl) rfl #[] rfl q_7 ?_; (with_reducible refine (diacriticlaw11_awake.calls k1  true _ (GM.below HG.out q_3) A18.out).mono ?_); rintro e w24 ⟨rfl, hb⟩; refine ⟨_, rfl, ?_⟩; have n0_ := Aside0.mk (below_step q_3 hb); clear HB; have HB := n0_; clear n0_; (try clear hb); (try clear hb2); (try clear hk); (try clear hi)) | (go_at_call 12; (with_reducible refine (unsync_Drop.calls t118 t120 _ (GM.below HG.out q_3) A20.out).mono ?_); rintro e w25 ⟨rfl, hb⟩; have n0_ := Aside0.mk (below_step q_3 hb); clear HB; have HB := n0_; clear n0_; (try clear hb); (try clear hb2); (try clear hk); (try clear hi)) | (go_at_call 13; (with_reducible refine (unsync_Clean.calls k1 a0 true _ A22.out).mono ?_); rintro e w' ⟨rfl, ⟨nd, rfl⟩⟩))
                go_ret
                exact ⟨q_11, q_3⟩
              · replace c23 := Bool.eq_false_iff.mpr c23
                subst c23
                have H1 : (some true) = some r := by rw [if_neg (show ¬ (false = true) by decide)] at H; exact H
                clear H
                have H := H1
                clear H1
                obtain rfl := Option.some.inj H
                go_wp2_with (first | ((with_reducible refine gate_callee (f := 10) rfl ?_); refine goesL_ (some 35) rfl rfl Tryd.func10 (by kernel_rfl) rfl #[] rfl q_7 ?_; (with_reducible refine (diacriticlaw11_awake.calls k1  true _ (GM.below HG.out q_3) A18.out).mono ?_); rintro e w26 ⟨rfl, hb⟩; refine ⟨_, rfl, ?_⟩; have n0_ := Aside0.mk (below_step q_3 hb); clear HB; have HB := n0_; clear n0_; (try clear hb); (try clear hb2); (try clear hk); (try clear hi)) | (go_at_call 12; (with_reducible refine (unsync_Drop.calls t118 t120 _ (GM.below HG.out q_3) A20.out).mono ?_); rintro e w27 ⟨rfl, hb⟩; have n0_ := Aside0.mk (below_step q_3 hb); clear HB; have HB := n0_; clear n0_; (try clear hb); (try clear hb2); (try clear hk); (try clear hi)) | (go_at_call 13; (with_reducible refine (unsync_Clean.calls k1 a0 false _ A22.out).mono ?_); rintro e w' ⟨rfl, ⟨nd, rfl⟩⟩))
                go_ret
                exact ⟨q_11, q_3⟩
            · rw [if_neg c21] at H
              have c21b0 : (t120.toList == a0.toList) = false := beq_eq_false_iff_ne.mpr c21
              have c21b1 : (t120.toList != a0.toList) = true := bne_iff_ne.mpr c21
              obtain rfl := Option.some.inj H
              go_wp2_with (first | ((with_reducible refine gate_callee (f := 10) rfl ?_); refine goesL_ (some 35) rfl rfl Tryd.func10 (by kernel_rfl) rfl #[] rfl q_7 ?_; (with_reducible refine (diacriticlaw11_awake.calls k1  true _ (GM.below HG.out q_3) A18.out).mono ?_); rintro e w28 ⟨rfl, hb⟩; refine ⟨_, rfl, ?_⟩; have n0_ := Aside0.mk (below_step q_3 hb); clear HB; have HB := n0_; clear n0_; (try clear hb); (try clear hb2); (try clear hk); (try clear hi)) | (go_at_call 12; (with_reducible refine (unsync_Drop.calls t118 t120 _ (GM.below HG.out q_3) A20.out).mono ?_); rintro e w29 ⟨rfl, hb⟩; have n0_ := Aside0.mk (below_step q_3 hb); clear HB; have HB := n0_; clear n0_; (try clear hb); (try clear hb2); (try clear hk); (try clear hi)))
              go_ret
              exact ⟨q_11, q_3⟩
          · replace c19 := Bool.eq_false_iff.mpr c19
            subst c19
            have H1 : (some false) = some r := by rw [if_neg (show ¬ (false = true) by decide)] at H; exact H
            clear H
            have H := H1
            clear H1
            obtain rfl := Option.some.inj H
            go_wp2_with (first | ((with_reducible refine gate_callee (f := 10) rfl ?_); refine goesL_ (some 35) rfl rfl Tryd.func10 (by kernel_rfl) rfl #[] rfl q_7 ?_; (with_reducible refine (diacriticlaw11_awake.calls k1  false _ (GM.below HG.out q_3) A18.out).mono ?_); rintro e w30 ⟨rfl, hb⟩; refine ⟨_, rfl, ?_⟩; have n0_ := Aside0.mk (below_step q_3 hb); clear HB; have HB := n0_; clear n0_; (try clear hb); (try clear hb2); (try clear hk); (try clear hi)))
            go_ret
            exact ⟨q_11, q_3⟩

/-- THE ONE PURE STATEMENT of diacriticlaw11_SyncBack: yours. -/
def diacriticlaw11_SyncBack.Pure : Prop := ∀ (a0 : ByteArray), a0.size ≤ 140737488351232 → ∃ k, diacriticlaw11_SyncBack.f k a0 = some true
theorem diacriticlaw11_SyncBack.walk (P : diacriticlaw11_SyncBack.Pure) (a0 : ByteArray) (w : World) (w0 : a0.size ≤ 140737488351232) (hG : GM w) :
    Calls Tryd.prog 3 #[.string a0] w fun e w' => e = .returned (.bool true) ∧ Below w.heap.size w w' := by
  obtain ⟨k, h⟩ := P a0 w0
  refine (diacriticlaw11_SyncBack.calls k a0 true w hG h).mono ?_
  rintro e w' ⟨rfl, hd⟩
  exact ⟨rfl, hd⟩

end Go.Proofs.YtlmhlmendnjmlaaDoor.PAll
