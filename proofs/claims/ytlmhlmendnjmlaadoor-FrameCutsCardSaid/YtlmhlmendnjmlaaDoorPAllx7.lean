/- Written by a program of this session: functions of the Go program as Lean functions, and the walks that tie them to it. -/
import Derived.Test.YtlmhlmendnjmlaaDoorPAllx0
import Derived.Test.YtlmhlmendnjmlaaDoorPAllx3
import Derived.Test.YtlmhlmendnjmlaaDoorPAllx4
import Derived.Test.YtlmhlmendnjmlaaDoorPAllx5
namespace Go.Proofs.YtlmhlmendnjmlaaDoor.PAll
open Go.RowKit Go.Proofs.YtlmhlmendnjmlaaDoorW.PrintWords Go.Proofs.YtlmhlmendnjmlaaDoorW.PrintLast Go.Proofs.YtlmhlmendnjmlaaDoorW.PrintMore
attribute [local go_sem] max2_int min2_int max_two min_two max_three min_three max_four min_four   -- for this text's walks alone
set_option linter.unusedVariables false
set_option linter.unusedSimpArgs false

/-! ### diacriticlaw11_SyncParts: function 5 -/
def diacriticlaw11_SyncParts.j0 : Nat → ByteArray → ByteArray → Bool → Option (Bool)
  | 0, _, _, _ => none
  | k + 1, x0, x1, x25 => if x25 = true then ((diacriticlaw11_awake.f k).bind fun t133 => (some t133)) else ((diacriticlaw11_awake.f k).bind fun t134 => (if t134 = true then (if x0.size + x1.size ≤ 9223372036854775807 then ((unsync_Put.f k (x0 ++ x1)).bind fun t135 => ((unsync_Put.f k x0).bind fun t136 => ((unsync_Put.f k x1).bind fun t137 => (if t136.size + t137.size ≤ 9223372036854775807 then (if t135.toList = (t136 ++ t137).toList then ((unsync_Drop.f (x0 ++ x1)).bind fun t138 => ((unsync_Drop.f x0).bind fun t139 => ((unsync_Drop.f x1).bind fun t140 => (if t139.size + t140.size ≤ 9223372036854775807 then (if t138.toList = (t139 ++ t140).toList then ((unsync_Extra.f k (x0 ++ x1)).bind fun t141 => ((unsync_Extra.f k x0).bind fun t142 => ((unsync_Extra.f k x1).bind fun t143 => (some (t141 == (wrap64 (t142 + t143))))))) else (some false)) else (none))))) else (some false)) else (none))))) else (none)) else (some false)))
def diacriticlaw11_SyncParts.f (k : Nat) (a0 : ByteArray) (a1 : ByteArray) : Option (Bool) := if (a0.size : Int) > 500 then (diacriticlaw11_SyncParts.j0 k a0 a1 true) else (if (a1.size : Int) > 500 then (diacriticlaw11_SyncParts.j0 k a0 a1 true) else (if (a0.size : Int) > 0 then (if 0 ≤ (wrap64 ((a0.size : Int) - 1)) then (if (wrap64 ((a0.size : Int) - 1)) < (a0.size : Int) then (diacriticlaw11_SyncParts.j0 k a0 a1 ((bt a0 (wrap64 ((a0.size : Int) - 1))) == 255)) else (none)) else (none)) else (diacriticlaw11_SyncParts.j0 k a0 a1 false)))
theorem diacriticlaw11_SyncParts.mono_l : ∀ k, (∀ y0 y1 y2, LeO (diacriticlaw11_SyncParts.j0 k y0 y1 y2) (diacriticlaw11_SyncParts.j0 (k + 1) y0 y1 y2))
  | 0 => fun _ _ _ r h => by simp [diacriticlaw11_SyncParts.j0] at h
  | k + 1 => by
    have ih0 := diacriticlaw11_SyncParts.mono_l k
    · intro y0 y1 y2
      unfold diacriticlaw11_SyncParts.j0
      repeat' first
      | (with_reducible exact ih0 _ _ _)
      | (with_reducible exact diacriticlaw11_awake.mono _)
      | (with_reducible exact unsync_Extra.mono _ _)
      | (with_reducible exact unsync_Put.mono _ _)
      | (with_reducible exact LeO.refl _)
      | (with_reducible exact LeO.none _)
      | (with_reducible refine LeO.ite ?_ ?_)
      | (with_reducible refine LeO.bind ?_ (fun _ => ?_))
      | exact ih0 _ _ _
      | exact diacriticlaw11_awake.mono _
      | exact unsync_Extra.mono _ _
      | exact unsync_Put.mono _ _
      | exact LeO.none _
      | refine LeO.ite ?_ ?_
      | refine LeO.bind ?_ (fun _ => ?_)
theorem diacriticlaw11_SyncParts.mono : ∀ a0 a1 k, LeO (diacriticlaw11_SyncParts.f k a0 a1) (diacriticlaw11_SyncParts.f (k + 1) a0 a1) := by
  intro a0 a1 k
  have ih0 := diacriticlaw11_SyncParts.mono_l k
  unfold diacriticlaw11_SyncParts.f
  repeat' first
      | (with_reducible exact ih0 _ _ _)
      | (with_reducible exact diacriticlaw11_awake.mono _)
      | (with_reducible exact unsync_Extra.mono _ _)
      | (with_reducible exact unsync_Put.mono _ _)
      | (with_reducible exact LeO.refl _)
      | (with_reducible exact LeO.none _)
      | (with_reducible refine LeO.ite ?_ ?_)
      | (with_reducible refine LeO.bind ?_ (fun _ => ?_))
      | exact ih0 _ _ _
      | exact diacriticlaw11_awake.mono _
      | exact unsync_Extra.mono _ _
      | exact unsync_Put.mono _ _
      | exact LeO.none _
      | refine LeO.ite ?_ ?_
      | refine LeO.bind ?_ (fun _ => ?_)
set_option maxHeartbeats 8000000 in
set_option maxRecDepth 100000 in
theorem diacriticlaw11_SyncParts.calls (k : Nat) (a0 : ByteArray) (a1 : ByteArray) (r : Bool) (w : World) (hG : GM w) (h : diacriticlaw11_SyncParts.f k a0 a1 = some r) :
    Calls Tryd.prog 5 #[.string a0, .string a1] w fun e w' => e = .returned (.bool r) ∧ Below w.heap.size w w' := by
  have HB := Aside0.mk (Below.refl w.heap.size w)
  have HG := Aside0.mk hG
  clear hG
  have H : (if (a0.size : Int) > 500 then (diacriticlaw11_SyncParts.j0 k a0 a1 true) else (if (a1.size : Int) > 500 then (diacriticlaw11_SyncParts.j0 k a0 a1 true) else (if (a0.size : Int) > 0 then (if 0 ≤ (wrap64 ((a0.size : Int) - 1)) then (if (wrap64 ((a0.size : Int) - 1)) < (a0.size : Int) then (diacriticlaw11_SyncParts.j0 k a0 a1 ((bt a0 (wrap64 ((a0.size : Int) - 1))) == 255)) else (none)) else (none)) else (diacriticlaw11_SyncParts.j0 k a0 a1 false)))) = some r := h
  clear h
  have HC3 := Aside0.mk H
  clear H
  go_enter Tryd.func5, Tryd.ntmps5
  go_upto_region 1 with (fail)
  go_cut [25] (fun v25 wc => ∃ (kq : Nat) (x25_2 : Bool), v25 = .bool x25_2 ∧ Aside0 (diacriticlaw11_SyncParts.j0 kq a0 a1 x25_2 = some r) ∧ Aside0 (kq ≤ k) ∧ Aside0 (Below w.heap.size w wc))
  case first =>
    have H := HC3.out
    clear HC3
    by_cases c4 : (a0.size : Int) > 500
    · rw [if_pos c4] at H
      have c4b0 : decide (500 < (a0.size : Int)) = true := decide_eq_true c4
      have c4b1 : decide (500 < a0.size) = true := decide_eq_true (by omega)
      clear c4
      (first | rw [c4b0] | (simp only [i64_w, i32_w]; rw [c4b0]) | skip)
      have H' := Aside0.mk H
      clear H
      go_wp2
      go_meet
      case rel => exact ⟨_, (true), q_1, H', ⟨by first | omega | exact Nat.le_refl _⟩, ⟨q_3⟩⟩
    · rw [if_neg c4] at H
      have c4b0 : decide (500 < (a0.size : Int)) = false := decide_eq_false c4
      have c4b1 : decide (500 < a0.size) = false := decide_eq_false (by omega)
      clear c4
      (first | rw [c4b0] | (simp only [i64_w, i32_w]; rw [c4b0]) | skip)
      by_cases c5 : (a1.size : Int) > 500
      · rw [if_pos c5] at H
        have c5b0 : decide (500 < (a1.size : Int)) = true := decide_eq_true c5
        have c5b1 : decide (500 < a1.size) = true := decide_eq_true (by omega)
        clear c5
        have H' := Aside0.mk H
        clear H
        go_wp2
        go_meet
        case rel => exact ⟨_, (true), q_1, H', ⟨by first | omega | exact Nat.le_refl _⟩, ⟨q_3⟩⟩
      · rw [if_neg c5] at H
        have c5b0 : decide (500 < (a1.size : Int)) = false := decide_eq_false c5
        have c5b1 : decide (500 < a1.size) = false := decide_eq_false (by omega)
        clear c5
        by_cases c6 : (a0.size : Int) > 0
        · rw [if_pos c6] at H
          have c6b0 : decide (0 < (a0.size : Int)) = true := decide_eq_true c6
          have c6b1 : decide (0 < a0.size) = true := decide_eq_true (by omega)
          clear c6
          obtain ⟨ji7, hji7⟩ : ∃ j_ : Int, (wrap64 ((a0.size : Int) - 1)) = j_ := ⟨_, rfl⟩
          replace H : (if 0 ≤ (ji7) then (if (ji7) < (a0.size : Int) then (diacriticlaw11_SyncParts.j0 k a0 a1 ((bt a0 (ji7)) == 255)) else (none)) else (none)) = some r := by first | (rw [hji7] at H; exact H) | (simp only [hji7] at H ⊢; exact H)
          have hji7w : (IntKind.i64.wrap ((a0.size : Int) - 1)) = ji7 := (i64_w _).trans hji7
          by_cases c8 : 0 ≤ (ji7)
          · rw [if_pos c8] at H
            have c8b0 : decide (0 ≤ (ji7)) = true := decide_eq_true c8
            clear c8
            by_cases c9 : (ji7) < (a0.size : Int)
            · rw [if_pos c9] at H
              have c9b0 : decide ((ji7) < (a0.size : Int)) = true := decide_eq_true c9
              clear c9
              have H' := Aside0.mk H
              clear H
              have p10 : 0 ≤ ((ji7) : Int) := of_decide_eq_true q_2
              have q10 : (ji7) < (a0.size : Int) := of_decide_eq_true q_2
              have hx10 := bt_at a0 (ji7)
              replace p10 := eq_true p10
              replace q10 := eq_true q10
              go_wp2
              go_meet
              case rel => exact ⟨_, (((bt a0 (ji7)) == 255)), (by first | rfl | (simp; done) | (simp only [← hji7] <;> (first | rfl | simp)) | (simp [*]; done)), H', ⟨by first | omega | exact Nat.le_refl _⟩, ⟨q_3⟩⟩
            · rw [if_neg c9] at H
              exact absurd H (by simp)
          · rw [if_neg c8] at H
            exact absurd H (by simp)
        · rw [if_neg c6] at H
          have c6b0 : decide (0 < (a0.size : Int)) = false := decide_eq_false c6
          have c6b1 : decide (0 < a0.size) = false := decide_eq_false (by omega)
          clear c6
          have H' := Aside0.mk H
          clear H
          go_wp2
          go_meet
          case rel => exact ⟨_, (false), q_1, H', ⟨by first | omega | exact Nat.le_refl _⟩, ⟨q_3⟩⟩
  case rest =>
    clear HC3
    try clear p1; try clear q1; try clear hx1; try clear p2; try clear c4; try clear c4b0; try clear c4b1; try clear c5; try clear c5b0; try clear c5b1; try clear c6; try clear c6b0; try clear c6b1; try clear p6; try clear c8; try clear c8b0; try clear c9; try clear c9b0; try clear p10; try clear q10; try clear hx10; try clear p10; try clear q10
    obtain ⟨kq, x25_2, rfl, HA, HJ2, HB⟩ := hcut
    cases kq with
    | zero => exact absurd HA.out (by simp [diacriticlaw11_SyncParts.j0])
    | succ kj2 =>
      have H := HA.out
      clear HA
      simp only [diacriticlaw11_SyncParts.j0] at H
      by_cases c11 : x25_2 = true
      · subst c11
        have H1 : ((diacriticlaw11_awake.f kj2).bind fun t133 => (some t133)) = some r := by rw [if_pos rfl] at H; exact H
        clear H
        have H := H1
        clear H1
        replace H := Option.bind_eq_some_iff.mp H
        obtain ⟨t133, A120, H⟩ := H
        replace H : (some t133) = some r := H
        have A12 := Aside0.mk A120
        clear A120
        obtain rfl := Option.some.inj H
        go_wp2_with (first | ((with_reducible refine gate_callee (f := 10) rfl ?_); refine goesL_ (some 26) rfl rfl Tryd.func10 (by kernel_rfl) rfl #[] rfl q_7 ?_; (with_reducible refine (diacriticlaw11_awake.calls kj2  t133 _ (GM.below HG.out q_3) A12.out).mono ?_); rintro e w13 ⟨rfl, hb⟩; refine ⟨_, rfl, ?_⟩; have n0_ := Aside0.mk (below_step q_3 hb); clear HB; have HB := n0_; clear n0_; (try clear hb); (try clear hb2); (try clear hk); (try clear hi)))
        go_ret
        exact ⟨q_11, q_3⟩
      · replace c11 := Bool.eq_false_iff.mpr c11
        subst c11
        have H1 : ((diacriticlaw11_awake.f kj2).bind fun t134 => (if t134 = true then (if a0.size + a1.size ≤ 9223372036854775807 then ((unsync_Put.f kj2 (a0 ++ a1)).bind fun t135 => ((unsync_Put.f kj2 a0).bind fun t136 => ((unsync_Put.f kj2 a1).bind fun t137 => (if t136.size + t137.size ≤ 9223372036854775807 then (if t135.toList = (t136 ++ t137).toList then ((unsync_Drop.f (a0 ++ a1)).bind fun t138 => ((unsync_Drop.f a0).bind fun t139 => ((unsync_Drop.f a1).bind fun t140 => (if t139.size + t140.size ≤ 9223372036854775807 then (if t138.toList = (t139 ++ t140).toList then ((unsync_Extra.f kj2 (a0 ++ a1)).bind fun t141 => ((unsync_Extra.f kj2 a0).bind fun t142 => ((unsync_Extra.f kj2 a1).bind fun t143 => (some (t141 == (wrap64 (t142 + t143))))))) else (some false)) else (none))))) else (some false)) else (none))))) else (none)) else (some false))) = some r := by rw [if_neg (show ¬ (false = true) by decide)] at H; exact H
        clear H
        have H := H1
        clear H1
        replace H := Option.bind_eq_some_iff.mp H
        obtain ⟨t134, A140, H⟩ := H
        replace H : (if t134 = true then (if a0.size + a1.size ≤ 9223372036854775807 then ((unsync_Put.f kj2 (a0 ++ a1)).bind fun t135 => ((unsync_Put.f kj2 a0).bind fun t136 => ((unsync_Put.f kj2 a1).bind fun t137 => (if t136.size + t137.size ≤ 9223372036854775807 then (if t135.toList = (t136 ++ t137).toList then ((unsync_Drop.f (a0 ++ a1)).bind fun t138 => ((unsync_Drop.f a0).bind fun t139 => ((unsync_Drop.f a1).bind fun t140 => (if t139.size + t140.size ≤ 9223372036854775807 then (if t138.toList = (t139 ++ t140).toList then ((unsync_Extra.f kj2 (a0 ++ a1)).bind fun t141 => ((unsync_Extra.f kj2 a0).bind fun t142 => ((unsync_Extra.f kj2 a1).bind fun t143 => (some (t141 == (wrap64 (t142 + t143))))))) else (some false)) else (none))))) else (some false)) else (none))))) else (none)) else (some false)) = some r := H
        have A14 := Aside0.mk A140
        clear A140
        by_cases c15 : t134 = true
        · subst c15
          have H1 : (if a0.size + a1.size ≤ 9223372036854775807 then ((unsync_Put.f kj2 (a0 ++ a1)).bind fun t135 => ((unsync_Put.f kj2 a0).bind fun t136 => ((unsync_Put.f kj2 a1).bind fun t137 => (if t136.size + t137.size ≤ 9223372036854775807 then (if t135.toList = (t136 ++ t137).toList then ((unsync_Drop.f (a0 ++ a1)).bind fun t138 => ((unsync_Drop.f a0).bind fun t139 => ((unsync_Drop.f a1).bind fun t140 => (if t139.size + t140.size ≤ 9223372036854775807 then (if t138.toList = (t139 ++ t140).toList then ((unsync_Extra.f kj2 (a0 ++ a1)).bind fun t141 => ((unsync_Extra.f kj2 a0).bind fun t142 => ((unsync_Extra.f kj2 a1).bind fun t143 => (some (t141 == (wrap64 (t142 + t143))))))) else (some false)) else (none))))) else (some false)) else (none))))) else (none)) = some r := by rw [if_pos rfl] at H; exact H
          clear H
          have H := H1
          clear H1
          by_cases c16 : a0.size + a1.size ≤ 9223372036854775807
          · rw [if_pos c16] at H
            have c16b0 := eq_true c16
            have c16b1 : decide (a0.size + a1.size ≤ 9223372036854775807) = true := decide_eq_true c16
            try have c16b2 : (9223372036854775807 < a0.size + a1.size) = False := eq_false (Nat.not_lt.2 c16)
            replace H := Option.bind_eq_some_iff.mp H
            obtain ⟨t135, A170, H⟩ := H
            replace H : ((unsync_Put.f kj2 a0).bind fun t136 => ((unsync_Put.f kj2 a1).bind fun t137 => (if t136.size + t137.size ≤ 9223372036854775807 then (if t135.toList = (t136 ++ t137).toList then ((unsync_Drop.f (a0 ++ a1)).bind fun t138 => ((unsync_Drop.f a0).bind fun t139 => ((unsync_Drop.f a1).bind fun t140 => (if t139.size + t140.size ≤ 9223372036854775807 then (if t138.toList = (t139 ++ t140).toList then ((unsync_Extra.f kj2 (a0 ++ a1)).bind fun t141 => ((unsync_Extra.f kj2 a0).bind fun t142 => ((unsync_Extra.f kj2 a1).bind fun t143 => (some (t141 == (wrap64 (t142 + t143))))))) else (some false)) else (none))))) else (some false)) else (none)))) = some r := H
            have A17 := Aside0.mk A170
            clear A170
            replace H := Option.bind_eq_some_iff.mp H
            obtain ⟨t136, A180, H⟩ := H
            replace H : ((unsync_Put.f kj2 a1).bind fun t137 => (if t136.size + t137.size ≤ 9223372036854775807 then (if t135.toList = (t136 ++ t137).toList then ((unsync_Drop.f (a0 ++ a1)).bind fun t138 => ((unsync_Drop.f a0).bind fun t139 => ((unsync_Drop.f a1).bind fun t140 => (if t139.size + t140.size ≤ 9223372036854775807 then (if t138.toList = (t139 ++ t140).toList then ((unsync_Extra.f kj2 (a0 ++ a1)).bind fun t141 => ((unsync_Extra.f kj2 a0).bind fun t142 => ((unsync_Extra.f kj2 a1).bind fun t143 => (some (t141 == (wrap64 (t142 + t143))))))) else (some false)) else (none))))) else (some false)) else (none))) = some r := H
            have A18 := Aside0.mk A180
            clear A180
            replace H := Option.bind_eq_some_iff.mp H
            obtain ⟨t137, A190, H⟩ := H
            replace H : (if t136.size + t137.size ≤ 9223372036854775807 then (if t135.toList = (t136 ++ t137).toList then ((unsync_Drop.f (a0 ++ a1)).bind fun t138 => ((unsync_Drop.f a0).bind fun t139 => ((unsync_Drop.f a1).bind fun t140 => (if t139.size + t140.size ≤ 9223372036854775807 then (if t138.toList = (t139 ++ t140).toList then ((unsync_Extra.f kj2 (a0 ++ a1)).bind fun t141 => ((unsync_Extra.f kj2 a0).bind fun t142 => ((unsync_Extra.f kj2 a1).bind fun t143 => (some (t141 == (wrap64 (t142 + t143))))))) else (some false)) else (none))))) else (some false)) else (none)) = some r := H
            have A19 := Aside0.mk A190
            clear A190
            by_cases c20 : t136.size + t137.size ≤ 9223372036854775807
            · rw [if_pos c20] at H
              have c20b0 := eq_true c20
              have c20b1 : decide (t136.size + t137.size ≤ 9223372036854775807) = true := decide_eq_true c20
              try have c20b2 : (9223372036854775807 < t136.size + t137.size) = False := eq_false (Nat.not_lt.2 c20)
              by_cases c21 : t135.toList = (t136 ++ t137).toList
              · rw [if_pos c21] at H
                have c21b0 : (t135.toList == (t136 ++ t137).toList) = true := beq_iff_eq.mpr c21
                have c21b1 : (t135.toList != (t136 ++ t137).toList) = false := bne_eq_false_iff_eq.mpr c21
                clear c21
                replace H := Option.bind_eq_some_iff.mp H
                obtain ⟨t138, A220, H⟩ := H
                replace H : ((unsync_Drop.f a0).bind fun t139 => ((unsync_Drop.f a1).bind fun t140 => (if t139.size + t140.size ≤ 9223372036854775807 then (if t138.toList = (t139 ++ t140).toList then ((unsync_Extra.f kj2 (a0 ++ a1)).bind fun t141 => ((unsync_Extra.f kj2 a0).bind fun t142 => ((unsync_Extra.f kj2 a1).bind fun t143 => (some (t141 == (wrap64 (t142 + t143))))))) else (some false)) else (none)))) = some r := H
                have A22 := Aside0.mk A220
                clear A220
                replace H := Option.bind_eq_some_iff.mp H
                obtain ⟨t139, A230, H⟩ := H
                replace H : ((unsync_Drop.f a1).bind fun t140 => (if t139.size + t140.size ≤ 9223372036854775807 then (if t138.toList = (t139 ++ t140).toList then ((unsync_Extra.f kj2 (a0 ++ a1)).bind fun t141 => ((unsync_Extra.f kj2 a0).bind fun t142 => ((unsync_Extra.f kj2 a1).bind fun t143 => (some (t141 == (wrap64 (t142 + t143))))))) else (some false)) else (none))) = some r := H
                have A23 := Aside0.mk A230
                clear A230
                replace H := Option.bind_eq_some_iff.mp H
                obtain ⟨t140, A240, H⟩ := H
                replace H : (if t139.size + t140.size ≤ 9223372036854775807 then (if t138.toList = (t139 ++ t140).toList then ((unsync_Extra.f kj2 (a0 ++ a1)).bind fun t141 => ((unsync_Extra.f kj2 a0).bind fun t142 => ((unsync_Extra.f kj2 a1).bind fun t143 => (some (t141 == (wrap64 (t142 + t143))))))) else (some false)) else (none)) = some r := H
                have A24 := Aside0.mk A240
                clear A240
                by_cases c25 : t139.size + t140.size ≤ 9223372036854775807
                · rw [if_pos c25] at H
                  have c25b0 := eq_true c25
                  have c25b1 : decide (t139.size + t140.size ≤ 9223372036854775807) = true := decide_eq_true c25
                  try have c25b2 : (9223372036854775807 < t139.size + t140.size) = False := eq_false (Nat.not_lt.2 c25)
                  by_cases c26 : t138.toList = (t139 ++ t140).toList
                  · rw [if_pos c26] at H
                    have c26b0 : (t138.toList == (t139 ++ t140).toList) = true := beq_iff_eq.mpr c26
                    have c26b1 : (t138.toList != (t139 ++ t140).toList) = false := bne_eq_false_iff_eq.mpr c26
                    clear c26
                    replace H := Option.bind_eq_some_iff.mp H
                    obtain ⟨t141, A270, H⟩ := H
                    replace H : ((unsync_Extra.f kj2 a0).bind fun t142 => ((unsync_Extra.f kj2 a1).bind fun t143 => (some (t141 == (wrap64 (t142 + t143)))))) = some r := H
                    have A27 := Aside0.mk A270
                    clear A270
                    replace H := Option.bind_eq_some_iff.mp H
                    obtain ⟨t142, A280, H⟩ := H
                    replace H : ((unsync_Extra.f kj2 a1).bind fun t143 => (some (t141 == (wrap64 (t142 + t143))))) = some r := H
                    have A28 := Aside0.mk A280
                    clear A280
                    replace H := Option.bind_eq_some_iff.mp H
                    obtain ⟨t143, A290, H⟩ := H
                    replace H : (some (t141 == (wrap64 (t142 + t143)))) = some r := H
                    have A29 := Aside0.mk A290
                    clear A290
                    obtain rfl := Option.some.inj H
                    go_wp2_with (first | ((with_reducible refine gate_callee (f := 10) rfl ?_); refine goesL_ (some 27) rfl rfl Tryd.func10 (by kernel_rfl) rfl #[] rfl q_7 ?_; (with_reducible refine (diacriticlaw11_awake.calls kj2  true _ (GM.below HG.out q_3) A14.out).mono ?_); rintro e w30 ⟨rfl, hb⟩; refine ⟨_, rfl, ?_⟩; have n0_ := Aside0.mk (below_step q_3 hb); clear HB; have HB := n0_; clear n0_; (try clear hb); (try clear hb2); (try clear hk); (try clear hi)) | (go_at_call 11; (with_reducible refine (unsync_Put.calls kj2 (a0 ++ a1) t135 _ A17.out).mono ?_); rintro e w31 ⟨rfl, hb⟩; have n0_ := Aside0.mk (below_step q_3 hb); clear HB; have HB := n0_; clear n0_; (try clear hb); (try clear hb2); (try clear hk); (try clear hi)) | (go_at_call 11; (with_reducible refine (unsync_Put.calls kj2 a0 t136 _ A18.out).mono ?_); rintro e w32 ⟨rfl, hb⟩; have n0_ := Aside0.mk (below_step q_3 hb); clear HB; have HB := n0_; clear n0_; (try clear hb); (try clear hb2); (try clear hk); (try clear hi)) | (go_at_call 11; (with_reducible refine (unsync_Put.calls kj2 a1 t137 _ A19.out).mono ?_); rintro e w33 ⟨rfl, hb⟩; have n0_ := Aside0.mk (below_step q_3 hb); clear HB; have HB := n0_; clear n0_; (try clear hb); (try clear hb2); (try clear hk); (try clear hi)) | (go_at_call 12; (with_reducible refine (unsync_Drop.calls (a0 ++ a1) t138 _ (GM.below HG.out q_3) A22.out).mono ?_); rintro e w34 ⟨rfl, hb⟩; have n0_ := Aside0.mk (below_step q_3 hb); clear HB; have HB := n0_; clear n0_; (try clear hb); (try clear hb2); (try clear hk); (try clear hi)) | (go_at_call 12; (with_reducible refine (unsync_Drop.calls a0 t139 _ (GM.below HG.out q_3) A23.out).mono ?_); rintro e w35 ⟨rfl, hb⟩; have n0_ := Aside0.mk (below_step q_3 hb); clear HB; have HB := n0_; clear n0_; (try clear hb); (try clear hb2); (try clear hk); (try clear hi)) | (go_at_call 12; (with_reducible refine (unsync_Drop.calls a1 t140 _ (GM.below HG.out q_3) A24.out).mono ?_); rintro e w36 ⟨rfl, hb⟩; have n0_ := Aside0.mk (below_step q_3 hb); clear HB; have HB := n0_; clear n0_; (try clear hb); (try clear hb2); (try clear hk); (try clear hi)) | (go_at_call 17; (with_reducible refine (unsync_Extra.calls kj2 (a0 ++ a1) t141 _ A27.out).mono ?_); rintro e w37 ⟨rfl, hb⟩; have n0_ := Aside0.mk (below_step q_3 hb); clear HB; have HB := n0_; clear n0_; (try clear hb); (try clear hb2); (try clear hk); (try clear hi)) | (go_at_call 17; (with_reducible refine (unsync_Extra.calls kj2 a0 t142 _ A28.out).mono ?_); rintro e w38 ⟨rfl, hb⟩; have n0_ := Aside0.mk (below_step q_3 hb); clear HB; have HB := n0_; clear n0_; (try clear hb); (try clear hb2); (try clear hk); (try clear hi)) | (go_at_call 17; (with_reducible refine (unsync_Extra.calls kj2 a1 t143 _ A29.out).mono ?_); rintro e w39 ⟨rfl, hb⟩; have n0_ := Aside0.mk (below_step q_3 hb); clear HB; have HB := n0_; clear n0_; (try clear hb); (try clear hb2); (try clear hk); (try clear hi)))
                    go_ret
                    exact ⟨q_11, q_3⟩
                  · rw [if_neg c26] at H
                    have c26b0 : (t138.toList == (t139 ++ t140).toList) = false := beq_eq_false_iff_ne.mpr c26
                    have c26b1 : (t138.toList != (t139 ++ t140).toList) = true := bne_iff_ne.mpr c26
                    obtain rfl := Option.some.inj H
                    go_wp2_with (first | ((with_reducible refine gate_callee (f := 10) rfl ?_); refine goesL_ (some 27) rfl rfl Tryd.func10 (by kernel_rfl) rfl #[] rfl q_7 ?_; (with_reducible refine (diacriticlaw11_awake.calls kj2  true _ (GM.below HG.out q_3) A14.out).mono ?_); rintro e w40 ⟨rfl, hb⟩; refine ⟨_, rfl, ?_⟩; have n0_ := Aside0.mk (below_step q_3 hb); clear HB; have HB := n0_; clear n0_; (try clear hb); (try clear hb2); (try clear hk); (try clear hi)) | (go_at_call 11; (with_reducible refine (unsync_Put.calls kj2 (a0 ++ a1) t135 _ A17.out).mono ?_); rintro e w41 ⟨rfl, hb⟩; have n0_ := Aside0.mk (below_step q_3 hb); clear HB; have HB := n0_; clear n0_; (try clear hb); (try clear hb2); (try clear hk); (try clear hi)) | (go_at_call 11; (with_reducible refine (unsync_Put.calls kj2 a0 t136 _ A18.out).mono ?_); rintro e w42 ⟨rfl, hb⟩; have n0_ := Aside0.mk (below_step q_3 hb); clear HB; have HB := n0_; clear n0_; (try clear hb); (try clear hb2); (try clear hk); (try clear hi)) | (go_at_call 11; (with_reducible refine (unsync_Put.calls kj2 a1 t137 _ A19.out).mono ?_); rintro e w43 ⟨rfl, hb⟩; have n0_ := Aside0.mk (below_step q_3 hb); clear HB; have HB := n0_; clear n0_; (try clear hb); (try clear hb2); (try clear hk); (try clear hi)) | (go_at_call 12; (with_reducible refine (unsync_Drop.calls (a0 ++ a1) t138 _ (GM.below HG.out q_3) A22.out).mono ?_); rintro e w44 ⟨rfl, hb⟩; have n0_ := Aside0.mk (below_step q_3 hb); clear HB; have HB := n0_; clear n0_; (try clear hb); (try clear hb2); (try clear hk); (try clear hi)) | (go_at_call 12; (with_reducible refine (unsync_Drop.calls a0 t139 _ (GM.below HG.out q_3) A23.out).mono ?_); rintro e w45 ⟨rfl, hb⟩; have n0_ := Aside0.mk (below_step q_3 hb); clear HB; have HB := n0_; clear n0_; (try clear hb); (try clear hb2); (try clear hk); (try clear hi)) | (go_at_call 12; (with_reducible refine (unsync_Drop.calls a1 t140 _ (GM.below HG.out q_3) A24.out).mono ?_); rintro e w46 ⟨rfl, hb⟩; have n0_ := Aside0.mk (below_step q_3 hb); clear HB; have HB := n0_; clear n0_; (try clear hb); (try clear hb2); (try clear hk); (try clear hi)))
                    go_ret
                    exact ⟨q_11, q_3⟩
                · rw [if_neg c25] at H
                  exact absurd H (by simp)
              · rw [if_neg c21] at H
                have c21b0 : (t135.toList == (t136 ++ t137).toList) = false := beq_eq_false_iff_ne.mpr c21
                have c21b1 : (t135.toList != (t136 ++ t137).toList) = true := bne_iff_ne.mpr c21
                obtain rfl := Option.some.inj H
                go_wp2_with (first | ((with_reducible refine gate_callee (f := 10) rfl ?_); refine goesL_ (some 27) rfl rfl Tryd.func10 (by kernel_rfl) rfl #[] rfl q_7 ?_; (with_reducible refine (diacriticlaw11_awake.calls kj2  true _ (GM.below HG.out q_3) A14.out).mono ?_); rintro e w47 ⟨rfl, hb⟩; refine ⟨_, rfl, ?_⟩; have n0_ := Aside0.mk (below_step q_3 hb); clear HB; have HB := n0_; clear n0_; (try clear hb); (try clear hb2); (try clear hk); (try clear hi)) | (go_at_call 11; (with_reducible refine (unsync_Put.calls kj2 (a0 ++ a1) t135 _ A17.out).mono ?_); rintro e w48 ⟨rfl, hb⟩; have n0_ := Aside0.mk (below_step q_3 hb); clear HB; have HB := n0_; clear n0_; (try clear hb); (try clear hb2); (try clear hk); (try clear hi)) | (go_at_call 11; (with_reducible refine (unsync_Put.calls kj2 a0 t136 _ A18.out).mono ?_); rintro e w49 ⟨rfl, hb⟩; have n0_ := Aside0.mk (below_step q_3 hb); clear HB; have HB := n0_; clear n0_; (try clear hb); (try clear hb2); (try clear hk); (try clear hi)) | (go_at_call 11; (with_reducible refine (unsync_Put.calls kj2 a1 t137 _ A19.out).mono ?_); rintro e w50 ⟨rfl, hb⟩; have n0_ := Aside0.mk (below_step q_3 hb); clear HB; have HB := n0_; clear n0_; (try clear hb); (try clear hb2); (try clear hk); (try clear hi)))
                go_ret
                exact ⟨q_11, q_3⟩
            · rw [if_neg c20] at H
              exact absurd H (by simp)
          · rw [if_neg c16] at H
            exact absurd H (by simp)
        · replace c15 := Bool.eq_false_iff.mpr c15
          subst c15
          have H1 : (some false) = some r := by rw [if_neg (show ¬ (false = true) by decide)] at H; exact H
          clear H
          have H := H1
          clear H1
          obtain rfl := Option.some.inj H
          go_wp2_with (first | ((with_reducible refine gate_callee (f := 10) rfl ?_); refine goesL_ (some 27) rfl rfl Tryd.func10 (by kernel_rfl) rfl #[] rfl q_7 ?_; (with_reducible refine (diacriticlaw11_awake.calls kj2  false _ (GM.below HG.out q_3) A14.out).mono ?_); rintro e w51 ⟨rfl, hb⟩; refine ⟨_, rfl, ?_⟩; have n0_ := Aside0.mk (below_step q_3 hb); clear HB; have HB := n0_; clear n0_; (try clear hb); (try clear hb2); (try clear hk); (try clear hi)))
          go_ret
          exact ⟨q_11, q_3⟩

/-- THE ONE PURE STATEMENT of diacriticlaw11_SyncParts: yours. -/
def diacriticlaw11_SyncParts.Pure : Prop := ∀ (a0 : ByteArray) (a1 : ByteArray), a0.size ≤ 140737488351232 → a1.size ≤ 140737488351232 → ∃ k, diacriticlaw11_SyncParts.f k a0 a1 = some true
theorem diacriticlaw11_SyncParts.walk (P : diacriticlaw11_SyncParts.Pure) (a0 : ByteArray) (a1 : ByteArray) (w : World) (w0 : a0.size ≤ 140737488351232) (w1 : a1.size ≤ 140737488351232) (hG : GM w) :
    Calls Tryd.prog 5 #[.string a0, .string a1] w fun e w' => e = .returned (.bool true) ∧ Below w.heap.size w w' := by
  obtain ⟨k, h⟩ := P a0 a1 w0 w1
  refine (diacriticlaw11_SyncParts.calls k a0 a1 true w hG h).mono ?_
  rintro e w' ⟨rfl, hd⟩
  exact ⟨rfl, hd⟩

/-! ### frame_Head_Locked: function 19 -/
def frame_Head_Locked.f (a0_0 : ByteArray) (a0_1 : Int) (a0_2 : Int) (a1 : Int) : Option (Bool) := if a1 = 3 then (if (Go.bits .and .u8 a0_2 192) = 0 then (if a1 = 4 then (some ((Go.bits .and .u8 a0_2 12) != 0)) else (some false)) else (some true)) else (if a1 = 4 then (some ((Go.bits .and .u8 a0_2 12) != 0)) else (some false))
set_option maxHeartbeats 8000000 in
set_option maxRecDepth 100000 in
theorem frame_Head_Locked.calls (a0_0 : ByteArray) (a0_1 : Int) (a0_2 : Int) (a1 : Int) (r : Bool) (w : World) (h : frame_Head_Locked.f a0_0 a0_1 a0_2 a1 = some r) :
    Calls Tryd.prog 19 #[.agg #[.string a0_0, .int .u8 a0_1, .int .u8 a0_2], .int .i64 a1] w fun e w' => e = .returned (.bool r) ∧ Below w.heap.size w w' := by
  have hu29 := Tryd.underlying29
  have HB := Aside0.mk (Below.refl w.heap.size w)
  have H : (if a1 = 3 then (if (Go.bits .and .u8 a0_2 192) = 0 then (if a1 = 4 then (some ((Go.bits .and .u8 a0_2 12) != 0)) else (some false)) else (some true)) else (if a1 = 4 then (some ((Go.bits .and .u8 a0_2 12) != 0)) else (some false))) = some r := h
  clear h
  by_cases c3 : a1 = 3
  · rw [if_pos c3] at H
    have c3b0 : (a1 == 3) = true := beq_iff_eq.mpr c3
    have c3b1 : (a1 != 3) = false := bne_eq_false_iff_eq.mpr c3
    clear c3
    by_cases c4 : (Go.bits .and .u8 a0_2 192) = 0
    · rw [if_pos c4] at H
      have c4b0 : ((Go.bits .and .u8 a0_2 192) == 0) = true := beq_iff_eq.mpr c4
      have c4b1 : ((Go.bits .and .u8 a0_2 192) != 0) = false := bne_eq_false_iff_eq.mpr c4
      clear c4
      by_cases c5 : a1 = 4
      · rw [if_pos c5] at H
        have c5b0 : (a1 == 4) = true := beq_iff_eq.mpr c5
        have c5b1 : (a1 != 4) = false := bne_eq_false_iff_eq.mpr c5
        clear c5
        obtain rfl := Option.some.inj H
        go_enter Tryd.func19, Tryd.ntmps19
        go_wp2_with (first | ((with_reducible refine gate_dst (N := 2) rfl ?_); refine box_event ?hg (N := 2) ?hd (cs := #[.string a0_0, .int .u8 a0_1, .int .u8 a0_2]) (t := 29) ?hr ?_; (case hd => rfl); (case hg => rfl); (case hr => first | (go_simp; done) | (go_simp; rfl)); intro gb144 hg w6 hbox hb; have n0_ := Aside0.mk (below_step q_3 hb); have n1_ := Aside0.mk (hbox); have n2_ := Aside0.mk ((by rw [hg]; exact (below_size q_3) : w.heap.size ≤ gb144)); have n3_ := Aside0.mk ((by rw [hg]; exact (below_size q_3) : w.heap.size ≤ gb144)); clear HB; have HB := n0_; have BK144 := n1_; have GW144 := n2_; have GE144 := n3_; clear n0_ n1_ n2_ n3_; clear hb hbox hg; obtain ⟨hcz7_0, hcz7_1, hcz7_2, hfz7_0, hfz7_1, hfz7_2⟩ := cells3_ BK144.out))
        go_ret
        exact ⟨q_11, q_15⟩
      · rw [if_neg c5] at H
        have c5b0 : (a1 == 4) = false := beq_eq_false_iff_ne.mpr c5
        have c5b1 : (a1 != 4) = true := bne_iff_ne.mpr c5
        obtain rfl := Option.some.inj H
        go_enter Tryd.func19, Tryd.ntmps19
        go_wp2_with (first | ((with_reducible refine gate_dst (N := 2) rfl ?_); refine box_event ?hg (N := 2) ?hd (cs := #[.string a0_0, .int .u8 a0_1, .int .u8 a0_2]) (t := 29) ?hr ?_; (case hd => rfl); (case hg => rfl); (case hr => first | (go_simp; done) | (go_simp; rfl)); intro gb144 hg w8 hbox hb; have n0_ := Aside0.mk (below_step q_3 hb); have n1_ := Aside0.mk (hbox); have n2_ := Aside0.mk ((by rw [hg]; exact (below_size q_3) : w.heap.size ≤ gb144)); have n3_ := Aside0.mk ((by rw [hg]; exact (below_size q_3) : w.heap.size ≤ gb144)); clear HB; have HB := n0_; have BK144 := n1_; have GW144 := n2_; have GE144 := n3_; clear n0_ n1_ n2_ n3_; clear hb hbox hg; obtain ⟨hcz9_0, hcz9_1, hcz9_2, hfz9_0, hfz9_1, hfz9_2⟩ := cells3_ BK144.out))
        go_ret
        exact ⟨q_11, q_15⟩
    · rw [if_neg c4] at H
      have c4b0 : ((Go.bits .and .u8 a0_2 192) == 0) = false := beq_eq_false_iff_ne.mpr c4
      have c4b1 : ((Go.bits .and .u8 a0_2 192) != 0) = true := bne_iff_ne.mpr c4
      obtain rfl := Option.some.inj H
      go_enter Tryd.func19, Tryd.ntmps19
      go_wp2_with (first | ((with_reducible refine gate_dst (N := 2) rfl ?_); refine box_event ?hg (N := 2) ?hd (cs := #[.string a0_0, .int .u8 a0_1, .int .u8 a0_2]) (t := 29) ?hr ?_; (case hd => rfl); (case hg => rfl); (case hr => first | (go_simp; done) | (go_simp; rfl)); intro gb144 hg w10 hbox hb; have n0_ := Aside0.mk (below_step q_3 hb); have n1_ := Aside0.mk (hbox); have n2_ := Aside0.mk ((by rw [hg]; exact (below_size q_3) : w.heap.size ≤ gb144)); have n3_ := Aside0.mk ((by rw [hg]; exact (below_size q_3) : w.heap.size ≤ gb144)); clear HB; have HB := n0_; have BK144 := n1_; have GW144 := n2_; have GE144 := n3_; clear n0_ n1_ n2_ n3_; clear hb hbox hg; obtain ⟨hcz11_0, hcz11_1, hcz11_2, hfz11_0, hfz11_1, hfz11_2⟩ := cells3_ BK144.out))
      go_ret
      exact ⟨q_11, q_15⟩
  · rw [if_neg c3] at H
    have c3b0 : (a1 == 3) = false := beq_eq_false_iff_ne.mpr c3
    have c3b1 : (a1 != 3) = true := bne_iff_ne.mpr c3
    by_cases c12 : a1 = 4
    · rw [if_pos c12] at H
      have c12b0 : (a1 == 4) = true := beq_iff_eq.mpr c12
      have c12b1 : (a1 != 4) = false := bne_eq_false_iff_eq.mpr c12
      clear c12
      obtain rfl := Option.some.inj H
      go_enter Tryd.func19, Tryd.ntmps19
      go_wp2_with (first | ((with_reducible refine gate_dst (N := 2) rfl ?_); refine box_event ?hg (N := 2) ?hd (cs := #[.string a0_0, .int .u8 a0_1, .int .u8 a0_2]) (t := 29) ?hr ?_; (case hd => rfl); (case hg => rfl); (case hr => first | (go_simp; done) | (go_simp; rfl)); intro gb144 hg w13 hbox hb; have n0_ := Aside0.mk (below_step q_3 hb); have n1_ := Aside0.mk (hbox); have n2_ := Aside0.mk ((by rw [hg]; exact (below_size q_3) : w.heap.size ≤ gb144)); have n3_ := Aside0.mk ((by rw [hg]; exact (below_size q_3) : w.heap.size ≤ gb144)); clear HB; have HB := n0_; have BK144 := n1_; have GW144 := n2_; have GE144 := n3_; clear n0_ n1_ n2_ n3_; clear hb hbox hg; obtain ⟨hcz14_0, hcz14_1, hcz14_2, hfz14_0, hfz14_1, hfz14_2⟩ := cells3_ BK144.out))
      go_ret
      exact ⟨q_11, q_15⟩
    · rw [if_neg c12] at H
      have c12b0 : (a1 == 4) = false := beq_eq_false_iff_ne.mpr c12
      have c12b1 : (a1 != 4) = true := bne_iff_ne.mpr c12
      obtain rfl := Option.some.inj H
      go_enter Tryd.func19, Tryd.ntmps19
      go_wp2_with (first | ((with_reducible refine gate_dst (N := 2) rfl ?_); refine box_event ?hg (N := 2) ?hd (cs := #[.string a0_0, .int .u8 a0_1, .int .u8 a0_2]) (t := 29) ?hr ?_; (case hd => rfl); (case hg => rfl); (case hr => first | (go_simp; done) | (go_simp; rfl)); intro gb144 hg w15 hbox hb; have n0_ := Aside0.mk (below_step q_3 hb); have n1_ := Aside0.mk (hbox); have n2_ := Aside0.mk ((by rw [hg]; exact (below_size q_3) : w.heap.size ≤ gb144)); have n3_ := Aside0.mk ((by rw [hg]; exact (below_size q_3) : w.heap.size ≤ gb144)); clear HB; have HB := n0_; have BK144 := n1_; have GW144 := n2_; have GE144 := n3_; clear n0_ n1_ n2_ n3_; clear hb hbox hg))
      go_ret
      exact ⟨q_11, q_15⟩

/-! ### frame_Head_Grouped: function 21 -/
def frame_Head_Grouped.f (a0_0 : ByteArray) (a0_1 : Int) (a0_2 : Int) (a1 : Int) : Option (Bool) := (frame_Head_Locked.f a0_0 a0_1 a0_2 a1).bind fun t146 => (if t146 = true then (some false) else (if a1 = 3 then (if (Go.bits .and .u8 a0_2 32) = 0 then (if a1 = 4 then (some ((Go.bits .and .u8 a0_2 64) != 0)) else (some false)) else (some true)) else (if a1 = 4 then (some ((Go.bits .and .u8 a0_2 64) != 0)) else (some false))))
set_option maxHeartbeats 8000000 in
set_option maxRecDepth 100000 in
theorem frame_Head_Grouped.calls (a0_0 : ByteArray) (a0_1 : Int) (a0_2 : Int) (a1 : Int) (r : Bool) (w : World) (h : frame_Head_Grouped.f a0_0 a0_1 a0_2 a1 = some r) :
    Calls Tryd.prog 21 #[.agg #[.string a0_0, .int .u8 a0_1, .int .u8 a0_2], .int .i64 a1] w fun e w' => e = .returned (.bool r) ∧ Below w.heap.size w w' := by
  have hu29 := Tryd.underlying29
  have HB := Aside0.mk (Below.refl w.heap.size w)
  have H : ((frame_Head_Locked.f a0_0 a0_1 a0_2 a1).bind fun t146 => (if t146 = true then (some false) else (if a1 = 3 then (if (Go.bits .and .u8 a0_2 32) = 0 then (if a1 = 4 then (some ((Go.bits .and .u8 a0_2 64) != 0)) else (some false)) else (some true)) else (if a1 = 4 then (some ((Go.bits .and .u8 a0_2 64) != 0)) else (some false))))) = some r := h
  clear h
  replace H := Option.bind_eq_some_iff.mp H
  obtain ⟨t146, A30, H⟩ := H
  replace H : (if t146 = true then (some false) else (if a1 = 3 then (if (Go.bits .and .u8 a0_2 32) = 0 then (if a1 = 4 then (some ((Go.bits .and .u8 a0_2 64) != 0)) else (some false)) else (some true)) else (if a1 = 4 then (some ((Go.bits .and .u8 a0_2 64) != 0)) else (some false)))) = some r := H
  have A3 := Aside0.mk A30
  clear A30
  by_cases c4 : t146 = true
  · subst c4
    have H1 : (some false) = some r := by rw [if_pos rfl] at H; exact H
    clear H
    have H := H1
    clear H1
    obtain rfl := Option.some.inj H
    go_enter Tryd.func21, Tryd.ntmps21
    go_wp2_with (first | ((with_reducible refine gate_dst (N := 2) rfl ?_); refine box_event ?hg (N := 2) ?hd (cs := #[.string a0_0, .int .u8 a0_1, .int .u8 a0_2]) (t := 29) ?hr ?_; (case hd => rfl); (case hg => rfl); (case hr => first | (go_simp; done) | (go_simp; rfl)); intro gb145 hg w5 hbox hb; have n0_ := Aside0.mk (below_step q_3 hb); have n1_ := Aside0.mk (hbox); have n2_ := Aside0.mk ((by rw [hg]; exact (below_size q_3) : w.heap.size ≤ gb145)); have n3_ := Aside0.mk ((by rw [hg]; exact (below_size q_3) : w.heap.size ≤ gb145)); clear HB; have HB := n0_; have BK145 := n1_; have GW145 := n2_; have GE145 := n3_; clear n0_ n1_ n2_ n3_; clear hb hbox hg; obtain ⟨hcz6_0, hcz6_1, hcz6_2, hfz6_0, hfz6_1, hfz6_2⟩ := cells3_ BK145.out) | ((with_reducible refine gate_callee (f := 19) rfl ?_); refine goesL_ (some 7) rfl rfl Tryd.func19 (by kernel_rfl) rfl #[.agg #[.string a0_0, .int .u8 a0_1, .int .u8 a0_2], .int .i64 a1] rfl q_7 ?_; (with_reducible refine (frame_Head_Locked.calls a0_0 a0_1 a0_2 a1 true _ A3.out).mono ?_); rintro e w7 ⟨rfl, hb⟩; refine ⟨_, rfl, ?_⟩; have n0_ := Aside0.mk (blk_below (g := gb145) (o := .cells #[.string a0_0, .int .u8 a0_1, .int .u8 a0_2] 29 (0, 0)) q_13 hb); have n1_ := Aside0.mk (below_step q_14 hb); clear BK145; clear HB; have BK145 := n0_; have HB := n1_; clear n0_ n1_; (try clear hb); (try clear hb2); (try clear hk); (try clear hi)))
    go_ret
    exact ⟨q_11, q_14⟩
  · replace c4 := Bool.eq_false_iff.mpr c4
    subst c4
    have H1 : (if a1 = 3 then (if (Go.bits .and .u8 a0_2 32) = 0 then (if a1 = 4 then (some ((Go.bits .and .u8 a0_2 64) != 0)) else (some false)) else (some true)) else (if a1 = 4 then (some ((Go.bits .and .u8 a0_2 64) != 0)) else (some false))) = some r := by rw [if_neg (show ¬ (false = true) by decide)] at H; exact H
    clear H
    have H := H1
    clear H1
    by_cases c8 : a1 = 3
    · rw [if_pos c8] at H
      have c8b0 : (a1 == 3) = true := beq_iff_eq.mpr c8
      have c8b1 : (a1 != 3) = false := bne_eq_false_iff_eq.mpr c8
      clear c8
      by_cases c9 : (Go.bits .and .u8 a0_2 32) = 0
      · rw [if_pos c9] at H
        have c9b0 : ((Go.bits .and .u8 a0_2 32) == 0) = true := beq_iff_eq.mpr c9
        have c9b1 : ((Go.bits .and .u8 a0_2 32) != 0) = false := bne_eq_false_iff_eq.mpr c9
        clear c9
        by_cases c10 : a1 = 4
        · rw [if_pos c10] at H
          have c10b0 : (a1 == 4) = true := beq_iff_eq.mpr c10
          have c10b1 : (a1 != 4) = false := bne_eq_false_iff_eq.mpr c10
          clear c10
          obtain rfl := Option.some.inj H
          go_enter Tryd.func21, Tryd.ntmps21
          go_wp2_with (first | ((with_reducible refine gate_dst (N := 2) rfl ?_); refine box_event ?hg (N := 2) ?hd (cs := #[.string a0_0, .int .u8 a0_1, .int .u8 a0_2]) (t := 29) ?hr ?_; (case hd => rfl); (case hg => rfl); (case hr => first | (go_simp; done) | (go_simp; rfl)); intro gb145 hg w11 hbox hb; have n0_ := Aside0.mk (below_step q_3 hb); have n1_ := Aside0.mk (hbox); have n2_ := Aside0.mk ((by rw [hg]; exact (below_size q_3) : w.heap.size ≤ gb145)); have n3_ := Aside0.mk ((by rw [hg]; exact (below_size q_3) : w.heap.size ≤ gb145)); clear HB; have HB := n0_; have BK145 := n1_; have GW145 := n2_; have GE145 := n3_; clear n0_ n1_ n2_ n3_; clear hb hbox hg; obtain ⟨hcz12_0, hcz12_1, hcz12_2, hfz12_0, hfz12_1, hfz12_2⟩ := cells3_ BK145.out) | ((with_reducible refine gate_callee (f := 19) rfl ?_); refine goesL_ (some 7) rfl rfl Tryd.func19 (by kernel_rfl) rfl #[.agg #[.string a0_0, .int .u8 a0_1, .int .u8 a0_2], .int .i64 a1] rfl q_7 ?_; (with_reducible refine (frame_Head_Locked.calls a0_0 a0_1 a0_2 a1 false _ A3.out).mono ?_); rintro e w13 ⟨rfl, hb⟩; refine ⟨_, rfl, ?_⟩; have n0_ := Aside0.mk (blk_below (g := gb145) (o := .cells #[.string a0_0, .int .u8 a0_1, .int .u8 a0_2] 29 (0, 0)) q_13 hb); have n1_ := Aside0.mk (below_step q_14 hb); clear BK145; clear HB; have BK145 := n0_; have HB := n1_; clear n0_ n1_; (try clear hb); (try clear hb2); (try clear hk); (try clear hi); obtain ⟨hcz14_0, hcz14_1, hcz14_2, hfz14_0, hfz14_1, hfz14_2⟩ := cells3_ BK145.out))
          go_ret
          exact ⟨q_11, q_14⟩
        · rw [if_neg c10] at H
          have c10b0 : (a1 == 4) = false := beq_eq_false_iff_ne.mpr c10
          have c10b1 : (a1 != 4) = true := bne_iff_ne.mpr c10
          obtain rfl := Option.some.inj H
          go_enter Tryd.func21, Tryd.ntmps21
          go_wp2_with (first | ((with_reducible refine gate_dst (N := 2) rfl ?_); refine box_event ?hg (N := 2) ?hd (cs := #[.string a0_0, .int .u8 a0_1, .int .u8 a0_2]) (t := 29) ?hr ?_; (case hd => rfl); (case hg => rfl); (case hr => first | (go_simp; done) | (go_simp; rfl)); intro gb145 hg w15 hbox hb; have n0_ := Aside0.mk (below_step q_3 hb); have n1_ := Aside0.mk (hbox); have n2_ := Aside0.mk ((by rw [hg]; exact (below_size q_3) : w.heap.size ≤ gb145)); have n3_ := Aside0.mk ((by rw [hg]; exact (below_size q_3) : w.heap.size ≤ gb145)); clear HB; have HB := n0_; have BK145 := n1_; have GW145 := n2_; have GE145 := n3_; clear n0_ n1_ n2_ n3_; clear hb hbox hg; obtain ⟨hcz16_0, hcz16_1, hcz16_2, hfz16_0, hfz16_1, hfz16_2⟩ := cells3_ BK145.out) | ((with_reducible refine gate_callee (f := 19) rfl ?_); refine goesL_ (some 7) rfl rfl Tryd.func19 (by kernel_rfl) rfl #[.agg #[.string a0_0, .int .u8 a0_1, .int .u8 a0_2], .int .i64 a1] rfl q_7 ?_; (with_reducible refine (frame_Head_Locked.calls a0_0 a0_1 a0_2 a1 false _ A3.out).mono ?_); rintro e w17 ⟨rfl, hb⟩; refine ⟨_, rfl, ?_⟩; have n0_ := Aside0.mk (blk_below (g := gb145) (o := .cells #[.string a0_0, .int .u8 a0_1, .int .u8 a0_2] 29 (0, 0)) q_13 hb); have n1_ := Aside0.mk (below_step q_14 hb); clear BK145; clear HB; have BK145 := n0_; have HB := n1_; clear n0_ n1_; (try clear hb); (try clear hb2); (try clear hk); (try clear hi); obtain ⟨hcz18_0, hcz18_1, hcz18_2, hfz18_0, hfz18_1, hfz18_2⟩ := cells3_ BK145.out))
          go_ret
          exact ⟨q_11, q_14⟩
      · rw [if_neg c9] at H
        have c9b0 : ((Go.bits .and .u8 a0_2 32) == 0) = false := beq_eq_false_iff_ne.mpr c9
        have c9b1 : ((Go.bits .and .u8 a0_2 32) != 0) = true := bne_iff_ne.mpr c9
        obtain rfl := Option.some.inj H
        go_enter Tryd.func21, Tryd.ntmps21
        go_wp2_with (first | ((with_reducible refine gate_dst (N := 2) rfl ?_); refine box_event ?hg (N := 2) ?hd (cs := #[.string a0_0, .int .u8 a0_1, .int .u8 a0_2]) (t := 29) ?hr ?_; (case hd => rfl); (case hg => rfl); (case hr => first | (go_simp; done) | (go_simp; rfl)); intro gb145 hg w19 hbox hb; have n0_ := Aside0.mk (below_step q_3 hb); have n1_ := Aside0.mk (hbox); have n2_ := Aside0.mk ((by rw [hg]; exact (below_size q_3) : w.heap.size ≤ gb145)); have n3_ := Aside0.mk ((by rw [hg]; exact (below_size q_3) : w.heap.size ≤ gb145)); clear HB; have HB := n0_; have BK145 := n1_; have GW145 := n2_; have GE145 := n3_; clear n0_ n1_ n2_ n3_; clear hb hbox hg; obtain ⟨hcz20_0, hcz20_1, hcz20_2, hfz20_0, hfz20_1, hfz20_2⟩ := cells3_ BK145.out) | ((with_reducible refine gate_callee (f := 19) rfl ?_); refine goesL_ (some 7) rfl rfl Tryd.func19 (by kernel_rfl) rfl #[.agg #[.string a0_0, .int .u8 a0_1, .int .u8 a0_2], .int .i64 a1] rfl q_7 ?_; (with_reducible refine (frame_Head_Locked.calls a0_0 a0_1 a0_2 a1 false _ A3.out).mono ?_); rintro e w21 ⟨rfl, hb⟩; refine ⟨_, rfl, ?_⟩; have n0_ := Aside0.mk (blk_below (g := gb145) (o := .cells #[.string a0_0, .int .u8 a0_1, .int .u8 a0_2] 29 (0, 0)) q_13 hb); have n1_ := Aside0.mk (below_step q_14 hb); clear BK145; clear HB; have BK145 := n0_; have HB := n1_; clear n0_ n1_; (try clear hb); (try clear hb2); (try clear hk); (try clear hi); obtain ⟨hcz22_0, hcz22_1, hcz22_2, hfz22_0, hfz22_1, hfz22_2⟩ := cells3_ BK145.out))
        go_ret
        exact ⟨q_11, q_14⟩
    · rw [if_neg c8] at H
      have c8b0 : (a1 == 3) = false := beq_eq_false_iff_ne.mpr c8
      have c8b1 : (a1 != 3) = true := bne_iff_ne.mpr c8
      by_cases c23 : a1 = 4
      · rw [if_pos c23] at H
        have c23b0 : (a1 == 4) = true := beq_iff_eq.mpr c23
        have c23b1 : (a1 != 4) = false := bne_eq_false_iff_eq.mpr c23
        clear c23
        obtain rfl := Option.some.inj H
        go_enter Tryd.func21, Tryd.ntmps21
        go_wp2_with (first | ((with_reducible refine gate_dst (N := 2) rfl ?_); refine box_event ?hg (N := 2) ?hd (cs := #[.string a0_0, .int .u8 a0_1, .int .u8 a0_2]) (t := 29) ?hr ?_; (case hd => rfl); (case hg => rfl); (case hr => first | (go_simp; done) | (go_simp; rfl)); intro gb145 hg w24 hbox hb; have n0_ := Aside0.mk (below_step q_3 hb); have n1_ := Aside0.mk (hbox); have n2_ := Aside0.mk ((by rw [hg]; exact (below_size q_3) : w.heap.size ≤ gb145)); have n3_ := Aside0.mk ((by rw [hg]; exact (below_size q_3) : w.heap.size ≤ gb145)); clear HB; have HB := n0_; have BK145 := n1_; have GW145 := n2_; have GE145 := n3_; clear n0_ n1_ n2_ n3_; clear hb hbox hg; obtain ⟨hcz25_0, hcz25_1, hcz25_2, hfz25_0, hfz25_1, hfz25_2⟩ := cells3_ BK145.out) | ((with_reducible refine gate_callee (f := 19) rfl ?_); refine goesL_ (some 7) rfl rfl Tryd.func19 (by kernel_rfl) rfl #[.agg #[.string a0_0, .int .u8 a0_1, .int .u8 a0_2], .int .i64 a1] rfl q_7 ?_; (with_reducible refine (frame_Head_Locked.calls a0_0 a0_1 a0_2 a1 false _ A3.out).mono ?_); rintro e w26 ⟨rfl, hb⟩; refine ⟨_, rfl, ?_⟩; have n0_ := Aside0.mk (blk_below (g := gb145) (o := .cells #[.string a0_0, .int .u8 a0_1, .int .u8 a0_2] 29 (0, 0)) q_13 hb); have n1_ := Aside0.mk (below_step q_14 hb); clear BK145; clear HB; have BK145 := n0_; have HB := n1_; clear n0_ n1_; (try clear hb); (try clear hb2); (try clear hk); (try clear hi); obtain ⟨hcz27_0, hcz27_1, hcz27_2, hfz27_0, hfz27_1, hfz27_2⟩ := cells3_ BK145.out))
        go_ret
        exact ⟨q_11, q_14⟩
      · rw [if_neg c23] at H
        have c23b0 : (a1 == 4) = false := beq_eq_false_iff_ne.mpr c23
        have c23b1 : (a1 != 4) = true := bne_iff_ne.mpr c23
        obtain rfl := Option.some.inj H
        go_enter Tryd.func21, Tryd.ntmps21
        go_wp2_with (first | ((with_reducible refine gate_dst (N := 2) rfl ?_); refine box_event ?hg (N := 2) ?hd (cs := #[.string a0_0, .int .u8 a0_1, .int .u8 a0_2]) (t := 29) ?hr ?_; (case hd => rfl); (case hg => rfl); (case hr => first | (go_simp; done) | (go_simp; rfl)); intro gb145 hg w28 hbox hb; have n0_ := Aside0.mk (below_step q_3 hb); have n1_ := Aside0.mk (hbox); have n2_ := Aside0.mk ((by rw [hg]; exact (below_size q_3) : w.heap.size ≤ gb145)); have n3_ := Aside0.mk ((by rw [hg]; exact (below_size q_3) : w.heap.size ≤ gb145)); clear HB; have HB := n0_; have BK145 := n1_; have GW145 := n2_; have GE145 := n3_; clear n0_ n1_ n2_ n3_; clear hb hbox hg; obtain ⟨hcz29_0, hcz29_1, hcz29_2, hfz29_0, hfz29_1, hfz29_2⟩ := cells3_ BK145.out) | ((with_reducible refine gate_callee (f := 19) rfl ?_); refine goesL_ (some 7) rfl rfl Tryd.func19 (by kernel_rfl) rfl #[.agg #[.string a0_0, .int .u8 a0_1, .int .u8 a0_2], .int .i64 a1] rfl q_7 ?_; (with_reducible refine (frame_Head_Locked.calls a0_0 a0_1 a0_2 a1 false _ A3.out).mono ?_); rintro e w30 ⟨rfl, hb⟩; refine ⟨_, rfl, ?_⟩; have n0_ := Aside0.mk (blk_below (g := gb145) (o := .cells #[.string a0_0, .int .u8 a0_1, .int .u8 a0_2] 29 (0, 0)) q_13 hb); have n1_ := Aside0.mk (below_step q_14 hb); clear BK145; clear HB; have BK145 := n0_; have HB := n1_; clear n0_ n1_; (try clear hb); (try clear hb2); (try clear hk); (try clear hi)))
        go_ret
        exact ⟨q_11, q_14⟩

end Go.Proofs.YtlmhlmendnjmlaaDoor.PAll
