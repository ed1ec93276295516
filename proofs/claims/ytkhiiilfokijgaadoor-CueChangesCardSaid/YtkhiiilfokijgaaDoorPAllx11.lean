/- Written by a program of this session: functions of the Go program as Lean functions, and the walks that tie them to it. -/
import Derived.Test.YtkhiiilfokijgaaDoorPAllx0
import Derived.Test.YtkhiiilfokijgaaDoorPAllx8
import Derived.Test.YtkhiiilfokijgaaDoorPAllx10
namespace Go.Proofs.YtkhiiilfokijgaaDoor.PAll
open Go.RowKit Go.Proofs.YtkhiiilfokijgaaDoorW.PrintWords Go.Proofs.YtkhiiilfokijgaaDoorW.PrintLast Go.Proofs.YtkhiiilfokijgaaDoorW.PrintMore
attribute [local go_sem] max2_int min2_int max_two min_two max_three min_three max_four min_four   -- for this text's walks alone
set_option linter.unusedVariables false
set_option linter.unusedSimpArgs false

/-! ### strings_ReplaceAll: function 64 -/
/-- internal/bytealg.MaxLen holds some int. -/
def GM (w : World) : Prop := ∃ m : Int, w.cell? ⟨0, 0, none⟩ = some (.int .i64 m)
theorem GM.below {w w' : World} (h : GM w) (hb : Below w.heap.size w w') : GM w' := by
  obtain ⟨m, hm⟩ := h
  exact ⟨m, (hb.cell (World.block_lt_of_cell? w _ hm)).trans hm⟩
def strings_ReplaceAll.f (a0 : ByteArray) (a1 : ByteArray) (a2 : ByteArray) : Option (ByteArray) := if 1 ≤ a1.size ∧ a0.size < 4294967281 ∧ a0.size + Lib.countB a0 a1 * a2.size ≤ 140737488355328 then some ⟨(Lib.replaceAll a0.data.toList a1.data.toList a2.data.toList).toArray⟩ else none
theorem strings_ReplaceAll.calls (a0 : ByteArray) (a1 : ByteArray) (a2 : ByteArray) (r : ByteArray) (w : World) (hG : GM w) (h : strings_ReplaceAll.f a0 a1 a2 = some r) :
    Calls Tryd.prog 64 #[.string a0, .string a1, .string a2] w fun e w' => e = .returned (.string r) ∧ Below w.heap.size w w' := by
  unfold strings_ReplaceAll.f at h
  by_cases hg : 1 ≤ a1.size ∧ a0.size < 4294967281 ∧ a0.size + Lib.countB a0 a1 * a2.size ≤ 140737488355328
  case neg => rw [if_neg hg] at h; exact absurd h (by simp)
  rw [if_pos hg] at h
  obtain ⟨h1, h2, h3⟩ := hg
  obtain rfl := Option.some.inj h
  obtain ⟨m, hm⟩ := hG
  exact (Tryd.strings_ReplaceAll a0 a1 a2 m w h2 hm h1 h3).mono fun e w' ⟨he, hb⟩ => ⟨he, hb⟩


/-! ### cue_plain: function 47 -/
mutual
def cue_plain.j0 : Nat → ByteArray → ByteArray → Bool → Option (Bool)
  | 0, _, _, _ => none
  | k + 1, x1, x5, x25 => if x25 = true then ((line_Like.f k x1 (⟨#[48, 48, 58, 48, 48, 58, 48, 48]⟩ : ByteArray)).bind fun t185 => (some t185)) else (if x5.toList = ([67, 65, 84, 65, 76, 79, 71] : List UInt8) then (cue_plain.j1 k x1 (x5.toList == ([67, 65, 84, 65, 76, 79, 71] : List UInt8))) else (if x5.toList = ([73, 83, 82, 67] : List UInt8) then (cue_plain.j1 k x1 (x5.toList == ([73, 83, 82, 67] : List UInt8))) else (cue_plain.j1 k x1 (x5.toList == ([70, 76, 65, 71, 83] : List UInt8)))))
def cue_plain.j1 : Nat → ByteArray → Bool → Option (Bool)
  | 0, _, _ => none
  | k + 1, x1, x30 => if x30 = true then ((strings_ReplaceAll.f x1 (⟨#[32]⟩ : ByteArray) (⟨#[]⟩ : ByteArray)).bind fun t186 => ((line_Capitals.f k t186).bind fun t187 => (if t187 = true then (if 0 < (x1.size : Int) then (some ((bt x1 0) != 32)) else (none)) else (some false)))) else (some false)
end
def cue_plain.f (k : Nat) (a0 : ByteArray) (a1 : ByteArray) : Option (Bool) := if a0.toList = ([84, 82, 65, 67, 75] : List UInt8) then (if (a1.size : Int) > 3 then (if 0 ≤ 3 then (if 3 ≤ (a1.size : Int) then ((line_Like.f k (a1.extract 0 3) (⟨#[48, 48, 32]⟩ : ByteArray)).bind fun t182 => (if t182 = true then ((line_Capitals.f k (a1.extract 3 a1.size)).bind fun t183 => (some t183)) else (some false))) else (none)) else (none)) else (some false)) else (if a0.toList = ([73, 78, 68, 69, 88] : List UInt8) then ((line_Like.f k a1 (⟨#[48, 48, 32, 48, 48, 58, 48, 48, 58, 48, 48]⟩ : ByteArray)).bind fun t184 => (some t184)) else (if a0.toList = ([80, 82, 69, 71, 65, 80] : List UInt8) then (cue_plain.j0 k a1 a0 (a0.toList == ([80, 82, 69, 71, 65, 80] : List UInt8))) else (cue_plain.j0 k a1 a0 (a0.toList == ([80, 79, 83, 84, 71, 65, 80] : List UInt8)))))
theorem cue_plain.mono_l : ∀ k, (∀ y0 y1 y2, LeO (cue_plain.j0 k y0 y1 y2) (cue_plain.j0 (k + 1) y0 y1 y2)) ∧ (∀ y0 y1, LeO (cue_plain.j1 k y0 y1) (cue_plain.j1 (k + 1) y0 y1))
  | 0 => ⟨fun _ _ _ r h => by simp [cue_plain.j0] at h, fun _ _ r h => by simp [cue_plain.j1] at h⟩
  | k + 1 => by
    obtain ⟨ih0, ih1⟩ := cue_plain.mono_l k
    refine ⟨?_, ?_⟩
    · intro y0 y1 y2
      unfold cue_plain.j0
      repeat' first
      | (with_reducible exact ih0 _ _ _)
      | (with_reducible exact ih1 _ _)
      | (with_reducible exact line_Capitals.mono _ _)
      | (with_reducible exact line_Like.mono _ _ _)
      | (with_reducible exact LeO.refl _)
      | (with_reducible exact LeO.none _)
      | (with_reducible refine LeO.ite ?_ ?_)
      | (with_reducible refine LeO.bind ?_ (fun _ => ?_))
      | exact ih0 _ _ _
      | exact ih1 _ _
      | exact line_Capitals.mono _ _
      | exact line_Like.mono _ _ _
      | exact LeO.none _
      | refine LeO.ite ?_ ?_
      | refine LeO.bind ?_ (fun _ => ?_)
    · intro y0 y1
      unfold cue_plain.j1
      repeat' first
      | (with_reducible exact ih0 _ _ _)
      | (with_reducible exact ih1 _ _)
      | (with_reducible exact line_Capitals.mono _ _)
      | (with_reducible exact line_Like.mono _ _ _)
      | (with_reducible exact LeO.refl _)
      | (with_reducible exact LeO.none _)
      | (with_reducible refine LeO.ite ?_ ?_)
      | (with_reducible refine LeO.bind ?_ (fun _ => ?_))
      | exact ih0 _ _ _
      | exact ih1 _ _
      | exact line_Capitals.mono _ _
      | exact line_Like.mono _ _ _
      | exact LeO.none _
      | refine LeO.ite ?_ ?_
      | refine LeO.bind ?_ (fun _ => ?_)
theorem cue_plain.mono : ∀ a0 a1 k, LeO (cue_plain.f k a0 a1) (cue_plain.f (k + 1) a0 a1) := by
  intro a0 a1 k
  obtain ⟨ih0, ih1⟩ := cue_plain.mono_l k
  unfold cue_plain.f
  repeat' first
      | (with_reducible exact ih0 _ _ _)
      | (with_reducible exact ih1 _ _)
      | (with_reducible exact line_Capitals.mono _ _)
      | (with_reducible exact line_Like.mono _ _ _)
      | (with_reducible exact LeO.refl _)
      | (with_reducible exact LeO.none _)
      | (with_reducible refine LeO.ite ?_ ?_)
      | (with_reducible refine LeO.bind ?_ (fun _ => ?_))
      | exact ih0 _ _ _
      | exact ih1 _ _
      | exact line_Capitals.mono _ _
      | exact line_Like.mono _ _ _
      | exact LeO.none _
      | refine LeO.ite ?_ ?_
      | refine LeO.bind ?_ (fun _ => ?_)
set_option maxHeartbeats 8000000 in
set_option maxRecDepth 100000 in
theorem cue_plain.calls (k : Nat) (a0 : ByteArray) (a1 : ByteArray) (r : Bool) (w : World) (hG : GM w) (h : cue_plain.f k a0 a1 = some r) :
    Calls Tryd.prog 47 #[.string a0, .string a1] w fun e w' => e = .returned (.bool r) ∧ Below w.heap.size w w' := by
  have HB := Aside0.mk (Below.refl w.heap.size w)
  have HG := Aside0.mk hG
  clear hG
  have H : (if a0.toList = ([84, 82, 65, 67, 75] : List UInt8) then (if (a1.size : Int) > 3 then (if 0 ≤ 3 then (if 3 ≤ (a1.size : Int) then ((line_Like.f k (a1.extract 0 3) (⟨#[48, 48, 32]⟩ : ByteArray)).bind fun t182 => (if t182 = true then ((line_Capitals.f k (a1.extract 3 a1.size)).bind fun t183 => (some t183)) else (some false))) else (none)) else (none)) else (some false)) else (if a0.toList = ([73, 78, 68, 69, 88] : List UInt8) then ((line_Like.f k a1 (⟨#[48, 48, 32, 48, 48, 58, 48, 48, 58, 48, 48]⟩ : ByteArray)).bind fun t184 => (some t184)) else (if a0.toList = ([80, 82, 69, 71, 65, 80] : List UInt8) then (cue_plain.j0 k a1 a0 (a0.toList == ([80, 82, 69, 71, 65, 80] : List UInt8))) else (cue_plain.j0 k a1 a0 (a0.toList == ([80, 79, 83, 84, 71, 65, 80] : List UInt8)))))) = some r := h
  clear h
  by_cases c3 : a0.toList = ([84, 82, 65, 67, 75] : List UInt8)
  · rw [if_pos c3] at H
    have c3b0 : (a0.toList == ([84, 82, 65, 67, 75] : List UInt8)) = true := beq_iff_eq.mpr c3
    have c3b1 : (a0.toList != ([84, 82, 65, 67, 75] : List UInt8)) = false := bne_eq_false_iff_eq.mpr c3
    clear c3
    by_cases c4 : (a1.size : Int) > 3
    · rw [if_pos c4] at H
      have c4b0 : decide (3 < (a1.size : Int)) = true := decide_eq_true c4
      have c4b1 : decide (3 < a1.size) = true := decide_eq_true (by omega)
      clear c4
      by_cases c5 : 0 ≤ 3
      · rw [if_pos c5] at H
        have c5b0 := eq_true c5
        have c5b1 : decide (0 ≤ 3) = true := decide_eq_true c5
        clear c5
        by_cases c6 : 3 ≤ (a1.size : Int)
        · rw [if_pos c6] at H
          have c6b0 := eq_true c6
          have c6b1 : decide (3 ≤ (a1.size : Int)) = true := decide_eq_true c6
          clear c6
          replace H := Option.bind_eq_some_iff.mp H
          obtain ⟨t182, A70, H⟩ := H
          replace H : (if t182 = true then ((line_Capitals.f k (a1.extract 3 a1.size)).bind fun t183 => (some t183)) else (some false)) = some r := H
          have A7 := Aside0.mk A70
          clear A70
          by_cases c8 : t182 = true
          · subst c8
            have H1 : ((line_Capitals.f k (a1.extract 3 a1.size)).bind fun t183 => (some t183)) = some r := by rw [if_pos rfl] at H; exact H
            clear H
            have H := H1
            clear H1
            have c9b0 := eq_true (of_decide_eq_true q_6 : 3 ≤ (a1.size : Int))
            replace H := Option.bind_eq_some_iff.mp H
            obtain ⟨t183, A100, H⟩ := H
            replace H : (some t183) = some r := H
            have A10 := Aside0.mk A100
            clear A100
            obtain rfl := Option.some.inj H
            go_enter Tryd.func47, Tryd.ntmps47
            go_wp2_with (first | (go_at_call 59; (with_reducible refine (line_Like.calls k (a1.extract 0 3) (⟨#[48, 48, 32]⟩ : ByteArray) true _ A7.out).mono ?_); rintro e w11 ⟨rfl, hb⟩; have n0_ := Aside0.mk (below_step q_1 hb); clear HB; have HB := n0_; clear n0_; (try clear hb); (try clear hb2); (try clear hk); (try clear hi)) | (go_at_call 63; (with_reducible refine (line_Capitals.calls k (a1.extract 3 a1.size) t183 _ A10.out).mono ?_); rintro e w12 ⟨rfl, hb⟩; have n0_ := Aside0.mk (below_step q_1 hb); clear HB; have HB := n0_; clear n0_; (try clear hb); (try clear hb2); (try clear hk); (try clear hi)))
            go_ret
            exact ⟨q_10, q_1⟩
          · replace c8 := Bool.eq_false_iff.mpr c8
            subst c8
            have H1 : (some false) = some r := by rw [if_neg (show ¬ (false = true) by decide)] at H; exact H
            clear H
            have H := H1
            clear H1
            obtain rfl := Option.some.inj H
            go_enter Tryd.func47, Tryd.ntmps47
            go_wp2_with (first | (go_at_call 59; (with_reducible refine (line_Like.calls k (a1.extract 0 3) (⟨#[48, 48, 32]⟩ : ByteArray) false _ A7.out).mono ?_); rintro e w13 ⟨rfl, hb⟩; have n0_ := Aside0.mk (below_step q_1 hb); clear HB; have HB := n0_; clear n0_; (try clear hb); (try clear hb2); (try clear hk); (try clear hi)))
            go_ret
            exact ⟨q_10, q_1⟩
        · rw [if_neg c6] at H
          exact absurd H (by simp)
      · rw [if_neg c5] at H
        exact absurd H (by simp)
    · rw [if_neg c4] at H
      have c4b0 : decide (3 < (a1.size : Int)) = false := decide_eq_false c4
      have c4b1 : decide (3 < a1.size) = false := decide_eq_false (by omega)
      clear c4
      obtain rfl := Option.some.inj H
      go_enter Tryd.func47, Tryd.ntmps47
      go_wp2
      go_ret
      exact ⟨q_10, q_1⟩
  · rw [if_neg c3] at H
    have c3b0 : (a0.toList == ([84, 82, 65, 67, 75] : List UInt8)) = false := beq_eq_false_iff_ne.mpr c3
    have c3b1 : (a0.toList != ([84, 82, 65, 67, 75] : List UInt8)) = true := bne_iff_ne.mpr c3
    by_cases c14 : a0.toList = ([73, 78, 68, 69, 88] : List UInt8)
    · rw [if_pos c14] at H
      have c14b0 : (a0.toList == ([73, 78, 68, 69, 88] : List UInt8)) = true := beq_iff_eq.mpr c14
      have c14b1 : (a0.toList != ([73, 78, 68, 69, 88] : List UInt8)) = false := bne_eq_false_iff_eq.mpr c14
      clear c14
      replace H := Option.bind_eq_some_iff.mp H
      obtain ⟨t184, A150, H⟩ := H
      replace H : (some t184) = some r := H
      have A15 := Aside0.mk A150
      clear A150
      obtain rfl := Option.some.inj H
      go_enter Tryd.func47, Tryd.ntmps47
      go_wp2_with (first | ((with_reducible refine gate_callee (f := 59) rfl ?_); refine goesL_ (some 24) rfl rfl Tryd.func59 (by kernel_rfl) rfl #[.string a1, .string (⟨#[48, 48, 32, 48, 48, 58, 48, 48, 58, 48, 48]⟩ : ByteArray)] rfl q_2 ?_; (with_reducible refine (line_Like.calls k a1 (⟨#[48, 48, 32, 48, 48, 58, 48, 48, 58, 48, 48]⟩ : ByteArray) t184 _ A15.out).mono ?_); rintro e w16 ⟨rfl, hb⟩; refine ⟨_, rfl, ?_⟩; have n0_ := Aside0.mk (below_step q_1 hb); clear HB; have HB := n0_; clear n0_; (try clear hb); (try clear hb2); (try clear hk); (try clear hi)))
      go_ret
      exact ⟨q_10, q_1⟩
    · rw [if_neg c14] at H
      have c14b0 : (a0.toList == ([73, 78, 68, 69, 88] : List UInt8)) = false := beq_eq_false_iff_ne.mpr c14
      have c14b1 : (a0.toList != ([73, 78, 68, 69, 88] : List UInt8)) = true := bne_iff_ne.mpr c14
      have HC17 := Aside0.mk H
      clear H
      go_enter Tryd.func47, Tryd.ntmps47
      go_upto_if 25 with (fail)
      go_cut [25] (fun v25 wc => ∃ (kq : Nat) (x25_16 : Bool), v25 = .bool x25_16 ∧ Aside0 (cue_plain.j0 kq a1 a0 x25_16 = some r) ∧ Aside0 (kq ≤ k) ∧ Aside0 (Below w.heap.size w wc))
      case first =>
        have H := HC17.out
        clear HC17
        by_cases c18 : a0.toList = ([80, 82, 69, 71, 65, 80] : List UInt8)
        · rw [if_pos c18] at H
          have c18b0 : (a0.toList == ([80, 82, 69, 71, 65, 80] : List UInt8)) = true := beq_iff_eq.mpr c18
          have c18b1 : (a0.toList != ([80, 82, 69, 71, 65, 80] : List UInt8)) = false := bne_eq_false_iff_eq.mpr c18
          clear c18
          (first | rw [c18b0] | (simp only [i64_w, i32_w]; rw [c18b0]) | skip)
          have H' := Aside0.mk H
          clear H
          go_wp2
          go_meet
          case rel => exact ⟨_, ((a0.toList == ([80, 82, 69, 71, 65, 80] : List UInt8))), q_5, H', ⟨by first | omega | exact Nat.le_refl _⟩, ⟨q_1⟩⟩
        · rw [if_neg c18] at H
          have c18b0 : (a0.toList == ([80, 82, 69, 71, 65, 80] : List UInt8)) = false := beq_eq_false_iff_ne.mpr c18
          have c18b1 : (a0.toList != ([80, 82, 69, 71, 65, 80] : List UInt8)) = true := bne_iff_ne.mpr c18
          (first | rw [c18b0] | (simp only [i64_w, i32_w]; rw [c18b0]) | skip)
          have H' := Aside0.mk H
          clear H
          go_wp2
          go_meet
          case rel => exact ⟨_, ((a0.toList == ([80, 79, 83, 84, 71, 65, 80] : List UInt8))), q_5, H', ⟨by first | omega | exact Nat.le_refl _⟩, ⟨q_1⟩⟩
      case rest =>
        clear HC17
        try clear c1; try clear p2; try clear c3; try clear c3b0; try clear c3b1; try clear c4; try clear c4b0; try clear c4b1; try clear c5; try clear c5b0; try clear c5b1; try clear c6; try clear c6b0; try clear c6b1; try clear c8; try clear c9; try clear c9b0; try clear c14; try clear c14b0; try clear c14b1; try clear c18; try clear c18b0; try clear c18b1
        obtain ⟨kq, x25_16, rfl, HA, HJ16, HB⟩ := hcut
        cases kq with
        | zero => exact absurd HA.out (by simp [cue_plain.j0])
        | succ kj16 =>
          have H := HA.out
          clear HA
          simp only [cue_plain.j0] at H
          by_cases c19 : x25_16 = true
          · subst c19
            have H1 : ((line_Like.f kj16 a1 (⟨#[48, 48, 58, 48, 48, 58, 48, 48]⟩ : ByteArray)).bind fun t185 => (some t185)) = some r := by rw [if_pos rfl] at H; exact H
            clear H
            have H := H1
            clear H1
            replace H := Option.bind_eq_some_iff.mp H
            obtain ⟨t185, A200, H⟩ := H
            replace H : (some t185) = some r := H
            have A20 := Aside0.mk A200
            clear A200
            obtain rfl := Option.some.inj H
            go_wp2_with (first | ((with_reducible refine gate_callee (f := 59) rfl ?_); refine goesL_ (some 29) rfl rfl Tryd.func59 (by kernel_rfl) rfl #[.string a1, .string (⟨#[48, 48, 58, 48, 48, 58, 48, 48]⟩ : ByteArray)] rfl q_2 ?_; (with_reducible refine (line_Like.calls kj16 a1 (⟨#[48, 48, 58, 48, 48, 58, 48, 48]⟩ : ByteArray) t185 _ A20.out).mono ?_); rintro e w21 ⟨rfl, hb⟩; refine ⟨_, rfl, ?_⟩; have n0_ := Aside0.mk (below_step q_1 hb); clear HB; have HB := n0_; clear n0_; (try clear hb); (try clear hb2); (try clear hk); (try clear hi)))
            go_ret
            exact ⟨q_10, q_1⟩
          · replace c19 := Bool.eq_false_iff.mpr c19
            subst c19
            have H1 : (if a0.toList = ([67, 65, 84, 65, 76, 79, 71] : List UInt8) then (cue_plain.j1 kj16 a1 (a0.toList == ([67, 65, 84, 65, 76, 79, 71] : List UInt8))) else (if a0.toList = ([73, 83, 82, 67] : List UInt8) then (cue_plain.j1 kj16 a1 (a0.toList == ([73, 83, 82, 67] : List UInt8))) else (cue_plain.j1 kj16 a1 (a0.toList == ([70, 76, 65, 71, 83] : List UInt8))))) = some r := by rw [if_neg (show ¬ (false = true) by decide)] at H; exact H
            clear H
            have H := H1
            clear H1
            have HC22 := Aside0.mk H
            clear H
            go_upto_if 30 with (fail)
            go_cut [30] (fun v30 wc => ∃ (kq : Nat) (x30_21 : Bool), v30 = .bool x30_21 ∧ Aside0 (cue_plain.j1 kq a1 x30_21 = some r) ∧ Aside0 (kq ≤ kj16) ∧ Aside0 (Below w.heap.size w wc))
            case first =>
              have H := HC22.out
              clear HC22
              by_cases c23 : a0.toList = ([67, 65, 84, 65, 76, 79, 71] : List UInt8)
              · rw [if_pos c23] at H
                have c23b0 : (a0.toList == ([67, 65, 84, 65, 76, 79, 71] : List UInt8)) = true := beq_iff_eq.mpr c23
                have c23b1 : (a0.toList != ([67, 65, 84, 65, 76, 79, 71] : List UInt8)) = false := bne_eq_false_iff_eq.mpr c23
                clear c23
                (first | rw [c23b0] | (simp only [i64_w, i32_w]; rw [c23b0]) | skip)
                have H' := Aside0.mk H
                clear H
                go_wp2
                go_meet
                case rel => exact ⟨_, ((a0.toList == ([67, 65, 84, 65, 76, 79, 71] : List UInt8))), q_5, H', ⟨q_26⟩, ⟨q_1⟩⟩
              · rw [if_neg c23] at H
                have c23b0 : (a0.toList == ([67, 65, 84, 65, 76, 79, 71] : List UInt8)) = false := beq_eq_false_iff_ne.mpr c23
                have c23b1 : (a0.toList != ([67, 65, 84, 65, 76, 79, 71] : List UInt8)) = true := bne_iff_ne.mpr c23
                (first | rw [c23b0] | (simp only [i64_w, i32_w]; rw [c23b0]) | skip)
                by_cases c24 : a0.toList = ([73, 83, 82, 67] : List UInt8)
                · rw [if_pos c24] at H
                  have c24b0 : (a0.toList == ([73, 83, 82, 67] : List UInt8)) = true := beq_iff_eq.mpr c24
                  have c24b1 : (a0.toList != ([73, 83, 82, 67] : List UInt8)) = false := bne_eq_false_iff_eq.mpr c24
                  clear c24
                  have H' := Aside0.mk H
                  clear H
                  go_wp2
                  go_meet
                  case rel => exact ⟨_, ((a0.toList == ([73, 83, 82, 67] : List UInt8))), q_5, H', ⟨q_26⟩, ⟨q_1⟩⟩
                · rw [if_neg c24] at H
                  have c24b0 : (a0.toList == ([73, 83, 82, 67] : List UInt8)) = false := beq_eq_false_iff_ne.mpr c24
                  have c24b1 : (a0.toList != ([73, 83, 82, 67] : List UInt8)) = true := bne_iff_ne.mpr c24
                  have H' := Aside0.mk H
                  clear H
                  go_wp2
                  go_meet
                  case rel => exact ⟨_, ((a0.toList == ([70, 76, 65, 71, 83] : List UInt8))), q_5, H', ⟨q_26⟩, ⟨q_1⟩⟩
            case rest =>
              clear HC22
              try clear c1; try clear c2; try clear p2; try clear c3; try clear c3b0; try clear c3b1; try clear c4; try clear c4b0; try clear c4b1; try clear c5; try clear c5b0; try clear c5b1; try clear c6; try clear c6b0; try clear c6b1; try clear c8; try clear c9; try clear c9b0; try clear c14; try clear c14b0; try clear c14b1; try clear c18; try clear c18b0; try clear c18b1; try clear c19; try clear c23; try clear c23b0; try clear c23b1; try clear c24; try clear c24b0; try clear c24b1; try clear p2
              obtain ⟨kq, x30_21, rfl, HA, HJ21, HB⟩ := hcut
              cases kq with
              | zero => exact absurd HA.out (by simp [cue_plain.j1])
              | succ kj21 =>
                have H := HA.out
                clear HA
                simp only [cue_plain.j1] at H
                by_cases c25 : x30_21 = true
                · subst c25
                  have H1 : ((strings_ReplaceAll.f a1 (⟨#[32]⟩ : ByteArray) (⟨#[]⟩ : ByteArray)).bind fun t186 => ((line_Capitals.f kj21 t186).bind fun t187 => (if t187 = true then (if 0 < (a1.size : Int) then (some ((bt a1 0) != 32)) else (none)) else (some false)))) = some r := by rw [if_pos rfl] at H; exact H
                  clear H
                  have H := H1
                  clear H1
                  replace H := Option.bind_eq_some_iff.mp H
                  obtain ⟨t186, A260, H⟩ := H
                  replace H : ((line_Capitals.f kj21 t186).bind fun t187 => (if t187 = true then (if 0 < (a1.size : Int) then (some ((bt a1 0) != 32)) else (none)) else (some false))) = some r := H
                  have A26 := Aside0.mk A260
                  clear A260
                  replace H := Option.bind_eq_some_iff.mp H
                  obtain ⟨t187, A270, H⟩ := H
                  replace H : (if t187 = true then (if 0 < (a1.size : Int) then (some ((bt a1 0) != 32)) else (none)) else (some false)) = some r := H
                  have A27 := Aside0.mk A270
                  clear A270
                  by_cases c28 : t187 = true
                  · subst c28
                    have H1 : (if 0 < (a1.size : Int) then (some ((bt a1 0) != 32)) else (none)) = some r := by rw [if_pos rfl] at H; exact H
                    clear H
                    have H := H1
                    clear H1
                    by_cases c29 : 0 < (a1.size : Int)
                    · rw [if_pos c29] at H
                      have c29b0 : decide (0 < (a1.size : Int)) = true := decide_eq_true c29
                      have c29b1 : decide (0 < a1.size) = true := decide_eq_true (by omega)
                      clear c29
                      obtain rfl := Option.some.inj H
                      go_wp2_with (first | ((with_reducible refine gate_callee (f := 64) rfl ?_); refine goesL_ (some 35) rfl rfl Tryd.func64 (by kernel_rfl) rfl #[.string a1, .string (⟨#[32]⟩ : ByteArray), .string (⟨#[]⟩ : ByteArray)] rfl q_2 ?_; (with_reducible refine (strings_ReplaceAll.calls a1 (⟨#[32]⟩ : ByteArray) (⟨#[]⟩ : ByteArray) t186 _ (GM.below HG.out q_1) A26.out).mono ?_); rintro e w31 ⟨rfl, hb⟩; refine ⟨_, rfl, ?_⟩; have n0_ := Aside0.mk (below_step q_1 hb); clear HB; have HB := n0_; clear n0_; (try clear hb); (try clear hb2); (try clear hk); (try clear hi)) | ((with_reducible refine gate_callee (f := 63) rfl ?_); refine goesL_ (some 36) rfl rfl Tryd.func63 (by kernel_rfl) rfl #[.string t186] rfl q_2 ?_; (with_reducible refine (line_Capitals.calls kj21 t186 true _ A27.out).mono ?_); rintro e w32 ⟨rfl, hb⟩; refine ⟨_, rfl, ?_⟩; have n0_ := Aside0.mk (below_step q_1 hb); clear HB; have HB := n0_; clear n0_; (try clear hb); (try clear hb2); (try clear hk); (try clear hi); have p30 : 0 ≤ (0 : Int) := (by omega); have q30 : 0 < a1.size := (by have : (0 : Int) < (a1.size : Int) := of_decide_eq_true q_6; omega); have hx30 : ∀ h : 0 < a1.size, ((a1[0]'h).toNat : Int) = bt a1 0 := bt_at a1 0; clear p30; have qi30 : (0 < (a1.size : Int)) = True := eq_true (of_decide_eq_true q_6); replace q30 := eq_true q30))
                      go_ret
                      exact ⟨q_10, q_1⟩
                    · rw [if_neg c29] at H
                      exact absurd H (by simp)
                  · replace c28 := Bool.eq_false_iff.mpr c28
                    subst c28
                    have H1 : (some false) = some r := by rw [if_neg (show ¬ (false = true) by decide)] at H; exact H
                    clear H
                    have H := H1
                    clear H1
                    obtain rfl := Option.some.inj H
                    go_wp2_with (first | ((with_reducible refine gate_callee (f := 64) rfl ?_); refine goesL_ (some 35) rfl rfl Tryd.func64 (by kernel_rfl) rfl #[.string a1, .string (⟨#[32]⟩ : ByteArray), .string (⟨#[]⟩ : ByteArray)] rfl q_2 ?_; (with_reducible refine (strings_ReplaceAll.calls a1 (⟨#[32]⟩ : ByteArray) (⟨#[]⟩ : ByteArray) t186 _ (GM.below HG.out q_1) A26.out).mono ?_); rintro e w33 ⟨rfl, hb⟩; refine ⟨_, rfl, ?_⟩; have n0_ := Aside0.mk (below_step q_1 hb); clear HB; have HB := n0_; clear n0_; (try clear hb); (try clear hb2); (try clear hk); (try clear hi)) | ((with_reducible refine gate_callee (f := 63) rfl ?_); refine goesL_ (some 36) rfl rfl Tryd.func63 (by kernel_rfl) rfl #[.string t186] rfl q_2 ?_; (with_reducible refine (line_Capitals.calls kj21 t186 false _ A27.out).mono ?_); rintro e w34 ⟨rfl, hb⟩; refine ⟨_, rfl, ?_⟩; have n0_ := Aside0.mk (below_step q_1 hb); clear HB; have HB := n0_; clear n0_; (try clear hb); (try clear hb2); (try clear hk); (try clear hi)))
                    go_ret
                    exact ⟨q_10, q_1⟩
                · replace c25 := Bool.eq_false_iff.mpr c25
                  subst c25
                  have H1 : (some false) = some r := by rw [if_neg (show ¬ (false = true) by decide)] at H; exact H
                  clear H
                  have H := H1
                  clear H1
                  obtain rfl := Option.some.inj H
                  go_wp2
                  go_ret
                  exact ⟨q_10, q_1⟩

end Go.Proofs.YtkhiiilfokijgaaDoor.PAll
