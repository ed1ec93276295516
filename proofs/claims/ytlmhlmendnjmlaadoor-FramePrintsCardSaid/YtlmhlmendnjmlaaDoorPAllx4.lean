/- Written by a program of this session: functions of the Go program as Lean functions, and the walks that tie them to it. -/
import Derived.Test.YtlmhlmendnjmlaaDoorPAllx0
import Derived.Test.YtlmhlmendnjmlaaDoorPAllx3
namespace Go.Proofs.YtlmhlmendnjmlaaDoor.PAll
open Go.RowKit Go.Proofs.YtlmhlmendnjmlaaDoorW.PrintWords Go.Proofs.YtlmhlmendnjmlaaDoorW.PrintLast Go.Proofs.YtlmhlmendnjmlaaDoorW.PrintMore
attribute [local go_sem] max2_int min2_int max_two min_two max_three min_three max_four min_four   -- for this text's walks alone
set_option linter.unusedVariables false
set_option linter.unusedSimpArgs false

/-! ### diacriticlaw11_Awake: function 42 -/
def diacriticlaw11_Awake.f (k : Nat)  : Option (Bool) := (unsync_Put.f k (⟨#[255, 224]⟩ : ByteArray)).bind fun t113 => (if t113.toList = ([255, 0, 224] : List UInt8) then ((unsync_Drop.f (⟨#[255, 0, 0]⟩ : ByteArray)).bind fun t114 => (if t114.toList = ([255, 0] : List UInt8) then ((unsync_Clean.f k (⟨#[255]⟩ : ByteArray)).bind fun t115 => (some (!t115))) else (some false))) else (some false))
theorem diacriticlaw11_Awake.mono : ∀ k, LeO (diacriticlaw11_Awake.f k ) (diacriticlaw11_Awake.f (k + 1) ) := by
  intro  k
  unfold diacriticlaw11_Awake.f
  repeat' first
      | (with_reducible exact unsync_Clean.mono _ _)
      | (with_reducible exact unsync_Put.mono _ _)
      | (with_reducible exact LeO.refl _)
      | (with_reducible exact LeO.none _)
      | (with_reducible refine LeO.ite ?_ ?_)
      | (with_reducible refine LeO.bind ?_ (fun _ => ?_))
      | exact unsync_Clean.mono _ _
      | exact unsync_Put.mono _ _
      | exact LeO.none _
      | refine LeO.ite ?_ ?_
      | refine LeO.bind ?_ (fun _ => ?_)
set_option maxHeartbeats 8000000 in
set_option maxRecDepth 100000 in
theorem diacriticlaw11_Awake.calls (k : Nat)  (r : Bool) (w : World) (hG : GM w) (h : diacriticlaw11_Awake.f k  = some r) :
    Calls Tryd.prog 42 #[] w fun e w' => e = .returned (.bool r) ∧ Below w.heap.size w w' := by
  have HB := Aside0.mk (Below.refl w.heap.size w)
  have HG := Aside0.mk hG
  clear hG
  have H : ((unsync_Put.f k (⟨#[255, 224]⟩ : ByteArray)).bind fun t113 => (if t113.toList = ([255, 0, 224] : List UInt8) then ((unsync_Drop.f (⟨#[255, 0, 0]⟩ : ByteArray)).bind fun t114 => (if t114.toList = ([255, 0] : List UInt8) then ((unsync_Clean.f k (⟨#[255]⟩ : ByteArray)).bind fun t115 => (some (!t115))) else (some false))) else (some false))) = some r := h
  clear h
  replace H := Option.bind_eq_some_iff.mp H
  obtain ⟨t113, A10, H⟩ := H
  replace H : (if t113.toList = ([255, 0, 224] : List UInt8) then ((unsync_Drop.f (⟨#[255, 0, 0]⟩ : ByteArray)).bind fun t114 => (if t114.toList = ([255, 0] : List UInt8) then ((unsync_Clean.f k (⟨#[255]⟩ : ByteArray)).bind fun t115 => (some (!t115))) else (some false))) else (some false)) = some r := H
  have A1 := Aside0.mk A10
  clear A10
  by_cases c2 : t113.toList = ([255, 0, 224] : List UInt8)
  · rw [if_pos c2] at H
    have c2b0 : (t113.toList == ([255, 0, 224] : List UInt8)) = true := beq_iff_eq.mpr c2
    have c2b1 : (t113.toList != ([255, 0, 224] : List UInt8)) = false := bne_eq_false_iff_eq.mpr c2
    clear c2
    replace H := Option.bind_eq_some_iff.mp H
    obtain ⟨t114, A30, H⟩ := H
    replace H : (if t114.toList = ([255, 0] : List UInt8) then ((unsync_Clean.f k (⟨#[255]⟩ : ByteArray)).bind fun t115 => (some (!t115))) else (some false)) = some r := H
    have A3 := Aside0.mk A30
    clear A30
    by_cases c4 : t114.toList = ([255, 0] : List UInt8)
    · rw [if_pos c4] at H
      have c4b0 : (t114.toList == ([255, 0] : List UInt8)) = true := beq_iff_eq.mpr c4
      have c4b1 : (t114.toList != ([255, 0] : List UInt8)) = false := bne_eq_false_iff_eq.mpr c4
      clear c4
      replace H := Option.bind_eq_some_iff.mp H
      obtain ⟨t115, A50, H⟩ := H
      replace H : (some (!t115)) = some r := H
      have A5 := Aside0.mk A50
      clear A50
      obtain rfl := Option.some.inj H
      go_enter Tryd.func42, Tryd.ntmps42
      go_wp2_with (first | ((with_reducible refine gate_callee (f := 11) rfl ?_); refine goesL_ (some 1) rfl rfl Tryd.func11 (by kernel_rfl) rfl #[.string (⟨#[255, 224]⟩ : ByteArray)] rfl q_7 ?_; (with_reducible refine (unsync_Put.calls k (⟨#[255, 224]⟩ : ByteArray) t113 _ A1.out).mono ?_); rintro e w6 ⟨rfl, hb⟩; refine ⟨_, rfl, ?_⟩; have n0_ := Aside0.mk (below_step q_3 hb); clear HB; have HB := n0_; clear n0_; (try clear hb); (try clear hb2); (try clear hk); (try clear hi)) | (go_at_call 12; (with_reducible refine (unsync_Drop.calls (⟨#[255, 0, 0]⟩ : ByteArray) t114 _ (GM.below HG.out q_3) A3.out).mono ?_); rintro e w7 ⟨rfl, hb⟩; have n0_ := Aside0.mk (below_step q_3 hb); clear HB; have HB := n0_; clear n0_; (try clear hb); (try clear hb2); (try clear hk); (try clear hi)) | (go_at_call 13; (with_reducible refine (unsync_Clean.calls k (⟨#[255]⟩ : ByteArray) t115 _ A5.out).mono ?_); rintro e w' ⟨rfl, ⟨nd, rfl⟩⟩))
      go_ret
      exact ⟨q_11, q_3⟩
    · rw [if_neg c4] at H
      have c4b0 : (t114.toList == ([255, 0] : List UInt8)) = false := beq_eq_false_iff_ne.mpr c4
      have c4b1 : (t114.toList != ([255, 0] : List UInt8)) = true := bne_iff_ne.mpr c4
      obtain rfl := Option.some.inj H
      go_enter Tryd.func42, Tryd.ntmps42
      go_wp2_with (first | ((with_reducible refine gate_callee (f := 11) rfl ?_); refine goesL_ (some 1) rfl rfl Tryd.func11 (by kernel_rfl) rfl #[.string (⟨#[255, 224]⟩ : ByteArray)] rfl q_7 ?_; (with_reducible refine (unsync_Put.calls k (⟨#[255, 224]⟩ : ByteArray) t113 _ A1.out).mono ?_); rintro e w8 ⟨rfl, hb⟩; refine ⟨_, rfl, ?_⟩; have n0_ := Aside0.mk (below_step q_3 hb); clear HB; have HB := n0_; clear n0_; (try clear hb); (try clear hb2); (try clear hk); (try clear hi)) | (go_at_call 12; (with_reducible refine (unsync_Drop.calls (⟨#[255, 0, 0]⟩ : ByteArray) t114 _ (GM.below HG.out q_3) A3.out).mono ?_); rintro e w9 ⟨rfl, hb⟩; have n0_ := Aside0.mk (below_step q_3 hb); clear HB; have HB := n0_; clear n0_; (try clear hb); (try clear hb2); (try clear hk); (try clear hi)))
      go_ret
      exact ⟨q_11, q_3⟩
  · rw [if_neg c2] at H
    have c2b0 : (t113.toList == ([255, 0, 224] : List UInt8)) = false := beq_eq_false_iff_ne.mpr c2
    have c2b1 : (t113.toList != ([255, 0, 224] : List UInt8)) = true := bne_iff_ne.mpr c2
    obtain rfl := Option.some.inj H
    go_enter Tryd.func42, Tryd.ntmps42
    go_wp2_with (first | ((with_reducible refine gate_callee (f := 11) rfl ?_); refine goesL_ (some 1) rfl rfl Tryd.func11 (by kernel_rfl) rfl #[.string (⟨#[255, 224]⟩ : ByteArray)] rfl q_7 ?_; (with_reducible refine (unsync_Put.calls k (⟨#[255, 224]⟩ : ByteArray) t113 _ A1.out).mono ?_); rintro e w10 ⟨rfl, hb⟩; refine ⟨_, rfl, ?_⟩; have n0_ := Aside0.mk (below_step q_3 hb); clear HB; have HB := n0_; clear n0_; (try clear hb); (try clear hb2); (try clear hk); (try clear hi)))
    go_ret
    exact ⟨q_11, q_3⟩

/-! ### diacriticlaw11_awake: function 10 -/
def diacriticlaw11_awake.f (k : Nat)  : Option (Bool) := (diacriticlaw11_Awake.f k).bind fun t116 => (some t116)
theorem diacriticlaw11_awake.mono : ∀ k, LeO (diacriticlaw11_awake.f k ) (diacriticlaw11_awake.f (k + 1) ) := by
  intro  k
  unfold diacriticlaw11_awake.f
  repeat' first
      | (with_reducible exact diacriticlaw11_Awake.mono _)
      | (with_reducible exact LeO.refl _)
      | (with_reducible exact LeO.none _)
      | (with_reducible refine LeO.ite ?_ ?_)
      | (with_reducible refine LeO.bind ?_ (fun _ => ?_))
      | exact diacriticlaw11_Awake.mono _
      | exact LeO.none _
      | refine LeO.ite ?_ ?_
      | refine LeO.bind ?_ (fun _ => ?_)
set_option maxHeartbeats 8000000 in
set_option maxRecDepth 100000 in
theorem diacriticlaw11_awake.calls (k : Nat)  (r : Bool) (w : World) (hG : GM w) (h : diacriticlaw11_awake.f k  = some r) :
    Calls Tryd.prog 10 #[] w fun e w' => e = .returned (.bool r) ∧ Below w.heap.size w w' := by
  have HB := Aside0.mk (Below.refl w.heap.size w)
  have HG := Aside0.mk hG
  clear hG
  have H : ((diacriticlaw11_Awake.f k).bind fun t116 => (some t116)) = some r := h
  clear h
  replace H := Option.bind_eq_some_iff.mp H
  obtain ⟨t116, A10, H⟩ := H
  replace H : (some t116) = some r := H
  have A1 := Aside0.mk A10
  clear A10
  obtain rfl := Option.some.inj H
  go_enter Tryd.func10, Tryd.ntmps10
  go_wp2_with (first | ((with_reducible refine gate_callee (f := 42) rfl ?_); refine goesL_ (some 1) rfl rfl Tryd.func42 (by kernel_rfl) rfl #[] rfl q_7 ?_; (with_reducible refine (diacriticlaw11_Awake.calls k  t116 _ (GM.below HG.out q_3) A1.out).mono ?_); rintro e w2 ⟨rfl, hb⟩; refine ⟨_, rfl, ?_⟩; have n0_ := Aside0.mk (below_step q_3 hb); clear HB; have HB := n0_; clear n0_; (try clear hb); (try clear hb2); (try clear hk); (try clear hi)))
  go_ret
  exact ⟨q_11, q_3⟩

end Go.Proofs.YtlmhlmendnjmlaaDoor.PAll
