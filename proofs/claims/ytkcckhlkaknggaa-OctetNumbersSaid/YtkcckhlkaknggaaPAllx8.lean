/- Written by a program of this session: functions of the Go program as Lean functions, and the walks that tie them to it. -/
import Derived.Test.YtkcckhlkaknggaaPAllx0
import Derived.Test.YtkcckhlkaknggaaPAllx2
import Derived.Test.YtkcckhlkaknggaaPAllx3
import Derived.Test.YtkcckhlkaknggaaPAllx6
import Derived.Test.YtkcckhlkaknggaaPAllx7
namespace Go.Proofs.Ytkcckhlkaknggaa.PAll
open Go.RowKit Go.Proofs.YtkcckhlkaknggaaW.PrintWords Go.Proofs.YtkcckhlkaknggaaW.PrintLast Go.Proofs.YtkcckhlkaknggaaW.PrintMore
attribute [local go_sem] max2_int min2_int max_two min_two max_three min_three max_four min_four   -- for this text's walks alone
set_option linter.unusedVariables false
set_option linter.unusedSimpArgs false

/-! ### diacriticlaw01_OctetNumbers: function 5 -/
mutual
def diacriticlaw01_OctetNumbers.j0 : Nat → Int → Int → ByteArray → ByteArray → Bool → Option (Bool)
  | 0, _, _, _, _, _ => none
  | k + 1, x0, x1, x5, x6, x34 => if x34 = true then (some false) else ((diacriticref01_Size.f x1).bind fun t197 => (if t197 < 8 then ((diacriticref01_Power.f k t197).bind fun t198 => (if t198 = 0 then (none) else (diacriticlaw01_OctetNumbers.j1 k x1 x5 x6 (Int.tmod x0 t198)))) else (diacriticlaw01_OctetNumbers.j1 k x1 x5 x6 x0)))
def diacriticlaw01_OctetNumbers.j1 : Nat → Int → ByteArray → ByteArray → Int → Option (Bool)
  | 0, _, _, _, _ => none
  | k + 1, x1, x5, x6, x7 => (octet_Read.f x5).bind fun bt199 => ((octet_Read.f x6).bind fun bt205 => ((diacriticlaw01_awake.f k).bind fun t211 => (if t211 = true then ((octet_In_Big.f bt199.1 bt199.2.1 bt199.2.2.1 bt199.2.2.2.1 bt199.2.2.2.2 x1).bind fun bt212 => (if bt212.1 = x7 then ((octet_In_Small.f bt205.1 bt205.2.1 bt205.2.2.1 bt205.2.2.2.1 bt205.2.2.2.2 x1).bind fun bt218 => (if bt218.1 = x7 then ((octet_In_Left.f bt212.2.1 bt212.2.2.1 bt212.2.2.2.1 bt212.2.2.2.2.1 bt212.2.2.2.2.2).bind fun bt224 => (if bt224.1 = 0 then ((octet_In_Fault.f bt224.2.1 bt224.2.2.1 bt224.2.2.2.1 bt224.2.2.2.2.1 bt224.2.2.2.2.2).bind fun bt230 => ((api_Fault_Bad.f bt230.1 bt230.2.1).bind fun t237 => (some (!t237)))) else (some false))) else (some false))) else (some false))) else (some false))))
end
def diacriticlaw01_OctetNumbers.f (k : Nat) (a0 : Int) (a1 : Int) : Option (Bool) := (octet_Big.f k a0 a1).bind fun t192 => ((octet_Small.f k a0 a1).bind fun t193 => ((diacriticref01_Big.f k a0 a1).bind fun t194 => (if t192.toList = t194.toList then ((diacriticref01_Small.f k a0 a1).bind fun t195 => (if t193.toList = t195.toList then ((diacriticref01_Back.f k t193).bind fun t196 => (diacriticlaw01_OctetNumbers.j0 k a0 a1 t192 t193 (t192.toList != t196.toList))) else (diacriticlaw01_OctetNumbers.j0 k a0 a1 t192 t193 true))) else (diacriticlaw01_OctetNumbers.j0 k a0 a1 t192 t193 true))))
theorem diacriticlaw01_OctetNumbers.mono_l : ∀ k, (∀ y0 y1 y2 y3 y4, LeO (diacriticlaw01_OctetNumbers.j0 k y0 y1 y2 y3 y4) (diacriticlaw01_OctetNumbers.j0 (k + 1) y0 y1 y2 y3 y4)) ∧ (∀ y0 y1 y2 y3, LeO (diacriticlaw01_OctetNumbers.j1 k y0 y1 y2 y3) (diacriticlaw01_OctetNumbers.j1 (k + 1) y0 y1 y2 y3))
  | 0 => ⟨fun _ _ _ _ _ r h => by simp [diacriticlaw01_OctetNumbers.j0] at h, fun _ _ _ _ r h => by simp [diacriticlaw01_OctetNumbers.j1] at h⟩
  | k + 1 => by
    obtain ⟨ih0, ih1⟩ := diacriticlaw01_OctetNumbers.mono_l k
    refine ⟨?_, ?_⟩
    · intro y0 y1 y2 y3 y4
      unfold diacriticlaw01_OctetNumbers.j0
      repeat' first
      | (with_reducible exact ih0 _ _ _ _ _)
      | (with_reducible exact ih1 _ _ _ _)
      | (with_reducible exact diacriticlaw01_awake.mono _)
      | (with_reducible exact diacriticref01_Back.mono _ _)
      | (with_reducible exact diacriticref01_Big.mono _ _ _)
      | (with_reducible exact diacriticref01_Power.mono _ _)
      | (with_reducible exact diacriticref01_Small.mono _ _ _)
      | (with_reducible exact octet_Big.mono _ _ _)
      | (with_reducible exact octet_Small.mono _ _ _)
      | (with_reducible exact LeO.refl _)
      | (with_reducible exact LeO.none _)
      | (with_reducible refine LeO.ite ?_ ?_)
      | (with_reducible refine LeO.bind ?_ (fun _ => ?_))
      | exact ih0 _ _ _ _ _
      | exact ih1 _ _ _ _
      | exact diacriticlaw01_awake.mono _
      | exact diacriticref01_Back.mono _ _
      | exact diacriticref01_Big.mono _ _ _
      | exact diacriticref01_Power.mono _ _
      | exact diacriticref01_Small.mono _ _ _
      | exact octet_Big.mono _ _ _
      | exact octet_Small.mono _ _ _
      | exact LeO.none _
      | refine LeO.ite ?_ ?_
      | refine LeO.bind ?_ (fun _ => ?_)
    · intro y0 y1 y2 y3
      unfold diacriticlaw01_OctetNumbers.j1
      repeat' first
      | (with_reducible exact ih0 _ _ _ _ _)
      | (with_reducible exact ih1 _ _ _ _)
      | (with_reducible exact diacriticlaw01_awake.mono _)
      | (with_reducible exact diacriticref01_Back.mono _ _)
      | (with_reducible exact diacriticref01_Big.mono _ _ _)
      | (with_reducible exact diacriticref01_Power.mono _ _)
      | (with_reducible exact diacriticref01_Small.mono _ _ _)
      | (with_reducible exact octet_Big.mono _ _ _)
      | (with_reducible exact octet_Small.mono _ _ _)
      | (with_reducible exact LeO.refl _)
      | (with_reducible exact LeO.none _)
      | (with_reducible refine LeO.ite ?_ ?_)
      | (with_reducible refine LeO.bind ?_ (fun _ => ?_))
      | exact ih0 _ _ _ _ _
      | exact ih1 _ _ _ _
      | exact diacriticlaw01_awake.mono _
      | exact diacriticref01_Back.mono _ _
      | exact diacriticref01_Big.mono _ _ _
      | exact diacriticref01_Power.mono _ _
      | exact diacriticref01_Small.mono _ _ _
      | exact octet_Big.mono _ _ _
      | exact octet_Small.mono _ _ _
      | exact LeO.none _
      | refine LeO.ite ?_ ?_
      | refine LeO.bind ?_ (fun _ => ?_)
theorem diacriticlaw01_OctetNumbers.mono : ∀ a0 a1 k, LeO (diacriticlaw01_OctetNumbers.f k a0 a1) (diacriticlaw01_OctetNumbers.f (k + 1) a0 a1) := by
  intro a0 a1 k
  obtain ⟨ih0, ih1⟩ := diacriticlaw01_OctetNumbers.mono_l k
  unfold diacriticlaw01_OctetNumbers.f
  repeat' first
      | (with_reducible exact ih0 _ _ _ _ _)
      | (with_reducible exact ih1 _ _ _ _)
      | (with_reducible exact diacriticlaw01_awake.mono _)
      | (with_reducible exact diacriticref01_Back.mono _ _)
      | (with_reducible exact diacriticref01_Big.mono _ _ _)
      | (with_reducible exact diacriticref01_Power.mono _ _)
      | (with_reducible exact diacriticref01_Small.mono _ _ _)
      | (with_reducible exact octet_Big.mono _ _ _)
      | (with_reducible exact octet_Small.mono _ _ _)
      | (with_reducible exact LeO.refl _)
      | (with_reducible exact LeO.none _)
      | (with_reducible refine LeO.ite ?_ ?_)
      | (with_reducible refine LeO.bind ?_ (fun _ => ?_))
      | exact ih0 _ _ _ _ _
      | exact ih1 _ _ _ _
      | exact diacriticlaw01_awake.mono _
      | exact diacriticref01_Back.mono _ _
      | exact diacriticref01_Big.mono _ _ _
      | exact diacriticref01_Power.mono _ _
      | exact diacriticref01_Small.mono _ _ _
      | exact octet_Big.mono _ _ _
      | exact octet_Small.mono _ _ _
      | exact LeO.none _
      | refine LeO.ite ?_ ?_
      | refine LeO.bind ?_ (fun _ => ?_)
set_option maxHeartbeats 8000000 in
set_option maxRecDepth 100000 in
theorem diacriticlaw01_OctetNumbers.calls (k : Nat) (a0 : Int) (a1 : Int) (r : Bool) (w : World) (h : diacriticlaw01_OctetNumbers.f k a0 a1 = some r) :
    Calls Try.prog 5 #[.int .u64 a0, .int .i64 a1] w fun e w' => e = .returned (.bool r) ∧ Below w.heap.size w w' := by
  have HB := Aside0.mk (Below.refl w.heap.size w)
  have H : ((octet_Big.f k a0 a1).bind fun t192 => ((octet_Small.f k a0 a1).bind fun t193 => ((diacriticref01_Big.f k a0 a1).bind fun t194 => (if t192.toList = t194.toList then ((diacriticref01_Small.f k a0 a1).bind fun t195 => (if t193.toList = t195.toList then ((diacriticref01_Back.f k t193).bind fun t196 => (diacriticlaw01_OctetNumbers.j0 k a0 a1 t192 t193 (t192.toList != t196.toList))) else (diacriticlaw01_OctetNumbers.j0 k a0 a1 t192 t193 true))) else (diacriticlaw01_OctetNumbers.j0 k a0 a1 t192 t193 true))))) = some r := h
  clear h
  replace H := Option.bind_eq_some_iff.mp H
  obtain ⟨t192, A30, H⟩ := H
  replace H : ((octet_Small.f k a0 a1).bind fun t193 => ((diacriticref01_Big.f k a0 a1).bind fun t194 => (if t192.toList = t194.toList then ((diacriticref01_Small.f k a0 a1).bind fun t195 => (if t193.toList = t195.toList then ((diacriticref01_Back.f k t193).bind fun t196 => (diacriticlaw01_OctetNumbers.j0 k a0 a1 t192 t193 (t192.toList != t196.toList))) else (diacriticlaw01_OctetNumbers.j0 k a0 a1 t192 t193 true))) else (diacriticlaw01_OctetNumbers.j0 k a0 a1 t192 t193 true)))) = some r := H
  have A3 := Aside0.mk A30
  clear A30
  replace H := Option.bind_eq_some_iff.mp H
  obtain ⟨t193, A40, H⟩ := H
  replace H : ((diacriticref01_Big.f k a0 a1).bind fun t194 => (if t192.toList = t194.toList then ((diacriticref01_Small.f k a0 a1).bind fun t195 => (if t193.toList = t195.toList then ((diacriticref01_Back.f k t193).bind fun t196 => (diacriticlaw01_OctetNumbers.j0 k a0 a1 t192 t193 (t192.toList != t196.toList))) else (diacriticlaw01_OctetNumbers.j0 k a0 a1 t192 t193 true))) else (diacriticlaw01_OctetNumbers.j0 k a0 a1 t192 t193 true))) = some r := H
  have A4 := Aside0.mk A40
  clear A40
  have HC5 := Aside0.mk H
  clear H
  go_enter Try.func5, Try.ntmps5
  go_upto_region 2 with (first | ((with_reducible refine gate_callee (f := 21) rfl ?_); refine goesL_ (some 13) rfl rfl Try.func21 (by kernel_rfl) rfl #[.int .u64 a0, .int .i64 a1] rfl (by (try simp only [List.map_toArray, List.map_cons, List.map_nil]); first | done | rfl | (simp only [List.length_drop, List.length_take]; rfl)) ?_; (with_reducible refine (octet_Big.calls k a0 a1 t192 _ A3.out).mono ?_); rintro e w6 ⟨rfl, hb⟩; refine ⟨_, rfl, ?_⟩; have n0_ := Aside0.mk (below_step (by repeat (first | (with_reducible first | exact HB.out | apply below_alloc | apply pw_below_drewN | apply below_drew1) | exact HB.out)) hb); clear HB; have HB := n0_; clear n0_; (try clear hb); (try clear hb2); (try clear hk); (try clear hi)) | ((with_reducible refine gate_callee (f := 22) rfl ?_); refine goesL_ (some 16) rfl rfl Try.func22 (by kernel_rfl) rfl #[.int .u64 a0, .int .i64 a1] rfl (by (try simp only [List.map_toArray, List.map_cons, List.map_nil]); first | done | rfl | (simp only [List.length_drop, List.length_take]; rfl)) ?_; (with_reducible refine (octet_Small.calls k a0 a1 t193 _ A4.out).mono ?_); rintro e w7 ⟨rfl, hb⟩; refine ⟨_, rfl, ?_⟩; have n0_ := Aside0.mk (below_step (by repeat (first | (with_reducible first | exact HB.out | apply below_alloc | apply pw_below_drewN | apply below_drew1) | exact HB.out)) hb); clear HB; have HB := n0_; clear n0_; (try clear hb); (try clear hb2); (try clear hk); (try clear hi)))
  (try simp only [Act.put, List.setIfInBounds_toArray, List.set_cons_zero, List.set_cons_succ])
  go_cut [34] (fun v34 wc => ∃ (kq : Nat) (x34_4 : Bool), v34 = .bool x34_4 ∧ Aside0 (diacriticlaw01_OctetNumbers.j0 kq a0 a1 t192 t193 x34_4 = some r) ∧ Aside0 (kq ≤ k) ∧ Aside0 (Below w.heap.size w wc))
  case first =>
    have H := HC5.out
    clear HC5
    replace H := Option.bind_eq_some_iff.mp H
    obtain ⟨t194, A80, H⟩ := H
    replace H : (if t192.toList = t194.toList then ((diacriticref01_Small.f k a0 a1).bind fun t195 => (if t193.toList = t195.toList then ((diacriticref01_Back.f k t193).bind fun t196 => (diacriticlaw01_OctetNumbers.j0 k a0 a1 t192 t193 (t192.toList != t196.toList))) else (diacriticlaw01_OctetNumbers.j0 k a0 a1 t192 t193 true))) else (diacriticlaw01_OctetNumbers.j0 k a0 a1 t192 t193 true)) = some r := H
    have A8 := Aside0.mk A80
    clear A80
    by_cases c9 : t192.toList = t194.toList
    · rw [if_pos c9] at H
      have c9b0 : (t192.toList == t194.toList) = true := beq_iff_eq.mpr c9
      have c9b1 : (t192.toList != t194.toList) = false := bne_eq_false_iff_eq.mpr c9
      clear c9
      (first | rw [c9b0] | (simp only [i64_w, i32_w]; rw [c9b0]) | skip)
      replace H := Option.bind_eq_some_iff.mp H
      obtain ⟨t195, A100, H⟩ := H
      replace H : (if t193.toList = t195.toList then ((diacriticref01_Back.f k t193).bind fun t196 => (diacriticlaw01_OctetNumbers.j0 k a0 a1 t192 t193 (t192.toList != t196.toList))) else (diacriticlaw01_OctetNumbers.j0 k a0 a1 t192 t193 true)) = some r := H
      have A10 := Aside0.mk A100
      clear A100
      by_cases c11 : t193.toList = t195.toList
      · rw [if_pos c11] at H
        have c11b0 : (t193.toList == t195.toList) = true := beq_iff_eq.mpr c11
        have c11b1 : (t193.toList != t195.toList) = false := bne_eq_false_iff_eq.mpr c11
        clear c11
        replace H := Option.bind_eq_some_iff.mp H
        obtain ⟨t196, A120, H⟩ := H
        replace H : (diacriticlaw01_OctetNumbers.j0 k a0 a1 t192 t193 (t192.toList != t196.toList)) = some r := H
        have A12 := Aside0.mk A120
        clear A120
        have H' := Aside0.mk H
        clear H
        go_wp2_with (first | ((with_reducible refine gate_callee (f := 23) rfl ?_); refine goesL_ (some 20) rfl rfl Try.func23 (by kernel_rfl) rfl #[.int .u64 a0, .int .i64 a1] rfl (by (try simp only [List.map_toArray, List.map_cons, List.map_nil]); first | done | rfl | (simp only [List.length_drop, List.length_take]; rfl)) ?_; (with_reducible refine (diacriticref01_Big.calls k a0 a1 t194 _ A8.out).mono ?_); rintro e w13 ⟨rfl, hb⟩; refine ⟨_, rfl, ?_⟩; have n0_ := Aside0.mk (below_step (by repeat (first | (with_reducible first | exact HB.out | apply below_alloc | apply pw_below_drewN | apply below_drew1) | exact HB.out)) hb); clear HB; have HB := n0_; clear n0_; (try clear hb); (try clear hb2); (try clear hk); (try clear hi)) | (go_at_call 24; (with_reducible refine (diacriticref01_Small.calls k a0 a1 t195 _ A10.out).mono ?_); rintro e w14 ⟨rfl, hb⟩; have n0_ := Aside0.mk (below_step (by repeat (first | (with_reducible first | exact HB.out | apply below_alloc | apply pw_below_drewN | apply below_drew1) | exact HB.out)) hb); clear HB; have HB := n0_; clear n0_; (try clear hb); (try clear hb2); (try clear hk); (try clear hi)) | (go_at_call 25; (with_reducible refine (diacriticref01_Back.calls k t193 t196 _ A12.out).mono ?_); rintro e w' ⟨rfl, ⟨nd, rfl⟩⟩))
        go_meet
        case rel => exact ⟨_, ((t192.toList != t196.toList)), (by first | rfl | (simp; done) | (simp [*]; done) | (simp [beq_nil_isEmpty, bne_nil_isEmpty]; done)), H', ⟨by first | omega | exact Nat.le_refl _⟩, ⟨by repeat (first | (with_reducible first | exact HB.out | apply below_alloc | apply pw_below_drewN | apply below_drew1) | exact HB.out)⟩⟩
      · rw [if_neg c11] at H
        have c11b0 : (t193.toList == t195.toList) = false := beq_eq_false_iff_ne.mpr c11
        have c11b1 : (t193.toList != t195.toList) = true := bne_iff_ne.mpr c11
        have H' := Aside0.mk H
        clear H
        go_wp2_with (first | ((with_reducible refine gate_callee (f := 23) rfl ?_); refine goesL_ (some 20) rfl rfl Try.func23 (by kernel_rfl) rfl #[.int .u64 a0, .int .i64 a1] rfl (by (try simp only [List.map_toArray, List.map_cons, List.map_nil]); first | done | rfl | (simp only [List.length_drop, List.length_take]; rfl)) ?_; (with_reducible refine (diacriticref01_Big.calls k a0 a1 t194 _ A8.out).mono ?_); rintro e w15 ⟨rfl, hb⟩; refine ⟨_, rfl, ?_⟩; have n0_ := Aside0.mk (below_step (by repeat (first | (with_reducible first | exact HB.out | apply below_alloc | apply pw_below_drewN | apply below_drew1) | exact HB.out)) hb); clear HB; have HB := n0_; clear n0_; (try clear hb); (try clear hb2); (try clear hk); (try clear hi)) | (go_at_call 24; (with_reducible refine (diacriticref01_Small.calls k a0 a1 t195 _ A10.out).mono ?_); rintro e w16 ⟨rfl, hb⟩; have n0_ := Aside0.mk (below_step (by repeat (first | (with_reducible first | exact HB.out | apply below_alloc | apply pw_below_drewN | apply below_drew1) | exact HB.out)) hb); clear HB; have HB := n0_; clear n0_; (try clear hb); (try clear hb2); (try clear hk); (try clear hi)))
        go_meet
        case rel => exact ⟨_, (true), (by first | rfl | (simp; done) | (simp [*]; done) | (simp [beq_nil_isEmpty, bne_nil_isEmpty]; done)), H', ⟨by first | omega | exact Nat.le_refl _⟩, ⟨by repeat (first | (with_reducible first | exact HB.out | apply below_alloc | apply pw_below_drewN | apply below_drew1) | exact HB.out)⟩⟩
    · rw [if_neg c9] at H
      have c9b0 : (t192.toList == t194.toList) = false := beq_eq_false_iff_ne.mpr c9
      have c9b1 : (t192.toList != t194.toList) = true := bne_iff_ne.mpr c9
      (first | rw [c9b0] | (simp only [i64_w, i32_w]; rw [c9b0]) | skip)
      have H' := Aside0.mk H
      clear H
      go_wp2_with (first | ((with_reducible refine gate_callee (f := 23) rfl ?_); refine goesL_ (some 20) rfl rfl Try.func23 (by kernel_rfl) rfl #[.int .u64 a0, .int .i64 a1] rfl (by (try simp only [List.map_toArray, List.map_cons, List.map_nil]); first | done | rfl | (simp only [List.length_drop, List.length_take]; rfl)) ?_; (with_reducible refine (diacriticref01_Big.calls k a0 a1 t194 _ A8.out).mono ?_); rintro e w17 ⟨rfl, hb⟩; refine ⟨_, rfl, ?_⟩; have n0_ := Aside0.mk (below_step (by repeat (first | (with_reducible first | exact HB.out | apply below_alloc | apply pw_below_drewN | apply below_drew1) | exact HB.out)) hb); clear HB; have HB := n0_; clear n0_; (try clear hb); (try clear hb2); (try clear hk); (try clear hi)))
      go_meet
      case rel => exact ⟨_, (true), (by first | rfl | (simp; done) | (simp [*]; done) | (simp [beq_nil_isEmpty, bne_nil_isEmpty]; done)), H', ⟨by first | omega | exact Nat.le_refl _⟩, ⟨by repeat (first | (with_reducible first | exact HB.out | apply below_alloc | apply pw_below_drewN | apply below_drew1) | exact HB.out)⟩⟩
  case rest =>
    clear HC5
    try clear c1
    try clear c2
    try clear p2
    try clear c5
    try clear c9
    try clear c9b0
    try clear c9b1
    try clear c11
    try clear c11b0
    try clear c11b1
    obtain ⟨kq, x34_4, rfl, HA, HJ4, HB⟩ := hcut
    cases kq with
    | zero => exact absurd HA.out (by simp [diacriticlaw01_OctetNumbers.j0])
    | succ kj4 =>
      have H := HA.out
      clear HA
      simp only [diacriticlaw01_OctetNumbers.j0] at H
      by_cases c18 : x34_4 = true
      · subst c18
        have H1 : (some false) = some r := by rw [if_pos rfl] at H; exact H
        clear H
        have H := H1
        clear H1
        obtain rfl := Option.some.inj H
        go_wp2
        go_ret
        exact ⟨by first | rfl | (simp [errW_none, errW_some] <;> rfl) | (simp [*, errW_none, errW_some] <;> rfl), by repeat (first | (with_reducible first | exact HB.out | apply below_alloc | apply pw_below_drewN | apply below_drew1) | exact HB.out)⟩
      · replace c18 := Bool.eq_false_iff.mpr c18
        subst c18
        have H1 : ((diacriticref01_Size.f a1).bind fun t197 => (if t197 < 8 then ((diacriticref01_Power.f kj4 t197).bind fun t198 => (if t198 = 0 then (none) else (diacriticlaw01_OctetNumbers.j1 kj4 a1 t192 t193 (Int.tmod a0 t198)))) else (diacriticlaw01_OctetNumbers.j1 kj4 a1 t192 t193 a0))) = some r := by rw [if_neg (show ¬ (false = true) by decide)] at H; exact H
        clear H
        have H := H1
        clear H1
        replace H := Option.bind_eq_some_iff.mp H
        obtain ⟨t197, A190, H⟩ := H
        replace H : (if t197 < 8 then ((diacriticref01_Power.f kj4 t197).bind fun t198 => (if t198 = 0 then (none) else (diacriticlaw01_OctetNumbers.j1 kj4 a1 t192 t193 (Int.tmod a0 t198)))) else (diacriticlaw01_OctetNumbers.j1 kj4 a1 t192 t193 a0)) = some r := H
        have A19 := Aside0.mk A190
        clear A190
        have HC20 := Aside0.mk H
        clear H
        go_upto_if 39 with (first | ((with_reducible refine gate_callee (f := 26) rfl ?_); refine goesL_ (some 37) rfl rfl Try.func26 (by kernel_rfl) rfl #[.int .i64 a1] rfl (by (try simp only [List.map_toArray, List.map_cons, List.map_nil]); first | done | rfl | (simp only [List.length_drop, List.length_take]; rfl)) ?_; (with_reducible refine (diacriticref01_Size.calls a1 t197 _ A19.out).mono ?_); rintro e w' ⟨rfl, ⟨nd, rfl⟩⟩; refine ⟨_, rfl, ?_⟩))
        (try simp only [Act.put, List.setIfInBounds_toArray, List.set_cons_zero, List.set_cons_succ])
        go_cut [7] (fun v7 wc => ∃ (kq : Nat) (x7_19 : Int), v7 = .int .u64 x7_19 ∧ Aside0 (diacriticlaw01_OctetNumbers.j1 kq a1 t192 t193 x7_19 = some r) ∧ Aside0 (kq ≤ kj4) ∧ Aside0 (Below w.heap.size w wc))
        case first =>
          have H := HC20.out
          clear HC20
          by_cases c21 : t197 < 8
          · rw [if_pos c21] at H
            have c21b0 : decide (t197 < 8) = true := decide_eq_true c21
            clear c21
            (first | rw [c21b0] | (simp only [i64_w, i32_w]; rw [c21b0]) | skip)
            replace H := Option.bind_eq_some_iff.mp H
            obtain ⟨t198, A220, H⟩ := H
            replace H : (if t198 = 0 then (none) else (diacriticlaw01_OctetNumbers.j1 kj4 a1 t192 t193 (Int.tmod a0 t198))) = some r := H
            have A22 := Aside0.mk A220
            clear A220
            by_cases c23 : t198 = 0
            · rw [if_pos c23] at H
              exact absurd H (by simp)
            · rw [if_neg c23] at H
              have c23b0 : (t198 == 0) = false := beq_eq_false_iff_ne.mpr c23
              have c23b1 : (t198 != 0) = true := bne_iff_ne.mpr c23
              have H' := Aside0.mk H
              clear H
              go_wp2_with (first | ((with_reducible refine gate_callee (f := 27) rfl ?_); refine goesL_ (some 42) rfl rfl Try.func27 (by kernel_rfl) rfl #[.int .i64 t197] rfl (by (try simp only [List.map_toArray, List.map_cons, List.map_nil]); first | done | rfl | (simp only [List.length_drop, List.length_take]; rfl)) ?_; (with_reducible refine (diacriticref01_Power.calls kj4 t197 t198 _ A22.out).mono ?_); rintro e w' ⟨rfl, ⟨nd, rfl⟩⟩; refine ⟨_, rfl, ?_⟩))
              go_meet
              case rel => exact ⟨_, (Int.tmod a0 t198), (by first | rfl | (simp; done) | (simp [*]; done) | (simp [beq_nil_isEmpty, bne_nil_isEmpty]; done)), H', ⟨by have := HJ4.out; first | omega | exact Nat.le_refl _⟩, ⟨by repeat (first | (with_reducible first | exact HB.out | apply below_alloc | apply pw_below_drewN | apply below_drew1) | exact HB.out)⟩⟩
          · rw [if_neg c21] at H
            have c21b0 : decide (t197 < 8) = false := decide_eq_false c21
            clear c21
            (first | rw [c21b0] | (simp only [i64_w, i32_w]; rw [c21b0]) | skip)
            have H' := Aside0.mk H
            clear H
            go_wp2
            go_meet
            case rel => exact ⟨_, (a0), (by first | rfl | (simp; done) | (simp [*]; done) | (simp [beq_nil_isEmpty, bne_nil_isEmpty]; done)), H', ⟨by have := HJ4.out; first | omega | exact Nat.le_refl _⟩, ⟨by repeat (first | (with_reducible first | exact HB.out | apply below_alloc | apply pw_below_drewN | apply below_drew1) | exact HB.out)⟩⟩
        case rest =>
          clear HC20
          try clear c1
          try clear c2
          try clear p2
          try clear c5
          try clear c9
          try clear c9b0
          try clear c9b1
          try clear c11
          try clear c11b0
          try clear c11b1
          try clear c18
          try clear c21
          try clear c21b0
          try clear c22
          try clear c23
          try clear c23b0
          try clear c23b1
          try clear p2
          obtain ⟨kq, x7_19, rfl, HA, HJ19, HB⟩ := hcut
          cases kq with
          | zero => exact absurd HA.out (by simp [diacriticlaw01_OctetNumbers.j1])
          | succ kj19 =>
            have H := HA.out
            clear HA
            simp only [diacriticlaw01_OctetNumbers.j1] at H
            replace H := Option.bind_eq_some_iff.mp H
            obtain ⟨⟨t199, t200, t201, t202, t203⟩, A240, H⟩ := H
            replace H : ((octet_Read.f t193).bind fun bt205 => ((diacriticlaw01_awake.f kj19).bind fun t211 => (if t211 = true then ((octet_In_Big.f t199 t200 t201 t202 t203 a1).bind fun bt212 => (if bt212.1 = x7_19 then ((octet_In_Small.f bt205.1 bt205.2.1 bt205.2.2.1 bt205.2.2.2.1 bt205.2.2.2.2 a1).bind fun bt218 => (if bt218.1 = x7_19 then ((octet_In_Left.f bt212.2.1 bt212.2.2.1 bt212.2.2.2.1 bt212.2.2.2.2.1 bt212.2.2.2.2.2).bind fun bt224 => (if bt224.1 = 0 then ((octet_In_Fault.f bt224.2.1 bt224.2.2.1 bt224.2.2.2.1 bt224.2.2.2.2.1 bt224.2.2.2.2.2).bind fun bt230 => ((api_Fault_Bad.f bt230.1 bt230.2.1).bind fun t237 => (some (!t237)))) else (some false))) else (some false))) else (some false))) else (some false)))) = some r := H
            have A24 := Aside0.mk A240
            clear A240
            replace H := Option.bind_eq_some_iff.mp H
            obtain ⟨⟨t205, t206, t207, t208, t209⟩, A250, H⟩ := H
            replace H : ((diacriticlaw01_awake.f kj19).bind fun t211 => (if t211 = true then ((octet_In_Big.f t199 t200 t201 t202 t203 a1).bind fun bt212 => (if bt212.1 = x7_19 then ((octet_In_Small.f t205 t206 t207 t208 t209 a1).bind fun bt218 => (if bt218.1 = x7_19 then ((octet_In_Left.f bt212.2.1 bt212.2.2.1 bt212.2.2.2.1 bt212.2.2.2.2.1 bt212.2.2.2.2.2).bind fun bt224 => (if bt224.1 = 0 then ((octet_In_Fault.f bt224.2.1 bt224.2.2.1 bt224.2.2.2.1 bt224.2.2.2.2.1 bt224.2.2.2.2.2).bind fun bt230 => ((api_Fault_Bad.f bt230.1 bt230.2.1).bind fun t237 => (some (!t237)))) else (some false))) else (some false))) else (some false))) else (some false))) = some r := H
            have A25 := Aside0.mk A250
            clear A250
            replace H := Option.bind_eq_some_iff.mp H
            obtain ⟨t211, A260, H⟩ := H
            replace H : (if t211 = true then ((octet_In_Big.f t199 t200 t201 t202 t203 a1).bind fun bt212 => (if bt212.1 = x7_19 then ((octet_In_Small.f t205 t206 t207 t208 t209 a1).bind fun bt218 => (if bt218.1 = x7_19 then ((octet_In_Left.f bt212.2.1 bt212.2.2.1 bt212.2.2.2.1 bt212.2.2.2.2.1 bt212.2.2.2.2.2).bind fun bt224 => (if bt224.1 = 0 then ((octet_In_Fault.f bt224.2.1 bt224.2.2.1 bt224.2.2.2.1 bt224.2.2.2.2.1 bt224.2.2.2.2.2).bind fun bt230 => ((api_Fault_Bad.f bt230.1 bt230.2.1).bind fun t237 => (some (!t237)))) else (some false))) else (some false))) else (some false))) else (some false)) = some r := H
            have A26 := Aside0.mk A260
            clear A260
            by_cases c27 : t211 = true
            · subst c27
              have H1 : ((octet_In_Big.f t199 t200 t201 t202 t203 a1).bind fun bt212 => (if bt212.1 = x7_19 then ((octet_In_Small.f t205 t206 t207 t208 t209 a1).bind fun bt218 => (if bt218.1 = x7_19 then ((octet_In_Left.f bt212.2.1 bt212.2.2.1 bt212.2.2.2.1 bt212.2.2.2.2.1 bt212.2.2.2.2.2).bind fun bt224 => (if bt224.1 = 0 then ((octet_In_Fault.f bt224.2.1 bt224.2.2.1 bt224.2.2.2.1 bt224.2.2.2.2.1 bt224.2.2.2.2.2).bind fun bt230 => ((api_Fault_Bad.f bt230.1 bt230.2.1).bind fun t237 => (some (!t237)))) else (some false))) else (some false))) else (some false))) = some r := by rw [if_pos rfl] at H; exact H
              clear H
              have H := H1
              clear H1
              replace H := Option.bind_eq_some_iff.mp H
              obtain ⟨⟨t212, t213, t214, t215, t216, t217⟩, A280, H⟩ := H
              replace H : (if t212 = x7_19 then ((octet_In_Small.f t205 t206 t207 t208 t209 a1).bind fun bt218 => (if bt218.1 = x7_19 then ((octet_In_Left.f t213 t214 t215 t216 t217).bind fun bt224 => (if bt224.1 = 0 then ((octet_In_Fault.f bt224.2.1 bt224.2.2.1 bt224.2.2.2.1 bt224.2.2.2.2.1 bt224.2.2.2.2.2).bind fun bt230 => ((api_Fault_Bad.f bt230.1 bt230.2.1).bind fun t237 => (some (!t237)))) else (some false))) else (some false))) else (some false)) = some r := H
              have A28 := Aside0.mk A280
              clear A280
              by_cases c29 : t212 = x7_19
              · rw [if_pos c29] at H
                have c29b0 : (t212 == x7_19) = true := beq_iff_eq.mpr c29
                have c29b1 : (t212 != x7_19) = false := bne_eq_false_iff_eq.mpr c29
                clear c29
                replace H := Option.bind_eq_some_iff.mp H
                obtain ⟨⟨t218, t219, t220, t221, t222, t223⟩, A300, H⟩ := H
                replace H : (if t218 = x7_19 then ((octet_In_Left.f t213 t214 t215 t216 t217).bind fun bt224 => (if bt224.1 = 0 then ((octet_In_Fault.f bt224.2.1 bt224.2.2.1 bt224.2.2.2.1 bt224.2.2.2.2.1 bt224.2.2.2.2.2).bind fun bt230 => ((api_Fault_Bad.f bt230.1 bt230.2.1).bind fun t237 => (some (!t237)))) else (some false))) else (some false)) = some r := H
                have A30 := Aside0.mk A300
                clear A300
                by_cases c31 : t218 = x7_19
                · rw [if_pos c31] at H
                  have c31b0 : (t218 == x7_19) = true := beq_iff_eq.mpr c31
                  have c31b1 : (t218 != x7_19) = false := bne_eq_false_iff_eq.mpr c31
                  clear c31
                  replace H := Option.bind_eq_some_iff.mp H
                  obtain ⟨⟨t224, t225, t226, t227, t228, t229⟩, A320, H⟩ := H
                  replace H : (if t224 = 0 then ((octet_In_Fault.f t225 t226 t227 t228 t229).bind fun bt230 => ((api_Fault_Bad.f bt230.1 bt230.2.1).bind fun t237 => (some (!t237)))) else (some false)) = some r := H
                  have A32 := Aside0.mk A320
                  clear A320
                  by_cases c33 : t224 = 0
                  · rw [if_pos c33] at H
                    have c33b0 : (t224 == 0) = true := beq_iff_eq.mpr c33
                    have c33b1 : (t224 != 0) = false := bne_eq_false_iff_eq.mpr c33
                    clear c33
                    replace H := Option.bind_eq_some_iff.mp H
                    obtain ⟨⟨t230, t231, t232, t233, t234, t235, t236⟩, A340, H⟩ := H
                    replace H : ((api_Fault_Bad.f t230 t231).bind fun t237 => (some (!t237))) = some r := H
                    have A34 := Aside0.mk A340
                    clear A340
                    replace H := Option.bind_eq_some_iff.mp H
                    obtain ⟨t237, A350, H⟩ := H
                    replace H : (some (!t237)) = some r := H
                    have A35 := Aside0.mk A350
                    clear A350
                    obtain rfl := Option.some.inj H
                    go_wp2_with (first | ((with_reducible refine gate_callee (f := 14) rfl ?_); refine goesL_ (some 45) rfl rfl Try.func14 (by kernel_rfl) rfl #[.string t192] rfl (by (try simp only [List.map_toArray, List.map_cons, List.map_nil]); first | done | rfl | (simp only [List.length_drop, List.length_take]; rfl)) ?_; (with_reducible refine (octet_Read.calls t192 t199 t200 t201 t202 t203 w _ ?side1 A24.out).mono ?_); (case side1 => repeat (first | (with_reducible first | exact HB.out | apply below_alloc | apply pw_below_drewN | apply below_drew1) | exact HB.out)); rintro e w36 ⟨g204, rfl, hi, hb, hb2⟩; refine ⟨_, rfl, ?_⟩; have n0_ := Aside0.mk (hb); have n1_ := Aside0.mk (hi); clear HB; have HB := n0_; have HI204 := n1_; clear n0_ n1_; (try clear hb); (try clear hb2); (try clear hk); (try clear hi)) | ((with_reducible refine gate_callee (f := 14) rfl ?_); refine goesL_ (some 47) rfl rfl Try.func14 (by kernel_rfl) rfl #[.string t193] rfl (by (try simp only [List.map_toArray, List.map_cons, List.map_nil]); first | done | rfl | (simp only [List.length_drop, List.length_take]; rfl)) ?_; (with_reducible refine (octet_Read.calls t193 t205 t206 t207 t208 t209 _ _ (Below.refl _ _) A25.out).mono ?_); rintro e w37 ⟨g210, rfl, hi, hb, hb2⟩; refine ⟨_, rfl, ?_⟩; have n0_ := Aside0.mk (IsS68.below (by repeat (first | (with_reducible first | exact HI204.out | apply IsS68.alloc | apply IsS68.drewN | apply IsS68.drew | apply IsS68.set_0 | apply IsS68.set_1 | apply IsS68.set_2 | apply IsS68.set_3 | apply IsS68.set_4) | exact HI204.out)) hb2); have n1_ := Aside0.mk (below_step (by repeat (first | (with_reducible first | exact HB.out | apply below_alloc | apply pw_below_drewN | apply below_drew1 | refine below_set ?_ (IsS68.ge HI204.out)) | exact HB.out)) hb2); have n2_ := Aside0.mk (IsS68.lower hi (below_size (by repeat (first | (with_reducible first | exact HB.out | apply below_alloc | apply pw_below_drewN | apply below_drew1 | refine below_set ?_ (IsS68.ge HI204.out)) | exact HB.out)))); have n3_ := Aside0.mk ((Nat.ne_of_lt (Nat.lt_of_lt_of_le (IsS68.lt (by repeat (first | (with_reducible first | exact HI204.out | apply IsS68.alloc | apply IsS68.drewN | apply IsS68.drew | apply IsS68.set_0 | apply IsS68.set_1 | apply IsS68.set_2 | apply IsS68.set_3 | apply IsS68.set_4) | exact HI204.out))) (IsS68.ge hi)) : g204 ≠ g210)); have n4_ := Aside0.mk ((Nat.ne_of_gt (Nat.lt_of_lt_of_le (IsS68.lt (by repeat (first | (with_reducible first | exact HI204.out | apply IsS68.alloc | apply IsS68.drewN | apply IsS68.drew | apply IsS68.set_0 | apply IsS68.set_1 | apply IsS68.set_2 | apply IsS68.set_3 | apply IsS68.set_4) | exact HI204.out))) (IsS68.ge hi)) : g210 ≠ g204)); clear HI204; clear HB; have HI204 := n0_; have HB := n1_; have HI210 := n2_; have NB204_210 := n3_; have NB210_204 := n4_; clear n0_ n1_ n2_ n3_ n4_; (try clear hb); (try clear hb2); (try clear hk); (try clear hi)) | ((with_reducible refine gate_callee (f := 12) rfl ?_); refine goesL_ (some 48) rfl rfl Try.func12 (by kernel_rfl) rfl #[] rfl (by (try simp only [List.map_toArray, List.map_cons, List.map_nil]); first | done | rfl | (simp only [List.length_drop, List.length_take]; rfl)) ?_; (with_reducible refine (diacriticlaw01_awake.calls kj19  true _ A26.out).mono ?_); rintro e w38 ⟨rfl, hb⟩; refine ⟨_, rfl, ?_⟩; have n0_ := Aside0.mk (IsS68.below (by repeat (first | (with_reducible first | exact HI204.out | apply IsS68.alloc | apply IsS68.drewN | apply IsS68.drew | apply IsS68.set_0 | apply IsS68.set_1 | apply IsS68.set_2 | apply IsS68.set_3 | apply IsS68.set_4) | exact HI204.out)) hb); have n1_ := Aside0.mk (IsS68.below (by repeat (first | (with_reducible first | exact HI210.out | apply IsS68.alloc | apply IsS68.drewN | apply IsS68.drew | apply IsS68.set_0 | apply IsS68.set_1 | apply IsS68.set_2 | apply IsS68.set_3 | apply IsS68.set_4) | exact HI210.out)) hb); have n2_ := Aside0.mk (below_step (by repeat (first | (with_reducible first | exact HB.out | apply below_alloc | apply pw_below_drewN | apply below_drew1 | refine below_set ?_ (IsS68.ge HI204.out) | refine below_set ?_ (IsS68.ge HI210.out)) | exact HB.out)) hb); clear HI204; clear HI210; clear HB; have HI204 := n0_; have HI210 := n1_; have HB := n2_; clear n0_ n1_ n2_; (try clear hb); (try clear hb2); (try clear hk); (try clear hi)) | (go_at_call 28; (with_reducible refine (octet_In_Big.calls g204 t199 t200 t201 t202 t203 a1 t212 t213 t214 t215 t216 t217 w _ ?side1 ?side2 A28.out).mono ?_); (case side1 => repeat (first | (with_reducible first | exact HI204.out | apply IsS68.alloc | apply IsS68.drewN | apply IsS68.drew | apply IsS68.set_0 | apply IsS68.set_1 | apply IsS68.set_2 | apply IsS68.set_3 | apply IsS68.set_4) | exact HI204.out)); (case side2 => repeat (first | (with_reducible first | exact HB.out | apply below_alloc | apply pw_below_drewN | apply below_drew1 | refine below_set ?_ (IsS68.ge HI204.out) | refine below_set ?_ (IsS68.ge HI210.out)) | exact HB.out)); rintro e w39 ⟨rfl, hi, hb, hk⟩; have n0_ := Aside0.mk (IsS68.keep (by repeat (first | (with_reducible first | exact HI210.out | apply IsS68.alloc | apply IsS68.drewN | apply IsS68.drew | apply IsS68.set_0 | apply IsS68.set_1 | apply IsS68.set_2 | apply IsS68.set_3 | apply IsS68.set_4) | exact HI210.out)) hk NB210_204.out); have n1_ := Aside0.mk (hb); have n2_ := Aside0.mk (hi); clear HI210; clear HB; clear HI204; have HI210 := n0_; have HB := n1_; have HI204 := n2_; clear n0_ n1_ n2_; (try clear hb); (try clear hb2); (try clear hk); (try clear hi)) | (go_at_call 29; (with_reducible refine (octet_In_Small.calls g210 t205 t206 t207 t208 t209 a1 t218 t219 t220 t221 t222 t223 w _ ?side1 ?side2 A30.out).mono ?_); (case side1 => repeat (first | (with_reducible first | exact HI210.out | apply IsS68.alloc | apply IsS68.drewN | apply IsS68.drew | apply IsS68.set_0 | apply IsS68.set_1 | apply IsS68.set_2 | apply IsS68.set_3 | apply IsS68.set_4) | exact HI210.out)); (case side2 => repeat (first | (with_reducible first | exact HB.out | apply below_alloc | apply pw_below_drewN | apply below_drew1 | refine below_set ?_ (IsS68.ge HI204.out) | refine below_set ?_ (IsS68.ge HI210.out)) | exact HB.out)); rintro e w40 ⟨rfl, hi, hb, hk⟩; have n0_ := Aside0.mk (IsS68.keep (by repeat (first | (with_reducible first | exact HI204.out | apply IsS68.alloc | apply IsS68.drewN | apply IsS68.drew | apply IsS68.set_0 | apply IsS68.set_1 | apply IsS68.set_2 | apply IsS68.set_3 | apply IsS68.set_4) | exact HI204.out)) hk NB204_210.out); have n1_ := Aside0.mk (hb); have n2_ := Aside0.mk (hi); clear HI204; clear HB; clear HI210; have HI204 := n0_; have HB := n1_; have HI210 := n2_; clear n0_ n1_ n2_; (try clear hb); (try clear hb2); (try clear hk); (try clear hi)) | (go_at_call 30; (with_reducible refine (octet_In_Left.calls g204 t213 t214 t215 t216 t217 t224 t225 t226 t227 t228 t229 w _ ?side1 ?side2 A32.out).mono ?_); (case side1 => repeat (first | (with_reducible first | exact HI204.out | apply IsS68.alloc | apply IsS68.drewN | apply IsS68.drew | apply IsS68.set_0 | apply IsS68.set_1 | apply IsS68.set_2 | apply IsS68.set_3 | apply IsS68.set_4) | exact HI204.out)); (case side2 => repeat (first | (with_reducible first | exact HB.out | apply below_alloc | apply pw_below_drewN | apply below_drew1 | refine below_set ?_ (IsS68.ge HI204.out) | refine below_set ?_ (IsS68.ge HI210.out)) | exact HB.out)); rintro e w41 ⟨rfl, hi, hb, hk⟩; have n0_ := Aside0.mk (IsS68.keep (by repeat (first | (with_reducible first | exact HI210.out | apply IsS68.alloc | apply IsS68.drewN | apply IsS68.drew | apply IsS68.set_0 | apply IsS68.set_1 | apply IsS68.set_2 | apply IsS68.set_3 | apply IsS68.set_4) | exact HI210.out)) hk NB210_204.out); have n1_ := Aside0.mk (hb); have n2_ := Aside0.mk (hi); clear HI210; clear HB; clear HI204; have HI210 := n0_; have HB := n1_; have HI204 := n2_; clear n0_ n1_ n2_; (try clear hb); (try clear hb2); (try clear hk); (try clear hi)) | (go_at_call 16; (with_reducible refine (octet_In_Fault.calls g204 t225 t226 t227 t228 t229 t230 t231 t232 t233 t234 t235 t236 w _ ?side1 ?side2 A34.out).mono ?_); (case side1 => repeat (first | (with_reducible first | exact HI204.out | apply IsS68.alloc | apply IsS68.drewN | apply IsS68.drew | apply IsS68.set_0 | apply IsS68.set_1 | apply IsS68.set_2 | apply IsS68.set_3 | apply IsS68.set_4) | exact HI204.out)); (case side2 => repeat (first | (with_reducible first | exact HB.out | apply below_alloc | apply pw_below_drewN | apply below_drew1 | refine below_set ?_ (IsS68.ge HI204.out) | refine below_set ?_ (IsS68.ge HI210.out)) | exact HB.out)); rintro e w42 ⟨rfl, hi, hb, hk⟩; have n0_ := Aside0.mk (IsS68.keep (by repeat (first | (with_reducible first | exact HI210.out | apply IsS68.alloc | apply IsS68.drewN | apply IsS68.drew | apply IsS68.set_0 | apply IsS68.set_1 | apply IsS68.set_2 | apply IsS68.set_3 | apply IsS68.set_4) | exact HI210.out)) hk NB210_204.out); have n1_ := Aside0.mk (hb); have n2_ := Aside0.mk (hi); clear HI210; clear HB; clear HI204; have HI210 := n0_; have HB := n1_; have HI204 := n2_; clear n0_ n1_ n2_; (try clear hb); (try clear hb2); (try clear hk); (try clear hi)) | (go_at_call 17; (with_reducible refine (api_Fault_Bad.calls t230 t231 t237 _ A35.out).mono ?_); rintro e w43 ⟨rfl, hb⟩; have n0_ := Aside0.mk (IsS68.below (by repeat (first | (with_reducible first | exact HI204.out | apply IsS68.alloc | apply IsS68.drewN | apply IsS68.drew | apply IsS68.set_0 | apply IsS68.set_1 | apply IsS68.set_2 | apply IsS68.set_3 | apply IsS68.set_4) | exact HI204.out)) hb); have n1_ := Aside0.mk (IsS68.below (by repeat (first | (with_reducible first | exact HI210.out | apply IsS68.alloc | apply IsS68.drewN | apply IsS68.drew | apply IsS68.set_0 | apply IsS68.set_1 | apply IsS68.set_2 | apply IsS68.set_3 | apply IsS68.set_4) | exact HI210.out)) hb); have n2_ := Aside0.mk (below_step (by repeat (first | (with_reducible first | exact HB.out | apply below_alloc | apply pw_below_drewN | apply below_drew1 | refine below_set ?_ (IsS68.ge HI204.out) | refine below_set ?_ (IsS68.ge HI210.out)) | exact HB.out)) hb); clear HI204; clear HI210; clear HB; have HI204 := n0_; have HI210 := n1_; have HB := n2_; clear n0_ n1_ n2_; (try clear hb); (try clear hb2); (try clear hk); (try clear hi)))
                    go_ret
                    exact ⟨by first | rfl | (simp [errW_none, errW_some] <;> rfl) | (simp [*, errW_none, errW_some] <;> rfl), by repeat (first | (with_reducible first | exact HB.out | apply below_alloc | apply pw_below_drewN | apply below_drew1 | refine below_set ?_ (IsS68.ge HI204.out) | refine below_set ?_ (IsS68.ge HI210.out)) | exact HB.out)⟩
                  · rw [if_neg c33] at H
                    have c33b0 : (t224 == 0) = false := beq_eq_false_iff_ne.mpr c33
                    have c33b1 : (t224 != 0) = true := bne_iff_ne.mpr c33
                    obtain rfl := Option.some.inj H
                    go_wp2_with (first | ((with_reducible refine gate_callee (f := 14) rfl ?_); refine goesL_ (some 45) rfl rfl Try.func14 (by kernel_rfl) rfl #[.string t192] rfl (by (try simp only [List.map_toArray, List.map_cons, List.map_nil]); first | done | rfl | (simp only [List.length_drop, List.length_take]; rfl)) ?_; (with_reducible refine (octet_Read.calls t192 t199 t200 t201 t202 t203 w _ ?side1 A24.out).mono ?_); (case side1 => repeat (first | (with_reducible first | exact HB.out | apply below_alloc | apply pw_below_drewN | apply below_drew1) | exact HB.out)); rintro e w44 ⟨g204, rfl, hi, hb, hb2⟩; refine ⟨_, rfl, ?_⟩; have n0_ := Aside0.mk (hb); have n1_ := Aside0.mk (hi); clear HB; have HB := n0_; have HI204 := n1_; clear n0_ n1_; (try clear hb); (try clear hb2); (try clear hk); (try clear hi)) | ((with_reducible refine gate_callee (f := 14) rfl ?_); refine goesL_ (some 47) rfl rfl Try.func14 (by kernel_rfl) rfl #[.string t193] rfl (by (try simp only [List.map_toArray, List.map_cons, List.map_nil]); first | done | rfl | (simp only [List.length_drop, List.length_take]; rfl)) ?_; (with_reducible refine (octet_Read.calls t193 t205 t206 t207 t208 t209 _ _ (Below.refl _ _) A25.out).mono ?_); rintro e w45 ⟨g210, rfl, hi, hb, hb2⟩; refine ⟨_, rfl, ?_⟩; have n0_ := Aside0.mk (IsS68.below (by repeat (first | (with_reducible first | exact HI204.out | apply IsS68.alloc | apply IsS68.drewN | apply IsS68.drew | apply IsS68.set_0 | apply IsS68.set_1 | apply IsS68.set_2 | apply IsS68.set_3 | apply IsS68.set_4) | exact HI204.out)) hb2); have n1_ := Aside0.mk (below_step (by repeat (first | (with_reducible first | exact HB.out | apply below_alloc | apply pw_below_drewN | apply below_drew1 | refine below_set ?_ (IsS68.ge HI204.out)) | exact HB.out)) hb2); have n2_ := Aside0.mk (IsS68.lower hi (below_size (by repeat (first | (with_reducible first | exact HB.out | apply below_alloc | apply pw_below_drewN | apply below_drew1 | refine below_set ?_ (IsS68.ge HI204.out)) | exact HB.out)))); have n3_ := Aside0.mk ((Nat.ne_of_lt (Nat.lt_of_lt_of_le (IsS68.lt (by repeat (first | (with_reducible first | exact HI204.out | apply IsS68.alloc | apply IsS68.drewN | apply IsS68.drew | apply IsS68.set_0 | apply IsS68.set_1 | apply IsS68.set_2 | apply IsS68.set_3 | apply IsS68.set_4) | exact HI204.out))) (IsS68.ge hi)) : g204 ≠ g210)); have n4_ := Aside0.mk ((Nat.ne_of_gt (Nat.lt_of_lt_of_le (IsS68.lt (by repeat (first | (with_reducible first | exact HI204.out | apply IsS68.alloc | apply IsS68.drewN | apply IsS68.drew | apply IsS68.set_0 | apply IsS68.set_1 | apply IsS68.set_2 | apply IsS68.set_3 | apply IsS68.set_4) | exact HI204.out))) (IsS68.ge hi)) : g210 ≠ g204)); clear HI204; clear HB; have HI204 := n0_; have HB := n1_; have HI210 := n2_; have NB204_210 := n3_; have NB210_204 := n4_; clear n0_ n1_ n2_ n3_ n4_; (try clear hb); (try clear hb2); (try clear hk); (try clear hi)) | ((with_reducible refine gate_callee (f := 12) rfl ?_); refine goesL_ (some 48) rfl rfl Try.func12 (by kernel_rfl) rfl #[] rfl (by (try simp only [List.map_toArray, List.map_cons, List.map_nil]); first | done | rfl | (simp only [List.length_drop, List.length_take]; rfl)) ?_; (with_reducible refine (diacriticlaw01_awake.calls kj19  true _ A26.out).mono ?_); rintro e w46 ⟨rfl, hb⟩; refine ⟨_, rfl, ?_⟩; have n0_ := Aside0.mk (IsS68.below (by repeat (first | (with_reducible first | exact HI204.out | apply IsS68.alloc | apply IsS68.drewN | apply IsS68.drew | apply IsS68.set_0 | apply IsS68.set_1 | apply IsS68.set_2 | apply IsS68.set_3 | apply IsS68.set_4) | exact HI204.out)) hb); have n1_ := Aside0.mk (IsS68.below (by repeat (first | (with_reducible first | exact HI210.out | apply IsS68.alloc | apply IsS68.drewN | apply IsS68.drew | apply IsS68.set_0 | apply IsS68.set_1 | apply IsS68.set_2 | apply IsS68.set_3 | apply IsS68.set_4) | exact HI210.out)) hb); have n2_ := Aside0.mk (below_step (by repeat (first | (with_reducible first | exact HB.out | apply below_alloc | apply pw_below_drewN | apply below_drew1 | refine below_set ?_ (IsS68.ge HI204.out) | refine below_set ?_ (IsS68.ge HI210.out)) | exact HB.out)) hb); clear HI204; clear HI210; clear HB; have HI204 := n0_; have HI210 := n1_; have HB := n2_; clear n0_ n1_ n2_; (try clear hb); (try clear hb2); (try clear hk); (try clear hi)) | (go_at_call 28; (with_reducible refine (octet_In_Big.calls g204 t199 t200 t201 t202 t203 a1 t212 t213 t214 t215 t216 t217 w _ ?side1 ?side2 A28.out).mono ?_); (case side1 => repeat (first | (with_reducible first | exact HI204.out | apply IsS68.alloc | apply IsS68.drewN | apply IsS68.drew | apply IsS68.set_0 | apply IsS68.set_1 | apply IsS68.set_2 | apply IsS68.set_3 | apply IsS68.set_4) | exact HI204.out)); (case side2 => repeat (first | (with_reducible first | exact HB.out | apply below_alloc | apply pw_below_drewN | apply below_drew1 | refine below_set ?_ (IsS68.ge HI204.out) | refine below_set ?_ (IsS68.ge HI210.out)) | exact HB.out)); rintro e w47 ⟨rfl, hi, hb, hk⟩; have n0_ := Aside0.mk (IsS68.keep (by repeat (first | (with_reducible first | exact HI210.out | apply IsS68.alloc | apply IsS68.drewN | apply IsS68.drew | apply IsS68.set_0 | apply IsS68.set_1 | apply IsS68.set_2 | apply IsS68.set_3 | apply IsS68.set_4) | exact HI210.out)) hk NB210_204.out); have n1_ := Aside0.mk (hb); have n2_ := Aside0.mk (hi); clear HI210; clear HB; clear HI204; have HI210 := n0_; have HB := n1_; have HI204 := n2_; clear n0_ n1_ n2_; (try clear hb); (try clear hb2); (try clear hk); (try clear hi)) | (go_at_call 29; (with_reducible refine (octet_In_Small.calls g210 t205 t206 t207 t208 t209 a1 t218 t219 t220 t221 t222 t223 w _ ?side1 ?side2 A30.out).mono ?_); (case side1 => repeat (first | (with_reducible first | exact HI210.out | apply IsS68.alloc | apply IsS68.drewN | apply IsS68.drew | apply IsS68.set_0 | apply IsS68.set_1 | apply IsS68.set_2 | apply IsS68.set_3 | apply IsS68.set_4) | exact HI210.out)); (case side2 => repeat (first | (with_reducible first | exact HB.out | apply below_alloc | apply pw_below_drewN | apply below_drew1 | refine below_set ?_ (IsS68.ge HI204.out) | refine below_set ?_ (IsS68.ge HI210.out)) | exact HB.out)); rintro e w48 ⟨rfl, hi, hb, hk⟩; have n0_ := Aside0.mk (IsS68.keep (by repeat (first | (with_reducible first | exact HI204.out | apply IsS68.alloc | apply IsS68.drewN | apply IsS68.drew | apply IsS68.set_0 | apply IsS68.set_1 | apply IsS68.set_2 | apply IsS68.set_3 | apply IsS68.set_4) | exact HI204.out)) hk NB204_210.out); have n1_ := Aside0.mk (hb); have n2_ := Aside0.mk (hi); clear HI204; clear HB; clear HI210; have HI204 := n0_; have HB := n1_; have HI210 := n2_; clear n0_ n1_ n2_; (try clear hb); (try clear hb2); (try clear hk); (try clear hi)) | (go_at_call 30; (with_reducible refine (octet_In_Left.calls g204 t213 t214 t215 t216 t217 t224 t225 t226 t227 t228 t229 w _ ?side1 ?side2 A32.out).mono ?_); (case side1 => repeat (first | (with_reducible first | exact HI204.out | apply IsS68.alloc | apply IsS68.drewN | apply IsS68.drew | apply IsS68.set_0 | apply IsS68.set_1 | apply IsS68.set_2 | apply IsS68.set_3 | apply IsS68.set_4) | exact HI204.out)); (case side2 => repeat (first | (with_reducible first | exact HB.out | apply below_alloc | apply pw_below_drewN | apply below_drew1 | refine below_set ?_ (IsS68.ge HI204.out) | refine below_set ?_ (IsS68.ge HI210.out)) | exact HB.out)); rintro e w49 ⟨rfl, hi, hb, hk⟩; have n0_ := Aside0.mk (IsS68.keep (by repeat (first | (with_reducible first | exact HI210.out | apply IsS68.alloc | apply IsS68.drewN | apply IsS68.drew | apply IsS68.set_0 | apply IsS68.set_1 | apply IsS68.set_2 | apply IsS68.set_3 | apply IsS68.set_4) | exact HI210.out)) hk NB210_204.out); have n1_ := Aside0.mk (hb); have n2_ := Aside0.mk (hi); clear HI210; clear HB; clear HI204; have HI210 := n0_; have HB := n1_; have HI204 := n2_; clear n0_ n1_ n2_; (try clear hb); (try clear hb2); (try clear hk); (try clear hi)))
                    go_ret
                    exact ⟨by first | rfl | (simp [errW_none, errW_some] <;> rfl) | (simp [*, errW_none, errW_some] <;> rfl), by repeat (first | (with_reducible first | exact HB.out | apply below_alloc | apply pw_below_drewN | apply below_drew1 | refine below_set ?_ (IsS68.ge HI204.out) | refine below_set ?_ (IsS68.ge HI210.out)) | exact HB.out)⟩
                · rw [if_neg c31] at H
                  have c31b0 : (t218 == x7_19) = false := beq_eq_false_iff_ne.mpr c31
                  have c31b1 : (t218 != x7_19) = true := bne_iff_ne.mpr c31
                  obtain rfl := Option.some.inj H
                  go_wp2_with (first | ((with_reducible refine gate_callee (f := 14) rfl ?_); refine goesL_ (some 45) rfl rfl Try.func14 (by kernel_rfl) rfl #[.string t192] rfl (by (try simp only [List.map_toArray, List.map_cons, List.map_nil]); first | done | rfl | (simp only [List.length_drop, List.length_take]; rfl)) ?_; (with_reducible refine (octet_Read.calls t192 t199 t200 t201 t202 t203 w _ ?side1 A24.out).mono ?_); (case side1 => repeat (first | (with_reducible first | exact HB.out | apply below_alloc | apply pw_below_drewN | apply below_drew1) | exact HB.out)); rintro e w50 ⟨g204, rfl, hi, hb, hb2⟩; refine ⟨_, rfl, ?_⟩; have n0_ := Aside0.mk (hb); have n1_ := Aside0.mk (hi); clear HB; have HB := n0_; have HI204 := n1_; clear n0_ n1_; (try clear hb); (try clear hb2); (try clear hk); (try clear hi)) | ((with_reducible refine gate_callee (f := 14) rfl ?_); refine goesL_ (some 47) rfl rfl Try.func14 (by kernel_rfl) rfl #[.string t193] rfl (by (try simp only [List.map_toArray, List.map_cons, List.map_nil]); first | done | rfl | (simp only [List.length_drop, List.length_take]; rfl)) ?_; (with_reducible refine (octet_Read.calls t193 t205 t206 t207 t208 t209 _ _ (Below.refl _ _) A25.out).mono ?_); rintro e w51 ⟨g210, rfl, hi, hb, hb2⟩; refine ⟨_, rfl, ?_⟩; have n0_ := Aside0.mk (IsS68.below (by repeat (first | (with_reducible first | exact HI204.out | apply IsS68.alloc | apply IsS68.drewN | apply IsS68.drew | apply IsS68.set_0 | apply IsS68.set_1 | apply IsS68.set_2 | apply IsS68.set_3 | apply IsS68.set_4) | exact HI204.out)) hb2); have n1_ := Aside0.mk (below_step (by repeat (first | (with_reducible first | exact HB.out | apply below_alloc | apply pw_below_drewN | apply below_drew1 | refine below_set ?_ (IsS68.ge HI204.out)) | exact HB.out)) hb2); have n2_ := Aside0.mk (IsS68.lower hi (below_size (by repeat (first | (with_reducible first | exact HB.out | apply below_alloc | apply pw_below_drewN | apply below_drew1 | refine below_set ?_ (IsS68.ge HI204.out)) | exact HB.out)))); have n3_ := Aside0.mk ((Nat.ne_of_lt (Nat.lt_of_lt_of_le (IsS68.lt (by repeat (first | (with_reducible first | exact HI204.out | apply IsS68.alloc | apply IsS68.drewN | apply IsS68.drew | apply IsS68.set_0 | apply IsS68.set_1 | apply IsS68.set_2 | apply IsS68.set_3 | apply IsS68.set_4) | exact HI204.out))) (IsS68.ge hi)) : g204 ≠ g210)); have n4_ := Aside0.mk ((Nat.ne_of_gt (Nat.lt_of_lt_of_le (IsS68.lt (by repeat (first | (with_reducible first | exact HI204.out | apply IsS68.alloc | apply IsS68.drewN | apply IsS68.drew | apply IsS68.set_0 | apply IsS68.set_1 | apply IsS68.set_2 | apply IsS68.set_3 | apply IsS68.set_4) | exact HI204.out))) (IsS68.ge hi)) : g210 ≠ g204)); clear HI204; clear HB; have HI204 := n0_; have HB := n1_; have HI210 := n2_; have NB204_210 := n3_; have NB210_204 := n4_; clear n0_ n1_ n2_ n3_ n4_; (try clear hb); (try clear hb2); (try clear hk); (try clear hi)) | ((with_reducible refine gate_callee (f := 12) rfl ?_); refine goesL_ (some 48) rfl rfl Try.func12 (by kernel_rfl) rfl #[] rfl (by (try simp only [List.map_toArray, List.map_cons, List.map_nil]); first | done | rfl | (simp only [List.length_drop, List.length_take]; rfl)) ?_; (with_reducible refine (diacriticlaw01_awake.calls kj19  true _ A26.out).mono ?_); rintro e w52 ⟨rfl, hb⟩; refine ⟨_, rfl, ?_⟩; have n0_ := Aside0.mk (IsS68.below (by repeat (first | (with_reducible first | exact HI204.out | apply IsS68.alloc | apply IsS68.drewN | apply IsS68.drew | apply IsS68.set_0 | apply IsS68.set_1 | apply IsS68.set_2 | apply IsS68.set_3 | apply IsS68.set_4) | exact HI204.out)) hb); have n1_ := Aside0.mk (IsS68.below (by repeat (first | (with_reducible first | exact HI210.out | apply IsS68.alloc | apply IsS68.drewN | apply IsS68.drew | apply IsS68.set_0 | apply IsS68.set_1 | apply IsS68.set_2 | apply IsS68.set_3 | apply IsS68.set_4) | exact HI210.out)) hb); have n2_ := Aside0.mk (below_step (by repeat (first | (with_reducible first | exact HB.out | apply below_alloc | apply pw_below_drewN | apply below_drew1 | refine below_set ?_ (IsS68.ge HI204.out) | refine below_set ?_ (IsS68.ge HI210.out)) | exact HB.out)) hb); clear HI204; clear HI210; clear HB; have HI204 := n0_; have HI210 := n1_; have HB := n2_; clear n0_ n1_ n2_; (try clear hb); (try clear hb2); (try clear hk); (try clear hi)) | (go_at_call 28; (with_reducible refine (octet_In_Big.calls g204 t199 t200 t201 t202 t203 a1 t212 t213 t214 t215 t216 t217 w _ ?side1 ?side2 A28.out).mono ?_); (case side1 => repeat (first | (with_reducible first | exact HI204.out | apply IsS68.alloc | apply IsS68.drewN | apply IsS68.drew | apply IsS68.set_0 | apply IsS68.set_1 | apply IsS68.set_2 | apply IsS68.set_3 | apply IsS68.set_4) | exact HI204.out)); (case side2 => repeat (first | (with_reducible first | exact HB.out | apply below_alloc | apply pw_below_drewN | apply below_drew1 | refine below_set ?_ (IsS68.ge HI204.out) | refine below_set ?_ (IsS68.ge HI210.out)) | exact HB.out)); rintro e w53 ⟨rfl, hi, hb, hk⟩; have n0_ := Aside0.mk (IsS68.keep (by repeat (first | (with_reducible first | exact HI210.out | apply IsS68.alloc | apply IsS68.drewN | apply IsS68.drew | apply IsS68.set_0 | apply IsS68.set_1 | apply IsS68.set_2 | apply IsS68.set_3 | apply IsS68.set_4) | exact HI210.out)) hk NB210_204.out); have n1_ := Aside0.mk (hb); have n2_ := Aside0.mk (hi); clear HI210; clear HB; clear HI204; have HI210 := n0_; have HB := n1_; have HI204 := n2_; clear n0_ n1_ n2_; (try clear hb); (try clear hb2); (try clear hk); (try clear hi)) | (go_at_call 29; (with_reducible refine (octet_In_Small.calls g210 t205 t206 t207 t208 t209 a1 t218 t219 t220 t221 t222 t223 w _ ?side1 ?side2 A30.out).mono ?_); (case side1 => repeat (first | (with_reducible first | exact HI210.out | apply IsS68.alloc | apply IsS68.drewN | apply IsS68.drew | apply IsS68.set_0 | apply IsS68.set_1 | apply IsS68.set_2 | apply IsS68.set_3 | apply IsS68.set_4) | exact HI210.out)); (case side2 => repeat (first | (with_reducible first | exact HB.out | apply below_alloc | apply pw_below_drewN | apply below_drew1 | refine below_set ?_ (IsS68.ge HI204.out) | refine below_set ?_ (IsS68.ge HI210.out)) | exact HB.out)); rintro e w54 ⟨rfl, hi, hb, hk⟩; have n0_ := Aside0.mk (IsS68.keep (by repeat (first | (with_reducible first | exact HI204.out | apply IsS68.alloc | apply IsS68.drewN | apply IsS68.drew | apply IsS68.set_0 | apply IsS68.set_1 | apply IsS68.set_2 | apply IsS68.set_3 | apply IsS68.set_4) | exact HI204.out)) hk NB204_210.out); have n1_ := Aside0.mk (hb); have n2_ := Aside0.mk (hi); clear HI204; clear HB; clear HI210; have HI204 := n0_; have HB := n1_; have HI210 := n2_; clear n0_ n1_ n2_; (try clear hb); (try clear hb2); (try clear hk); (try clear hi)))
                  go_ret
                  exact ⟨by first | rfl | (simp [errW_none, errW_some] <;> rfl) | (simp [*, errW_none, errW_some] <;> rfl), by repeat (first | (with_reducible first | exact HB.out | apply below_alloc | apply pw_below_drewN | apply below_drew1 | refine below_set ?_ (IsS68.ge HI204.out) | refine below_set ?_ (IsS68.ge HI210.out)) | exact HB.out)⟩
              · rw [if_neg c29] at H
                have c29b0 : (t212 == x7_19) = false := beq_eq_false_iff_ne.mpr c29
                have c29b1 : (t212 != x7_19) = true := bne_iff_ne.mpr c29
                obtain rfl := Option.some.inj H
                go_wp2_with (first | ((with_reducible refine gate_callee (f := 14) rfl ?_); refine goesL_ (some 45) rfl rfl Try.func14 (by kernel_rfl) rfl #[.string t192] rfl (by (try simp only [List.map_toArray, List.map_cons, List.map_nil]); first | done | rfl | (simp only [List.length_drop, List.length_take]; rfl)) ?_; (with_reducible refine (octet_Read.calls t192 t199 t200 t201 t202 t203 w _ ?side1 A24.out).mono ?_); (case side1 => repeat (first | (with_reducible first | exact HB.out | apply below_alloc | apply pw_below_drewN | apply below_drew1) | exact HB.out)); rintro e w55 ⟨g204, rfl, hi, hb, hb2⟩; refine ⟨_, rfl, ?_⟩; have n0_ := Aside0.mk (hb); have n1_ := Aside0.mk (hi); clear HB; have HB := n0_; have HI204 := n1_; clear n0_ n1_; (try clear hb); (try clear hb2); (try clear hk); (try clear hi)) | ((with_reducible refine gate_callee (f := 14) rfl ?_); refine goesL_ (some 47) rfl rfl Try.func14 (by kernel_rfl) rfl #[.string t193] rfl (by (try simp only [List.map_toArray, List.map_cons, List.map_nil]); first | done | rfl | (simp only [List.length_drop, List.length_take]; rfl)) ?_; (with_reducible refine (octet_Read.calls t193 t205 t206 t207 t208 t209 _ _ (Below.refl _ _) A25.out).mono ?_); rintro e w56 ⟨g210, rfl, hi, hb, hb2⟩; refine ⟨_, rfl, ?_⟩; have n0_ := Aside0.mk (IsS68.below (by repeat (first | (with_reducible first | exact HI204.out | apply IsS68.alloc | apply IsS68.drewN | apply IsS68.drew | apply IsS68.set_0 | apply IsS68.set_1 | apply IsS68.set_2 | apply IsS68.set_3 | apply IsS68.set_4) | exact HI204.out)) hb2); have n1_ := Aside0.mk (below_step (by repeat (first | (with_reducible first | exact HB.out | apply below_alloc | apply pw_below_drewN | apply below_drew1 | refine below_set ?_ (IsS68.ge HI204.out)) | exact HB.out)) hb2); have n2_ := Aside0.mk (IsS68.lower hi (below_size (by repeat (first | (with_reducible first | exact HB.out | apply below_alloc | apply pw_below_drewN | apply below_drew1 | refine below_set ?_ (IsS68.ge HI204.out)) | exact HB.out)))); have n3_ := Aside0.mk ((Nat.ne_of_lt (Nat.lt_of_lt_of_le (IsS68.lt (by repeat (first | (with_reducible first | exact HI204.out | apply IsS68.alloc | apply IsS68.drewN | apply IsS68.drew | apply IsS68.set_0 | apply IsS68.set_1 | apply IsS68.set_2 | apply IsS68.set_3 | apply IsS68.set_4) | exact HI204.out))) (IsS68.ge hi)) : g204 ≠ g210)); have n4_ := Aside0.mk ((Nat.ne_of_gt (Nat.lt_of_lt_of_le (IsS68.lt (by repeat (first | (with_reducible first | exact HI204.out | apply IsS68.alloc | apply IsS68.drewN | apply IsS68.drew | apply IsS68.set_0 | apply IsS68.set_1 | apply IsS68.set_2 | apply IsS68.set_3 | apply IsS68.set_4) | exact HI204.out))) (IsS68.ge hi)) : g210 ≠ g204)); clear HI204; clear HB; have HI204 := n0_; have HB := n1_; have HI210 := n2_; have NB204_210 := n3_; have NB210_204 := n4_; clear n0_ n1_ n2_ n3_ n4_; (try clear hb); (try clear hb2); (try clear hk); (try clear hi)) | ((with_reducible refine gate_callee (f := 12) rfl ?_); refine goesL_ (some 48) rfl rfl Try.func12 (by kernel_rfl) rfl #[] rfl (by (try simp only [List.map_toArray, List.map_cons, List.map_nil]); first | done | rfl | (simp only [List.length_drop, List.length_take]; rfl)) ?_; (with_reducible refine (diacriticlaw01_awake.calls kj19  true _ A26.out).mono ?_); rintro e w57 ⟨rfl, hb⟩; refine ⟨_, rfl, ?_⟩; have n0_ := Aside0.mk (IsS68.below (by repeat (first | (with_reducible first | exact HI204.out | apply IsS68.alloc | apply IsS68.drewN | apply IsS68.drew | apply IsS68.set_0 | apply IsS68.set_1 | apply IsS68.set_2 | apply IsS68.set_3 | apply IsS68.set_4) | exact HI204.out)) hb); have n1_ := Aside0.mk (IsS68.below (by repeat (first | (with_reducible first | exact HI210.out | apply IsS68.alloc | apply IsS68.drewN | apply IsS68.drew | apply IsS68.set_0 | apply IsS68.set_1 | apply IsS68.set_2 | apply IsS68.set_3 | apply IsS68.set_4) | exact HI210.out)) hb); have n2_ := Aside0.mk (below_step (by repeat (first | (with_reducible first | exact HB.out | apply below_alloc | apply pw_below_drewN | apply below_drew1 | refine below_set ?_ (IsS68.ge HI204.out) | refine below_set ?_ (IsS68.ge HI210.out)) | exact HB.out)) hb); clear HI204; clear HI210; clear HB; have HI204 := n0_; have HI210 := n1_; have HB := n2_; clear n0_ n1_ n2_; (try clear hb); (try clear hb2); (try clear hk); (try clear hi)) | (go_at_call 28; (with_reducible refine (octet_In_Big.calls g204 t199 t200 t201 t202 t203 a1 t212 t213 t214 t215 t216 t217 w _ ?side1 ?side2 A28.out).mono ?_); (case side1 => repeat (first | (with_reducible first | exact HI204.out | apply IsS68.alloc | apply IsS68.drewN | apply IsS68.drew | apply IsS68.set_0 | apply IsS68.set_1 | apply IsS68.set_2 | apply IsS68.set_3 | apply IsS68.set_4) | exact HI204.out)); (case side2 => repeat (first | (with_reducible first | exact HB.out | apply below_alloc | apply pw_below_drewN | apply below_drew1 | refine below_set ?_ (IsS68.ge HI204.out) | refine below_set ?_ (IsS68.ge HI210.out)) | exact HB.out)); rintro e w58 ⟨rfl, hi, hb, hk⟩; have n0_ := Aside0.mk (IsS68.keep (by repeat (first | (with_reducible first | exact HI210.out | apply IsS68.alloc | apply IsS68.drewN | apply IsS68.drew | apply IsS68.set_0 | apply IsS68.set_1 | apply IsS68.set_2 | apply IsS68.set_3 | apply IsS68.set_4) | exact HI210.out)) hk NB210_204.out); have n1_ := Aside0.mk (hb); have n2_ := Aside0.mk (hi); clear HI210; clear HB; clear HI204; have HI210 := n0_; have HB := n1_; have HI204 := n2_; clear n0_ n1_ n2_; (try clear hb); (try clear hb2); (try clear hk); (try clear hi)))
                go_ret
                exact ⟨by first | rfl | (simp [errW_none, errW_some] <;> rfl) | (simp [*, errW_none, errW_some] <;> rfl), by repeat (first | (with_reducible first | exact HB.out | apply below_alloc | apply pw_below_drewN | apply below_drew1 | refine below_set ?_ (IsS68.ge HI204.out) | refine below_set ?_ (IsS68.ge HI210.out)) | exact HB.out)⟩
            · replace c27 := Bool.eq_false_iff.mpr c27
              subst c27
              have H1 : (some false) = some r := by rw [if_neg (show ¬ (false = true) by decide)] at H; exact H
              clear H
              have H := H1
              clear H1
              obtain rfl := Option.some.inj H
              go_wp2_with (first | ((with_reducible refine gate_callee (f := 14) rfl ?_); refine goesL_ (some 45) rfl rfl Try.func14 (by kernel_rfl) rfl #[.string t192] rfl (by (try simp only [List.map_toArray, List.map_cons, List.map_nil]); first | done | rfl | (simp only [List.length_drop, List.length_take]; rfl)) ?_; (with_reducible refine (octet_Read.calls t192 t199 t200 t201 t202 t203 w _ ?side1 A24.out).mono ?_); (case side1 => repeat (first | (with_reducible first | exact HB.out | apply below_alloc | apply pw_below_drewN | apply below_drew1) | exact HB.out)); rintro e w59 ⟨g204, rfl, hi, hb, hb2⟩; refine ⟨_, rfl, ?_⟩; have n0_ := Aside0.mk (hb); have n1_ := Aside0.mk (hi); clear HB; have HB := n0_; have HI204 := n1_; clear n0_ n1_; (try clear hb); (try clear hb2); (try clear hk); (try clear hi)) | ((with_reducible refine gate_callee (f := 14) rfl ?_); refine goesL_ (some 47) rfl rfl Try.func14 (by kernel_rfl) rfl #[.string t193] rfl (by (try simp only [List.map_toArray, List.map_cons, List.map_nil]); first | done | rfl | (simp only [List.length_drop, List.length_take]; rfl)) ?_; (with_reducible refine (octet_Read.calls t193 t205 t206 t207 t208 t209 _ _ (Below.refl _ _) A25.out).mono ?_); rintro e w60 ⟨g210, rfl, hi, hb, hb2⟩; refine ⟨_, rfl, ?_⟩; have n0_ := Aside0.mk (IsS68.below (by repeat (first | (with_reducible first | exact HI204.out | apply IsS68.alloc | apply IsS68.drewN | apply IsS68.drew | apply IsS68.set_0 | apply IsS68.set_1 | apply IsS68.set_2 | apply IsS68.set_3 | apply IsS68.set_4) | exact HI204.out)) hb2); have n1_ := Aside0.mk (below_step (by repeat (first | (with_reducible first | exact HB.out | apply below_alloc | apply pw_below_drewN | apply below_drew1 | refine below_set ?_ (IsS68.ge HI204.out)) | exact HB.out)) hb2); have n2_ := Aside0.mk (IsS68.lower hi (below_size (by repeat (first | (with_reducible first | exact HB.out | apply below_alloc | apply pw_below_drewN | apply below_drew1 | refine below_set ?_ (IsS68.ge HI204.out)) | exact HB.out)))); have n3_ := Aside0.mk ((Nat.ne_of_lt (Nat.lt_of_lt_of_le (IsS68.lt (by repeat (first | (with_reducible first | exact HI204.out | apply IsS68.alloc | apply IsS68.drewN | apply IsS68.drew | apply IsS68.set_0 | apply IsS68.set_1 | apply IsS68.set_2 | apply IsS68.set_3 | apply IsS68.set_4) | exact HI204.out))) (IsS68.ge hi)) : g204 ≠ g210)); have n4_ := Aside0.mk ((Nat.ne_of_gt (Nat.lt_of_lt_of_le (IsS68.lt (by repeat (first | (with_reducible first | exact HI204.out | apply IsS68.alloc | apply IsS68.drewN | apply IsS68.drew | apply IsS68.set_0 | apply IsS68.set_1 | apply IsS68.set_2 | apply IsS68.set_3 | apply IsS68.set_4) | exact HI204.out))) (IsS68.ge hi)) : g210 ≠ g204)); clear HI204; clear HB; have HI204 := n0_; have HB := n1_; have HI210 := n2_; have NB204_210 := n3_; have NB210_204 := n4_; clear n0_ n1_ n2_ n3_ n4_; (try clear hb); (try clear hb2); (try clear hk); (try clear hi)) | ((with_reducible refine gate_callee (f := 12) rfl ?_); refine goesL_ (some 48) rfl rfl Try.func12 (by kernel_rfl) rfl #[] rfl (by (try simp only [List.map_toArray, List.map_cons, List.map_nil]); first | done | rfl | (simp only [List.length_drop, List.length_take]; rfl)) ?_; (with_reducible refine (diacriticlaw01_awake.calls kj19  false _ A26.out).mono ?_); rintro e w61 ⟨rfl, hb⟩; refine ⟨_, rfl, ?_⟩; have n0_ := Aside0.mk (IsS68.below (by repeat (first | (with_reducible first | exact HI204.out | apply IsS68.alloc | apply IsS68.drewN | apply IsS68.drew | apply IsS68.set_0 | apply IsS68.set_1 | apply IsS68.set_2 | apply IsS68.set_3 | apply IsS68.set_4) | exact HI204.out)) hb); have n1_ := Aside0.mk (IsS68.below (by repeat (first | (with_reducible first | exact HI210.out | apply IsS68.alloc | apply IsS68.drewN | apply IsS68.drew | apply IsS68.set_0 | apply IsS68.set_1 | apply IsS68.set_2 | apply IsS68.set_3 | apply IsS68.set_4) | exact HI210.out)) hb); have n2_ := Aside0.mk (below_step (by repeat (first | (with_reducible first | exact HB.out | apply below_alloc | apply pw_below_drewN | apply below_drew1 | refine below_set ?_ (IsS68.ge HI204.out) | refine below_set ?_ (IsS68.ge HI210.out)) | exact HB.out)) hb); clear HI204; clear HI210; clear HB; have HI204 := n0_; have HI210 := n1_; have HB := n2_; clear n0_ n1_ n2_; (try clear hb); (try clear hb2); (try clear hk); (try clear hi)))
              go_ret
              exact ⟨by first | rfl | (simp [errW_none, errW_some] <;> rfl) | (simp [*, errW_none, errW_some] <;> rfl), by repeat (first | (with_reducible first | exact HB.out | apply below_alloc | apply pw_below_drewN | apply below_drew1 | refine below_set ?_ (IsS68.ge HI204.out) | refine below_set ?_ (IsS68.ge HI210.out)) | exact HB.out)⟩

/-- THE ONE PURE STATEMENT of diacriticlaw01_OctetNumbers: yours. -/
def diacriticlaw01_OctetNumbers.Pure : Prop := ∀ (a0 : Int) (a1 : Int), (Lit.int .u64 a0).wf = true → (Lit.int .i64 a1).wf = true → ∃ k, diacriticlaw01_OctetNumbers.f k a0 a1 = some true
theorem diacriticlaw01_OctetNumbers.walk (P : diacriticlaw01_OctetNumbers.Pure) (a0 : Int) (a1 : Int) (w : World) (w0 : (Lit.int .u64 a0).wf = true) (w1 : (Lit.int .i64 a1).wf = true) :
    Calls Try.prog 5 #[.int .u64 a0, .int .i64 a1] w fun e w' => e = .returned (.bool true) ∧ Below w.heap.size w w' := by
  obtain ⟨k, h⟩ := P a0 a1 w0 w1
  refine (diacriticlaw01_OctetNumbers.calls k a0 a1 true w h).mono ?_
  rintro e w' ⟨rfl, hd⟩
  exact ⟨rfl, hd⟩

end Go.Proofs.Ytkcckhlkaknggaa.PAll
