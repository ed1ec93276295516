/- Written by a program of this session: functions of the Go program as Lean functions, and the walks that tie them to it. -/
import Derived.Test.YtbndilnbfclmbaaPAllx0
import Derived.Test.YtbndilnbfclmbaaPAllx9
namespace Go.Proofs.Ytbndilnbfclmbaa.PAll
open Go.RowKit Go.Proofs.YtbndilnbfclmbaaW.PrintWords Go.Proofs.YtbndilnbfclmbaaW.PrintLast Go.Proofs.YtbndilnbfclmbaaW.PrintMore
attribute [local go_sem] max2_int min2_int max_two min_two max_three min_three max_four min_four   -- for this text's walks alone
-- squeezed
set_option linter.unusedVariables false
set_option linter.unusedSimpArgs false

/-! ### diacriticref26_Declared: function 42 -/
def diacriticref26_Declared.l0 : Nat → List (S29) → Int → Option (ByteArray)
 | 0, _, _ => none
 | k + 1, x3, x4 => if x4 < (x3.length : Int) then (if 0 ≤ x4 then (if (((rd_T29 x3 x4).f0).size : Int) ≥ 5 then (if 0 ≤ 4 then (if 4 ≤ (((rd_T29 x3 x4).f0).size : Int) then (if (((rd_T29 x3 x4).f0).extract 0 4).toList = ([91, 99, 115, 58] : List UInt8) then (if 0 ≤ (wrap64 ((((rd_T29 x3 x4).f0).size : Int) - 1)) then (if (wrap64 ((((rd_T29 x3 x4).f0).size : Int) - 1)) < (((rd_T29 x3 x4).f0).size : Int) then (if (bt ((rd_T29 x3 x4).f0) (wrap64 ((((rd_T29 x3 x4).f0).size : Int) - 1))) = 93 then (if 4 ≤ (wrap64 ((((rd_T29 x3 x4).f0).size : Int) - 1)) then (if (wrap64 ((((rd_T29 x3 x4).f0).size : Int) - 1)) ≤ (((rd_T29 x3 x4).f0).size : Int) then (some (((rd_T29 x3 x4).f0).extract 4 ((wrap64 ((((rd_T29 x3 x4).f0).size : Int) - 1)) : Int).toNat)) else (none)) else (none)) else (diacriticref26_Declared.l0 k x3 (wrap64 (x4 + 1)))) else (none)) else (none)) else (diacriticref26_Declared.l0 k x3 (wrap64 (x4 + 1)))) else (none)) else (none)) else (diacriticref26_Declared.l0 k x3 (wrap64 (x4 + 1)))) else (none)) else (some (⟨#[]⟩ : ByteArray))
def diacriticref26_Declared.f (k : Nat) (a0 : ByteArray) : Option (ByteArray) := (diacriticref22_Lines.f k a0).bind fun t494 => (diacriticref26_Declared.l0 k t494 0)
theorem diacriticref26_Declared.mono_l : ∀ k, (∀ y0 y1, LeO (diacriticref26_Declared.l0 k y0 y1) (diacriticref26_Declared.l0 (k + 1) y0 y1))
 | 0 => fun _ _ r h => by simp [diacriticref26_Declared.l0] at h
 | k + 1 => by
  have ih0 := diacriticref26_Declared.mono_l k
  ·
   intro y0 y1
   unfold diacriticref26_Declared.l0
   repeat' first
   | (with_reducible exact ih0 _ _)
   | (with_reducible exact diacriticref22_Lines.mono _ _)
   | (with_reducible exact LeO.refl _)
   | (with_reducible exact LeO.none _)
   | (with_reducible refine LeO.ite ?_ ?_)
   | (with_reducible refine LeO.bind ?_ (fun _ => ?_))
   | exact ih0 _ _
   | exact diacriticref22_Lines.mono _ _
   | exact LeO.none _
   | refine LeO.ite ?_ ?_
   | refine LeO.bind ?_ (fun _ => ?_)
theorem diacriticref26_Declared.mono : ∀ a0 k, LeO (diacriticref26_Declared.f k a0) (diacriticref26_Declared.f (k + 1) a0) := by
 intro a0 k
 have ih0 := diacriticref26_Declared.mono_l k
 unfold diacriticref26_Declared.f
 repeat' first
   | (with_reducible exact ih0 _ _)
   | (with_reducible exact diacriticref22_Lines.mono _ _)
   | (with_reducible exact LeO.refl _)
   | (with_reducible exact LeO.none _)
   | (with_reducible refine LeO.ite ?_ ?_)
   | (with_reducible refine LeO.bind ?_ (fun _ => ?_))
   | exact ih0 _ _
   | exact diacriticref22_Lines.mono _ _
   | exact LeO.none _
   | refine LeO.ite ?_ ?_
   | refine LeO.bind ?_ (fun _ => ?_)
set_option maxHeartbeats 8000000 in
set_option maxRecDepth 100000 in
theorem diacriticref26_Declared.calls (k : Nat) (a0 : ByteArray) (r : ByteArray) (w : World) (h : diacriticref26_Declared.f k a0 = some r) :
  Calls Try.prog 42 #[.string a0] w fun e w' => e = .returned (.string r) ∧ Below w.heap.size w w' := by
 have HB := Aside0.mk (Below.refl w.heap.size w)
 have H : ((diacriticref22_Lines.f k a0).bind fun t494 => (diacriticref26_Declared.l0 k t494 0)) = some r := h
 clear h; replace H := Option.bind_eq_some_iff.mp H; obtain ⟨t494, A20, H⟩ := H
 replace H : (diacriticref26_Declared.l0 k t494 0) = some r := H
 have A2 := Aside0.mk A20; clear A20
 have H' := Aside0.mk H
 clear H
 go_enter Try.func42, Try.ntmps42
 go_wp2_with (first | ((with_reducible refine gate_callee (f := 16) rfl ?_); refine goesL_ (some 7) rfl rfl Try.func16 (by kernel_rfl) rfl #[.string a0] rfl (by (try simp only [List.map_toArray, List.map_cons, List.map_nil]); first | done | rfl | (simp only [List.length_drop, List.length_take]; rfl)) ?_; (with_reducible refine (diacriticref22_Lines.calls k a0 t494 _ A2.out).mono ?_); rintro e w3 ⟨v495, rfl, ho0, hb⟩; refine ⟨_, rfl, ?_⟩; have n0_ := Aside0.mk (Kd.R_lower ho0 (below_size (by repeat (first | (with_reducible first | exact HB.out | apply below_alloc | apply pw_below_drewN | apply below_drew1) | exact HB.out)))); have n1_ := Aside0.mk (below_step (by repeat (first | (with_reducible first | exact HB.out | apply below_alloc | apply pw_below_drewN | apply below_drew1) | exact HB.out)) hb); clear HB; have HO496 := n0_; have HB := n1_; clear n0_ n1_; (try clear hb); (try clear hb2); (try clear hk); (try clear hi); (try clear ho0)))
 go_loopg [4] k (fun kq v4 w' => ∃ (x4_1 : Int), v4 = .int .i64 x4_1 ∧ Aside0 (diacriticref26_Declared.l0 kq t494 x4_1 = some r) ∧ Aside0 (kq ≤ k) ∧ Aside0 (Kd.R k29 29 w' w.heap.size (fun _ => True) v495 t494) ∧ Aside0 (Below w.heap.size w w'))
 case atStart => exact ⟨(0), (by first | rfl | (simp; done) | (simp [*]; done) | (simp [beq_nil_isEmpty, bne_nil_isEmpty]; done)), H', ⟨Nat.le_refl _⟩, ⟨by (with_reducible repeat (first | apply Kd.R_alloc | apply Kd.R_drewN | apply Kd.R_drew)); exact HO496.out⟩, ⟨by repeat (first | (with_reducible first | exact HB.out | apply below_alloc | apply pw_below_drewN | apply below_drew1) | exact HB.out)⟩⟩
 case round =>
  clear H'
  try clear c1
  try clear p2
  obtain ⟨x4_1, rfl, HA, HK1, HO_3, HB⟩ := hrel
  cases gk with
  | zero => exact absurd HA.out (by simp [diacriticref26_Declared.l0])
  | succ k1 =>
   have H := HA.out
   clear HA
   simp only [diacriticref26_Declared.l0] at H
   by_cases c4 : x4_1 < (t494.length : Int)
   ·
    rw [if_pos c4] at H
    have c4b0 : decide (x4_1 < (t494.length : Int)) = true := decide_eq_true c4
    clear c4
    by_cases c5 : 0 ≤ x4_1
    ·
     rw [if_pos c5] at H
     have c5b0 : decide (0 ≤ x4_1) = true := decide_eq_true c5
     clear c5
     by_cases c6 : (((rd_T29 t494 x4_1).f0).size : Int) ≥ 5
     ·
      rw [if_pos c6] at H
      have c6b0 : decide (5 ≤ (((rd_T29 t494 x4_1).f0).size : Int)) = true := decide_eq_true c6
      have c6b1 : decide (5 ≤ ((rd_T29 t494 x4_1).f0).size) = true := decide_eq_true (by omega)
      clear c6
      by_cases c7 : 0 ≤ 4
      ·
       rw [if_pos c7] at H
       have c7b0 := eq_true c7
       have c7b1 : decide (0 ≤ 4) = true := decide_eq_true c7
       clear c7
       by_cases c8 : 4 ≤ (((rd_T29 t494 x4_1).f0).size : Int)
       ·
        rw [if_pos c8] at H
        have c8b0 := eq_true c8
        have c8b1 : decide (4 ≤ (((rd_T29 t494 x4_1).f0).size : Int)) = true := decide_eq_true c8
        clear c8
        by_cases c9 : (((rd_T29 t494 x4_1).f0).extract 0 4).toList = ([91, 99, 115, 58] : List UInt8)
        ·
         rw [if_pos c9] at H
         have c9b0 : ((((rd_T29 t494 x4_1).f0).extract 0 4).toList == ([91, 99, 115, 58] : List UInt8)) = true := beq_iff_eq.mpr c9
         have c9b1 : ((((rd_T29 t494 x4_1).f0).extract 0 4).toList != ([91, 99, 115, 58] : List UInt8)) = false := bne_eq_false_iff_eq.mpr c9
         clear c9
         obtain ⟨ji10, hji10⟩ : ∃ j_ : Int, (wrap64 ((((rd_T29 t494 x4_1).f0).size : Int) - 1)) = j_ := ⟨_, rfl⟩
         replace H : (if 0 ≤ (ji10) then (if (ji10) < (((rd_T29 t494 x4_1).f0).size : Int) then (if (bt ((rd_T29 t494 x4_1).f0) (ji10)) = 93 then (if 4 ≤ (ji10) then (if (ji10) ≤ (((rd_T29 t494 x4_1).f0).size : Int) then (some (((rd_T29 t494 x4_1).f0).extract 4 ((ji10) : Int).toNat)) else (none)) else (none)) else (diacriticref26_Declared.l0 k1 t494 (wrap64 (x4_1 + 1)))) else (none)) else (none)) = some r := by first | (rw [hji10] at H; exact H) | (simp only [hji10] at H ⊢; exact H)
         have hji10w : (IntKind.i64.wrap ((((rd_T29 t494 x4_1).f0).size : Int) - 1)) = ji10 := (i64_w _).trans hji10
         by_cases c11 : 0 ≤ (ji10)
         ·
          rw [if_pos c11] at H
          have c11b0 : decide (0 ≤ (ji10)) = true := decide_eq_true c11
          clear c11
          by_cases c12 : (ji10) < (((rd_T29 t494 x4_1).f0).size : Int)
          ·
           rw [if_pos c12] at H
           have c12b0 : decide ((ji10) < (((rd_T29 t494 x4_1).f0).size : Int)) = true := decide_eq_true c12
           clear c12
           by_cases c14 : (bt ((rd_T29 t494 x4_1).f0) (ji10)) = 93
           ·
            rw [if_pos c14] at H
            have c14b0 : ((bt ((rd_T29 t494 x4_1).f0) (ji10)) == 93) = true := beq_iff_eq.mpr c14
            have c14b1 : ((bt ((rd_T29 t494 x4_1).f0) (ji10)) != 93) = false := bne_eq_false_iff_eq.mpr c14
            clear c14
            by_cases c15 : 4 ≤ (ji10)
            ·
             rw [if_pos c15] at H
             have c15b0 := eq_true c15
             have c15b1 : decide (4 ≤ (ji10)) = true := decide_eq_true c15
             clear c15
             by_cases c16 : (ji10) ≤ (((rd_T29 t494 x4_1).f0).size : Int)
             ·
              rw [if_pos c16] at H
              have c16b0 := eq_true c16
              have c16b1 : decide ((ji10) ≤ (((rd_T29 t494 x4_1).f0).size : Int)) = true := decide_eq_true c16
              clear c16; obtain rfl := Option.some.inj H
              obtain ⟨Ao17, co17, eo17⟩ := Kd.R_slice HO_3.out
              subst eo17
              have p497 : 0 ≤ (x4_1 : Int) := of_decide_eq_true (by first | (with_reducible assumption) | assumption)
              have q497 : x4_1 < (t494.length : Int) := of_decide_eq_true (by first | (with_reducible assumption) | assumption)
              obtain ⟨ad497, e497, hx497_0, hx497_1, hx497_2⟩ := at_T29 (Kd.R_reads' HO_3.out).2.2 x4_1 p497 q497
              cases e497
              replace p497 := eq_true p497
              replace q497 := eq_true q497
              have p13 : 0 ≤ ((ji10) : Int) := of_decide_eq_true (by first | (with_reducible assumption) | assumption)
              have q13 : (ji10) < (((rd_T29 t494 x4_1).f0).size : Int) := of_decide_eq_true (by first | (with_reducible assumption) | assumption)
              have hx13 := bt_at ((rd_T29 t494 x4_1).f0) (ji10)
              replace p13 := eq_true p13
              replace q13 := eq_true q13
              go_wp2
              go_ret
              exact ⟨by first | rfl | (simp [errW_none, errW_some] <;> rfl) | (simp only [← hji10]; first | rfl | (simp [errW_none, errW_some] <;> rfl)) | (simp [*, errW_none, errW_some] <;> rfl), by repeat (first | (with_reducible first | exact HB.out | apply below_alloc | apply pw_below_drewN | apply below_drew1) | exact HB.out)⟩
             ·
              rw [if_neg c16] at H
              exact absurd H (by simp)
            ·
             rw [if_neg c15] at H
             exact absurd H (by simp)
           ·
            rw [if_neg c14] at H
            have c14b0 : ((bt ((rd_T29 t494 x4_1).f0) (ji10)) == 93) = false := beq_eq_false_iff_ne.mpr c14
            have c14b1 : ((bt ((rd_T29 t494 x4_1).f0) (ji10)) != 93) = true := bne_iff_ne.mpr c14
            have H' := Aside0.mk H
            clear H
            obtain ⟨Ao18, co18, eo18⟩ := Kd.R_slice HO_3.out
            subst eo18
            have p497 : 0 ≤ (x4_1 : Int) := of_decide_eq_true (by first | (with_reducible assumption) | assumption)
            have q497 : x4_1 < (t494.length : Int) := of_decide_eq_true (by first | (with_reducible assumption) | assumption)
            obtain ⟨ad497, e497, hx497_0, hx497_1, hx497_2⟩ := at_T29 (Kd.R_reads' HO_3.out).2.2 x4_1 p497 q497
            cases e497
            replace p497 := eq_true p497
            replace q497 := eq_true q497
            have p13 : 0 ≤ ((ji10) : Int) := of_decide_eq_true (by first | (with_reducible assumption) | assumption)
            have q13 : (ji10) < (((rd_T29 t494 x4_1).f0).size : Int) := of_decide_eq_true (by first | (with_reducible assumption) | assumption)
            have hx13 := bt_at ((rd_T29 t494 x4_1).f0) (ji10)
            replace p13 := eq_true p13
            replace q13 := eq_true q13
            go_wp2
            go_roundg k1
            case measure => have := HK1.out; omega
            case rel => exact ⟨(wrap64 (x4_1 + 1)), (by first | rfl | (simp; done) | (simp [*]; done) | (simp [beq_nil_isEmpty, bne_nil_isEmpty]; done)), H', ⟨by have := HK1.out; omega⟩, ⟨by (with_reducible repeat (first | apply Kd.R_alloc | apply Kd.R_drewN | apply Kd.R_drew)); exact HO_3.out⟩, ⟨by repeat (first | (with_reducible first | exact HB.out | apply below_alloc | apply pw_below_drewN | apply below_drew1) | exact HB.out)⟩⟩
          ·
           rw [if_neg c12] at H
           exact absurd H (by simp)
         ·
          rw [if_neg c11] at H
          exact absurd H (by simp)
        ·
         rw [if_neg c9] at H
         have c9b0 : ((((rd_T29 t494 x4_1).f0).extract 0 4).toList == ([91, 99, 115, 58] : List UInt8)) = false := beq_eq_false_iff_ne.mpr c9
         have c9b1 : ((((rd_T29 t494 x4_1).f0).extract 0 4).toList != ([91, 99, 115, 58] : List UInt8)) = true := bne_iff_ne.mpr c9
         have H' := Aside0.mk H
         clear H
         obtain ⟨Ao19, co19, eo19⟩ := Kd.R_slice HO_3.out
         subst eo19
         have p497 : 0 ≤ (x4_1 : Int) := of_decide_eq_true (by first | (with_reducible assumption) | assumption)
         have q497 : x4_1 < (t494.length : Int) := of_decide_eq_true (by first | (with_reducible assumption) | assumption)
         obtain ⟨ad497, e497, hx497_0, hx497_1, hx497_2⟩ := at_T29 (Kd.R_reads' HO_3.out).2.2 x4_1 p497 q497
         cases e497
         replace p497 := eq_true p497
         replace q497 := eq_true q497
         go_wp2
         go_roundg k1
         case measure => have := HK1.out; omega
         case rel => exact ⟨(wrap64 (x4_1 + 1)), (by first | rfl | (simp; done) | (simp [*]; done) | (simp [beq_nil_isEmpty, bne_nil_isEmpty]; done)), H', ⟨by have := HK1.out; omega⟩, ⟨by (with_reducible repeat (first | apply Kd.R_alloc | apply Kd.R_drewN | apply Kd.R_drew)); exact HO_3.out⟩, ⟨by repeat (first | (with_reducible first | exact HB.out | apply below_alloc | apply pw_below_drewN | apply below_drew1) | exact HB.out)⟩⟩
       ·
        rw [if_neg c8] at H
        exact absurd H (by simp)
      ·
       rw [if_neg c7] at H
       exact absurd H (by simp)
     ·
      rw [if_neg c6] at H
      have c6b0 : decide (5 ≤ (((rd_T29 t494 x4_1).f0).size : Int)) = false := decide_eq_false c6
      have c6b1 : decide (5 ≤ ((rd_T29 t494 x4_1).f0).size) = false := decide_eq_false (by omega)
      clear c6
      have H' := Aside0.mk H
      clear H
      obtain ⟨Ao20, co20, eo20⟩ := Kd.R_slice HO_3.out
      subst eo20
      have p497 : 0 ≤ (x4_1 : Int) := of_decide_eq_true (by first | (with_reducible assumption) | assumption)
      have q497 : x4_1 < (t494.length : Int) := of_decide_eq_true (by first | (with_reducible assumption) | assumption)
      obtain ⟨ad497, e497, hx497_0, hx497_1, hx497_2⟩ := at_T29 (Kd.R_reads' HO_3.out).2.2 x4_1 p497 q497
      cases e497
      replace p497 := eq_true p497
      replace q497 := eq_true q497
      go_wp2
      go_roundg k1
      case measure => have := HK1.out; omega
      case rel => exact ⟨(wrap64 (x4_1 + 1)), (by first | rfl | (simp; done) | (simp [*]; done) | (simp [beq_nil_isEmpty, bne_nil_isEmpty]; done)), H', ⟨by have := HK1.out; omega⟩, ⟨by (with_reducible repeat (first | apply Kd.R_alloc | apply Kd.R_drewN | apply Kd.R_drew)); exact HO_3.out⟩, ⟨by repeat (first | (with_reducible first | exact HB.out | apply below_alloc | apply pw_below_drewN | apply below_drew1) | exact HB.out)⟩⟩
    ·
     rw [if_neg c5] at H
     exact absurd H (by simp)
   ·
    rw [if_neg c4] at H
    have c4b0 : decide (x4_1 < (t494.length : Int)) = false := decide_eq_false c4
    clear c4; obtain rfl := Option.some.inj H
    obtain ⟨Ao21, co21, eo21⟩ := Kd.R_slice HO_3.out
    subst eo21
    go_wp2
    go_ret
    exact ⟨by first | rfl | (simp [errW_none, errW_some] <;> rfl) | (simp [*, errW_none, errW_some] <;> rfl), by repeat (first | (with_reducible first | exact HB.out | apply below_alloc | apply pw_below_drewN | apply below_drew1) | exact HB.out)⟩

end Go.Proofs.Ytbndilnbfclmbaa.PAll
