/- Written by a program of this session: functions of the Go program as Lean functions, and the walks that tie them to it. -/
import Derived.Test.YtbndilnbfclmbaaPAllx0
import Derived.Test.YtbndilnbfclmbaaPAllx9
import Derived.Test.YtbndilnbfclmbaaPAllx12
import Derived.Test.YtbndilnbfclmbaaPAllx16
namespace Go.Proofs.Ytbndilnbfclmbaa.PAll
open Go.RowKit Go.Proofs.YtbndilnbfclmbaaW.PrintWords Go.Proofs.YtbndilnbfclmbaaW.PrintLast Go.Proofs.YtbndilnbfclmbaaW.PrintMore
attribute [local go_sem] max2_int min2_int max_two min_two max_three min_three max_four min_four   -- for this text's walks alone
set_option linter.unusedVariables false
set_option linter.unusedSimpArgs false

/-! ### diacriticref24_Parse: function 28 -/
mutual
def diacriticref24_Parse.l0 : Nat → ByteArray → List (S50) → List (S29) → Int → Int → Option ((List (S50)) × Int)
  | 0, _, _, _, _, _ => none
  | k + 1, x0, x4, x5, x6, x7 => if x7 < (x5.length : Int) then (if 0 ≤ x7 then (if x6 = 0 then (diacriticref24_Parse.j1 k x0 x4 x5 x6 x7 ((rd_T29 x5 x7).f0) (((rd_T29 x5 x7).f0).toList != ([] : List UInt8))) else (diacriticref24_Parse.j1 k x0 x4 x5 x6 x7 ((rd_T29 x5 x7).f0) false)) else (none)) else (if x6 = 1 then (some (([] : List (S50)), (x0.size : Int))) else (some (x4, (-1))))
def diacriticref24_Parse.j1 : Nat → ByteArray → List (S50) → List (S29) → Int → Int → ByteArray → Bool → Option ((List (S50)) × Int)
  | 0, _, _, _, _, _, _, _ => none
  | k + 1, x0, x4, x5, x6, x7, x8, x27 => if x27 = true then ((diacriticref22_Digits.f k x8).bind fun t323 => (if t323 = true then ((diacriticref22_Put.f x4 x8).bind fun t325 => (if 0 ≤ x7 then (if x7 < (x5.length : Int) then (if ((rd_T29 x5 x7).f1).toList = ([] : List UInt8) then (diacriticref24_Parse.l0 k x0 t325 x5 1 (wrap64 (x7 + 1))) else ((diacriticref22_Put.f t325 ((rd_T29 x5 x7).f1)).bind fun t330 => (diacriticref24_Parse.l0 k x0 t330 x5 1 (wrap64 (x7 + 1))))) else (none)) else (none))) else (if 0 ≤ x7 then (if x7 < (x5.length : Int) then (some (([] : List (S50)), (rd_T29 x5 x7).f2)) else (none)) else (none)))) else (if x6 = 1 then ((diacriticref24_Times.f k x8).bind fun t333 => (if t333 = true then ((diacriticref22_Put.f x4 x8).bind fun t335 => (if 0 ≤ x7 then (if x7 < (x5.length : Int) then (if ((rd_T29 x5 x7).f1).toList = ([] : List UInt8) then (diacriticref24_Parse.l0 k x0 t335 x5 2 (wrap64 (x7 + 1))) else ((diacriticref22_Put.f t335 ((rd_T29 x5 x7).f1)).bind fun t340 => (diacriticref24_Parse.l0 k x0 t340 x5 2 (wrap64 (x7 + 1))))) else (none)) else (none))) else (if 0 ≤ x7 then (if x7 < (x5.length : Int) then (some (([] : List (S50)), (rd_T29 x5 x7).f2)) else (none)) else (none)))) else (if x6 = 2 then (diacriticref24_Parse.j2 k x0 x4 x5 x6 x7 x8 (x8.toList == ([] : List UInt8))) else (diacriticref24_Parse.j2 k x0 x4 x5 x6 x7 x8 false)))
def diacriticref24_Parse.j2 : Nat → ByteArray → List (S50) → List (S29) → Int → Int → ByteArray → Bool → Option ((List (S50)) × Int)
  | 0, _, _, _, _, _, _, _ => none
  | k + 1, x0, x4, x5, x6, x7, x8, x57 => if x57 = true then (if 0 ≤ x7 then (if x7 < (x5.length : Int) then (if ((rd_T29 x5 x7).f1).toList = ([] : List UInt8) then (diacriticref24_Parse.l0 k x0 x4 x5 0 (wrap64 (x7 + 1))) else ((diacriticref22_Put.f x4 ((rd_T29 x5 x7).f1)).bind fun t345 => (diacriticref24_Parse.l0 k x0 t345 x5 0 (wrap64 (x7 + 1))))) else (none)) else (none)) else (if x6 = 2 then ((diacriticref22_Write.f x4 (⟨#[116, 101, 120, 116]⟩ : ByteArray) x8).bind fun t348 => (if 0 ≤ x7 then (if x7 < (x5.length : Int) then (if ((rd_T29 x5 x7).f1).toList = ([] : List UInt8) then (diacriticref24_Parse.l0 k x0 t348 x5 x6 (wrap64 (x7 + 1))) else ((diacriticref22_Put.f t348 ((rd_T29 x5 x7).f1)).bind fun t353 => (diacriticref24_Parse.l0 k x0 t353 x5 x6 (wrap64 (x7 + 1))))) else (none)) else (none))) else (if 0 ≤ x7 then (if x7 < (x5.length : Int) then (if ((rd_T29 x5 x7).f1).toList = ([] : List UInt8) then (diacriticref24_Parse.l0 k x0 x4 x5 x6 (wrap64 (x7 + 1))) else ((diacriticref22_Put.f x4 ((rd_T29 x5 x7).f1)).bind fun t358 => (diacriticref24_Parse.l0 k x0 t358 x5 x6 (wrap64 (x7 + 1))))) else (none)) else (none)))
end
def diacriticref24_Parse.f (k : Nat) (a0 : ByteArray) : Option ((List (S50)) × Int) := (diacriticref22_Lines.f k a0).bind fun t319 => (diacriticref24_Parse.l0 k a0 ([] : List (S50)) t319 0 0)
theorem diacriticref24_Parse.mono_l : ∀ k, (∀ y0 y1 y2 y3 y4, LeO (diacriticref24_Parse.l0 k y0 y1 y2 y3 y4) (diacriticref24_Parse.l0 (k + 1) y0 y1 y2 y3 y4)) ∧ (∀ y0 y1 y2 y3 y4 y5 y6, LeO (diacriticref24_Parse.j1 k y0 y1 y2 y3 y4 y5 y6) (diacriticref24_Parse.j1 (k + 1) y0 y1 y2 y3 y4 y5 y6)) ∧ (∀ y0 y1 y2 y3 y4 y5 y6, LeO (diacriticref24_Parse.j2 k y0 y1 y2 y3 y4 y5 y6) (diacriticref24_Parse.j2 (k + 1) y0 y1 y2 y3 y4 y5 y6))
  | 0 => ⟨fun _ _ _ _ _ r h => by simp [diacriticref24_Parse.l0] at h, fun _ _ _ _ _ _ _ r h => by simp [diacriticref24_Parse.j1] at h, fun _ _ _ _ _ _ _ r h => by simp [diacriticref24_Parse.j2] at h⟩
  | k + 1 => by
    obtain ⟨ih0, ih1, ih2⟩ := diacriticref24_Parse.mono_l k
    refine ⟨?_, ?_, ?_⟩
    · intro y0 y1 y2 y3 y4
      unfold diacriticref24_Parse.l0
      repeat' first
      | (with_reducible exact ih0 _ _ _ _ _)
      | (with_reducible exact ih1 _ _ _ _ _ _ _)
      | (with_reducible exact ih2 _ _ _ _ _ _ _)
      | (with_reducible exact diacriticref22_Digits.mono _ _)
      | (with_reducible exact diacriticref22_Lines.mono _ _)
      | (with_reducible exact diacriticref24_Times.mono _ _)
      | (with_reducible exact LeO.refl _)
      | (with_reducible exact LeO.none _)
      | (with_reducible refine LeO.ite ?_ ?_)
      | (with_reducible refine LeO.bind ?_ (fun _ => ?_))
      | exact ih0 _ _ _ _ _
      | exact ih1 _ _ _ _ _ _ _
      | exact ih2 _ _ _ _ _ _ _
      | exact diacriticref22_Digits.mono _ _
      | exact diacriticref22_Lines.mono _ _
      | exact diacriticref24_Times.mono _ _
      | exact LeO.none _
      | refine LeO.ite ?_ ?_
      | refine LeO.bind ?_ (fun _ => ?_)
    · intro y0 y1 y2 y3 y4 y5 y6
      unfold diacriticref24_Parse.j1
      repeat' first
      | (with_reducible exact ih0 _ _ _ _ _)
      | (with_reducible exact ih1 _ _ _ _ _ _ _)
      | (with_reducible exact ih2 _ _ _ _ _ _ _)
      | (with_reducible exact diacriticref22_Digits.mono _ _)
      | (with_reducible exact diacriticref22_Lines.mono _ _)
      | (with_reducible exact diacriticref24_Times.mono _ _)
      | (with_reducible exact LeO.refl _)
      | (with_reducible exact LeO.none _)
      | (with_reducible refine LeO.ite ?_ ?_)
      | (with_reducible refine LeO.bind ?_ (fun _ => ?_))
      | exact ih0 _ _ _ _ _
      | exact ih1 _ _ _ _ _ _ _
      | exact ih2 _ _ _ _ _ _ _
      | exact diacriticref22_Digits.mono _ _
      | exact diacriticref22_Lines.mono _ _
      | exact diacriticref24_Times.mono _ _
      | exact LeO.none _
      | refine LeO.ite ?_ ?_
      | refine LeO.bind ?_ (fun _ => ?_)
    · intro y0 y1 y2 y3 y4 y5 y6
      unfold diacriticref24_Parse.j2
      repeat' first
      | (with_reducible exact ih0 _ _ _ _ _)
      | (with_reducible exact ih1 _ _ _ _ _ _ _)
      | (with_reducible exact ih2 _ _ _ _ _ _ _)
      | (with_reducible exact diacriticref22_Digits.mono _ _)
      | (with_reducible exact diacriticref22_Lines.mono _ _)
      | (with_reducible exact diacriticref24_Times.mono _ _)
      | (with_reducible exact LeO.refl _)
      | (with_reducible exact LeO.none _)
      | (with_reducible refine LeO.ite ?_ ?_)
      | (with_reducible refine LeO.bind ?_ (fun _ => ?_))
      | exact ih0 _ _ _ _ _
      | exact ih1 _ _ _ _ _ _ _
      | exact ih2 _ _ _ _ _ _ _
      | exact diacriticref22_Digits.mono _ _
      | exact diacriticref22_Lines.mono _ _
      | exact diacriticref24_Times.mono _ _
      | exact LeO.none _
      | refine LeO.ite ?_ ?_
      | refine LeO.bind ?_ (fun _ => ?_)
theorem diacriticref24_Parse.mono : ∀ a0 k, LeO (diacriticref24_Parse.f k a0) (diacriticref24_Parse.f (k + 1) a0) := by
  intro a0 k
  obtain ⟨ih0, ih1, ih2⟩ := diacriticref24_Parse.mono_l k
  unfold diacriticref24_Parse.f
  repeat' first
      | (with_reducible exact ih0 _ _ _ _ _)
      | (with_reducible exact ih1 _ _ _ _ _ _ _)
      | (with_reducible exact ih2 _ _ _ _ _ _ _)
      | (with_reducible exact diacriticref22_Digits.mono _ _)
      | (with_reducible exact diacriticref22_Lines.mono _ _)
      | (with_reducible exact diacriticref24_Times.mono _ _)
      | (with_reducible exact LeO.refl _)
      | (with_reducible exact LeO.none _)
      | (with_reducible refine LeO.ite ?_ ?_)
      | (with_reducible refine LeO.bind ?_ (fun _ => ?_))
      | exact ih0 _ _ _ _ _
      | exact ih1 _ _ _ _ _ _ _
      | exact ih2 _ _ _ _ _ _ _
      | exact diacriticref22_Digits.mono _ _
      | exact diacriticref22_Lines.mono _ _
      | exact diacriticref24_Times.mono _ _
      | exact LeO.none _
      | refine LeO.ite ?_ ?_
      | refine LeO.bind ?_ (fun _ => ?_)
set_option maxHeartbeats 8000000 in
set_option maxRecDepth 100000 in
theorem diacriticref24_Parse.calls (k : Nat) (a0 : ByteArray) (r1 : List (S50)) (r2 : Int) (w : World) (h : diacriticref24_Parse.f k a0 = some (r1, r2)) :
    Calls Try.prog 28 #[.string a0] w fun e w' => ∃ v0_ : Value, e = .returned (.tuple #[v0_, .int .i64 r2]) ∧ Kd.R k50 50 w' w.heap.size (fun _ => True) v0_ r1 ∧ Below w.heap.size w w' := by
  have HB := Aside0.mk (Below.refl w.heap.size w)
  have H : ((diacriticref22_Lines.f k a0).bind fun t319 => (diacriticref24_Parse.l0 k a0 ([] : List (S50)) t319 0 0)) = some (r1, r2) := h
  clear h
  replace H := Option.bind_eq_some_iff.mp H
  obtain ⟨t319, A20, H⟩ := H
  replace H : (diacriticref24_Parse.l0 k a0 ([] : List (S50)) t319 0 0) = some (r1, r2) := H
  have A2 := Aside0.mk A20
  clear A20
  have H' := Aside0.mk H
  clear H
  go_enter Try.func28, Try.ntmps28
  go_wp2_with (first | (go_at_call 16; (with_reducible refine (diacriticref22_Lines.calls k a0 t319 _ A2.out).mono ?_); rintro e w3 ⟨v320, rfl, ho0, hb⟩; have n0_ := Aside0.mk (Kd.R_lower ho0 (below_size (by repeat (first | (with_reducible first | exact HB.out | apply below_alloc | apply pw_below_drewN | apply below_drew1) | exact HB.out)))); have n1_ := Aside0.mk (below_step (by repeat (first | (with_reducible first | exact HB.out | apply below_alloc | apply pw_below_drewN | apply below_drew1) | exact HB.out)) hb); clear HB; have HO321 := n0_; have HB := n1_; clear n0_ n1_; (try clear hb); (try clear hb2); (try clear hk); (try clear hi); (try clear ho0)))
  repeat (go_quiet (first | (go_at_call 16; (with_reducible refine (diacriticref22_Lines.calls k a0 t319 _ A2.out).mono ?_); rintro e w3 ⟨v320, rfl, ho0, hb⟩; have n0_ := Aside0.mk (Kd.R_lower ho0 (below_size (by repeat (first | (with_reducible first | exact HB.out | apply below_alloc | apply pw_below_drewN | apply below_drew1) | exact HB.out)))); have n1_ := Aside0.mk (below_step (by repeat (first | (with_reducible first | exact HB.out | apply below_alloc | apply pw_below_drewN | apply below_drew1) | exact HB.out)) hb); clear HB; have HO321 := n0_; have HB := n1_; clear n0_ n1_; (try clear hb); (try clear hb2); (try clear hk); (try clear hi); (try clear ho0))); try go_wp2_with (first | (go_at_call 16; (with_reducible refine (diacriticref22_Lines.calls k a0 t319 _ A2.out).mono ?_); rintro e w3 ⟨v320, rfl, ho0, hb⟩; have n0_ := Aside0.mk (Kd.R_lower ho0 (below_size (by repeat (first | (with_reducible first | exact HB.out | apply below_alloc | apply pw_below_drewN | apply below_drew1) | exact HB.out)))); have n1_ := Aside0.mk (below_step (by repeat (first | (with_reducible first | exact HB.out | apply below_alloc | apply pw_below_drewN | apply below_drew1) | exact HB.out)) hb); clear HB; have HO321 := n0_; have HB := n1_; clear n0_ n1_; (try clear hb); (try clear hb2); (try clear hk); (try clear hi); (try clear ho0))))
  go_loopg [4, 6, 7] k (fun kq v4 v6 v7 w' => ∃ (x4_1 : List (S50)) (x6_1 : Int) (x7_1 : Int), v6 = .int .i64 x6_1 ∧ v7 = .int .i64 x7_1 ∧ Aside0 (diacriticref24_Parse.l0 kq a0 x4_1 t319 x6_1 x7_1 = some (r1, r2)) ∧ Aside0 (kq ≤ k) ∧ Aside0 (Kd.R k50 50 w' w.heap.size (fun _ => True) v4 x4_1) ∧ Aside0 (Kd.R k29 29 w' w.heap.size (fun _ => True) v320 t319) ∧ Aside0 (Below w.heap.size w w'))
  case atStart => exact ⟨(([] : List (S50))), (0), (0), (by first | rfl | (simp; done) | (simp [*]; done) | (simp [beq_nil_isEmpty, bne_nil_isEmpty]; done)), (by first | rfl | (simp; done) | (simp [*]; done) | (simp [beq_nil_isEmpty, bne_nil_isEmpty]; done)), H', ⟨Nat.le_refl _⟩, ⟨by first | exact Kd.R_nil _ _ _ _ _ | exact Kd.N_nil _ _ _ _ _ | exact Kd.V_nil _ _ _ _ _ | exact Kd.Q_nil _ _ _ _ _ | exact Kd.S_nil _ _ _ _ _⟩, ⟨by (with_reducible repeat (first | apply Kd.R_alloc | apply Kd.R_drewN | apply Kd.R_drew)); exact HO321.out⟩, ⟨by repeat (first | (with_reducible first | exact HB.out | apply below_alloc | apply pw_below_drewN | apply below_drew1) | exact HB.out)⟩⟩
  case round =>
    clear H'
    try clear c2
    try clear p2
    obtain ⟨x4_1, x6_1, x7_1, rfl, rfl, HA, HK1, HO_4, HO_5, HB⟩ := hrel
    cases gk with
    | zero => exact absurd HA.out (by simp [diacriticref24_Parse.l0])
    | succ k1 =>
      have H := HA.out
      clear HA
      simp only [diacriticref24_Parse.l0] at H
      by_cases c4 : x7_1 < (t319.length : Int)
      · rw [if_pos c4] at H
        have c4b0 : decide (x7_1 < (t319.length : Int)) = true := decide_eq_true c4
        clear c4
        by_cases c5 : 0 ≤ x7_1
        · rw [if_pos c5] at H
          have c5b0 : decide (0 ≤ x7_1) = true := decide_eq_true c5
          clear c5
          have HC6 := Aside0.mk H
          clear H
          obtain ⟨Ao7, co7, eo7⟩ := Kd.R_slice HO_5.out
          subst eo7
          have p322 : 0 ≤ (x7_1 : Int) := of_decide_eq_true (by first | (with_reducible assumption) | assumption)
          have q322 : x7_1 < (t319.length : Int) := of_decide_eq_true (by first | (with_reducible assumption) | assumption)
          obtain ⟨ad322, e322, hx322_0, hx322_1, hx322_2⟩ := at_T29 (Kd.R_reads' HO_5.out).2.2 x7_1 p322 q322
          cases e322
          replace p322 := eq_true p322
          replace q322 := eq_true q322
          go_upto_region 8 with (fail)
          repeat (go_quiet (fail); go_upto_region 8 with (fail))
          go_cut [27] (fun v27 wc => ∃ (kq : Nat) (x27_5 : Bool), v27 = .bool x27_5 ∧ Aside0 (diacriticref24_Parse.j1 kq a0 x4_1 t319 x6_1 x7_1 ((rd_T29 t319 x7_1).f0) x27_5 = some (r1, r2)) ∧ Aside0 (kq ≤ k1) ∧ Aside0 (Kd.R k50 50 wc w.heap.size (fun _ => True) u4 x4_1) ∧ Aside0 (Kd.R k29 29 wc w.heap.size (fun _ => True) (.slice (some ad322) t319.length co7) t319) ∧ Aside0 (Below w.heap.size w wc))
          case first =>
            have H := HC6.out
            clear HC6
            by_cases c8 : x6_1 = 0
            · rw [if_pos c8] at H
              have c8b0 : (x6_1 == 0) = true := beq_iff_eq.mpr c8
              have c8b1 : (x6_1 != 0) = false := bne_eq_false_iff_eq.mpr c8
              clear c8
              (first | rw [c8b0] | (simp only [i64_w, i32_w]; rw [c8b0]) | skip)
              have H' := Aside0.mk H
              clear H
              go_wp2
              repeat (go_quiet (fail); try go_wp2)
              go_meet
              case rel => exact ⟨_, ((((rd_T29 t319 x7_1).f0).toList != ([] : List UInt8))), (by first | rfl | (simp; done) | (simp [*]; done) | (simp [beq_nil_isEmpty, bne_nil_isEmpty]; done)), H', ⟨by have := HK1.out; first | omega | exact Nat.le_refl _⟩, ⟨by (with_reducible repeat (first | apply Kd.R_alloc | apply Kd.R_drewN | apply Kd.R_drew)); exact HO_4.out⟩, ⟨by (with_reducible repeat (first | apply Kd.R_alloc | apply Kd.R_drewN | apply Kd.R_drew)); exact HO_5.out⟩, ⟨by repeat (first | (with_reducible first | exact HB.out | apply below_alloc | apply pw_below_drewN | apply below_drew1) | exact HB.out)⟩⟩
            · rw [if_neg c8] at H
              have c8b0 : (x6_1 == 0) = false := beq_eq_false_iff_ne.mpr c8
              have c8b1 : (x6_1 != 0) = true := bne_iff_ne.mpr c8
              (first | rw [c8b0] | (simp only [i64_w, i32_w]; rw [c8b0]) | skip)
              have H' := Aside0.mk H
              clear H
              go_wp2
              repeat (go_quiet (fail); try go_wp2)
              go_meet
              case rel => exact ⟨_, (false), (by first | rfl | (simp; done) | (simp [*]; done) | (simp [beq_nil_isEmpty, bne_nil_isEmpty]; done)), H', ⟨by have := HK1.out; first | omega | exact Nat.le_refl _⟩, ⟨by (with_reducible repeat (first | apply Kd.R_alloc | apply Kd.R_drewN | apply Kd.R_drew)); exact HO_4.out⟩, ⟨by (with_reducible repeat (first | apply Kd.R_alloc | apply Kd.R_drewN | apply Kd.R_drew)); exact HO_5.out⟩, ⟨by repeat (first | (with_reducible first | exact HB.out | apply below_alloc | apply pw_below_drewN | apply below_drew1) | exact HB.out)⟩⟩
          case rest =>
            clear HC6
            try clear c2
            try clear p2
            try clear p3
            try clear q3
            try clear hx3
            try clear c4
            try clear c4b0
            try clear c5
            try clear c5b0
            try clear c8
            try clear c8b0
            try clear c8b1
            try clear hx322_0
            try clear hx322_1
            try clear hx322_2
            try clear p2
            try clear p322
            try clear q322
            obtain ⟨kq, x27_5, rfl, HA, HJ5, HO_4, HO_5, HB⟩ := hcut
            cases kq with
            | zero => exact absurd HA.out (by simp [diacriticref24_Parse.j1])
            | succ kj5 =>
              have H := HA.out
              clear HA
              simp only [diacriticref24_Parse.j1] at H
              by_cases c9 : x27_5 = true
              · subst c9
                have H1 : ((diacriticref22_Digits.f kj5 ((rd_T29 t319 x7_1).f0)).bind fun t323 => (if t323 = true then ((diacriticref22_Put.f x4_1 ((rd_T29 t319 x7_1).f0)).bind fun t325 => (if 0 ≤ x7_1 then (if x7_1 < (t319.length : Int) then (if ((rd_T29 t319 x7_1).f1).toList = ([] : List UInt8) then (diacriticref24_Parse.l0 kj5 a0 t325 t319 1 (wrap64 (x7_1 + 1))) else ((diacriticref22_Put.f t325 ((rd_T29 t319 x7_1).f1)).bind fun t330 => (diacriticref24_Parse.l0 kj5 a0 t330 t319 1 (wrap64 (x7_1 + 1))))) else (none)) else (none))) else (if 0 ≤ x7_1 then (if x7_1 < (t319.length : Int) then (some (([] : List (S50)), (rd_T29 t319 x7_1).f2)) else (none)) else (none)))) = some (r1, r2) := by rw [if_pos rfl] at H; exact H
                clear H
                have H := H1
                clear H1
                replace H := Option.bind_eq_some_iff.mp H
                obtain ⟨t323, A100, H⟩ := H
                replace H : (if t323 = true then ((diacriticref22_Put.f x4_1 ((rd_T29 t319 x7_1).f0)).bind fun t325 => (if 0 ≤ x7_1 then (if x7_1 < (t319.length : Int) then (if ((rd_T29 t319 x7_1).f1).toList = ([] : List UInt8) then (diacriticref24_Parse.l0 kj5 a0 t325 t319 1 (wrap64 (x7_1 + 1))) else ((diacriticref22_Put.f t325 ((rd_T29 t319 x7_1).f1)).bind fun t330 => (diacriticref24_Parse.l0 kj5 a0 t330 t319 1 (wrap64 (x7_1 + 1))))) else (none)) else (none))) else (if 0 ≤ x7_1 then (if x7_1 < (t319.length : Int) then (some (([] : List (S50)), (rd_T29 t319 x7_1).f2)) else (none)) else (none))) = some (r1, r2) := H
                have A10 := Aside0.mk A100
                clear A100
                by_cases c11 : t323 = true
                · subst c11
                  have H1 : ((diacriticref22_Put.f x4_1 ((rd_T29 t319 x7_1).f0)).bind fun t325 => (if 0 ≤ x7_1 then (if x7_1 < (t319.length : Int) then (if ((rd_T29 t319 x7_1).f1).toList = ([] : List UInt8) then (diacriticref24_Parse.l0 kj5 a0 t325 t319 1 (wrap64 (x7_1 + 1))) else ((diacriticref22_Put.f t325 ((rd_T29 t319 x7_1).f1)).bind fun t330 => (diacriticref24_Parse.l0 kj5 a0 t330 t319 1 (wrap64 (x7_1 + 1))))) else (none)) else (none))) = some (r1, r2) := by rw [if_pos rfl] at H; exact H
                  clear H
                  have H := H1
                  clear H1
                  replace H := Option.bind_eq_some_iff.mp H
                  obtain ⟨t325, A120, H⟩ := H
                  replace H : (if 0 ≤ x7_1 then (if x7_1 < (t319.length : Int) then (if ((rd_T29 t319 x7_1).f1).toList = ([] : List UInt8) then (diacriticref24_Parse.l0 kj5 a0 t325 t319 1 (wrap64 (x7_1 + 1))) else ((diacriticref22_Put.f t325 ((rd_T29 t319 x7_1).f1)).bind fun t330 => (diacriticref24_Parse.l0 kj5 a0 t330 t319 1 (wrap64 (x7_1 + 1))))) else (none)) else (none)) = some (r1, r2) := H
                  have A12 := Aside0.mk A120
                  clear A120
                  by_cases c13 : 0 ≤ x7_1
                  · rw [if_pos c13] at H
                    have c13b0 : decide (0 ≤ x7_1) = true := decide_eq_true c13
                    clear c13
                    by_cases c14 : x7_1 < (t319.length : Int)
                    · rw [if_pos c14] at H
                      have c14b0 : decide (x7_1 < (t319.length : Int)) = true := decide_eq_true c14
                      clear c14
                      by_cases c15 : ((rd_T29 t319 x7_1).f1).toList = ([] : List UInt8)
                      · rw [if_pos c15] at H
                        have c15b0 : (((rd_T29 t319 x7_1).f1).toList == ([] : List UInt8)) = true := beq_iff_eq.mpr c15
                        have c15b1 : (((rd_T29 t319 x7_1).f1).toList != ([] : List UInt8)) = false := bne_eq_false_iff_eq.mpr c15
                        clear c15
                        have H' := Aside0.mk H
                        clear H
                        go_wp2_with (first | (go_at_call 21; (with_reducible refine (diacriticref22_Digits.calls kj5 ((rd_T29 t319 x7_1).f0) true _ A10.out).mono ?_); rintro e w' ⟨rfl, ⟨nd, rfl⟩⟩; (try first | exact ⟨rfl, _, World.drewN_drewN _ _ _⟩ | exact ⟨rfl, _, Eq.trans (World.drewN_drewN _ _ _) (congrArg (World.drewN _) (Nat.add_assoc _ _ _))⟩); obtain ⟨Ao16, co16, eo16⟩ := Kd.R_slice HO_4.out; subst eo16) | (go_at_call 53; (with_reducible refine (diacriticref22_Put.calls (fun k_ => some k_ = (.slice Ao16 x4_1.length co16 : Value).ownBlock) (.slice Ao16 x4_1.length co16) x4_1 ((rd_T29 t319 x7_1).f0) t325 w _ ?side1 ?side2 A12.out).mono ?_); (case side1 => repeat (first | (with_reducible first | exact HB.out | apply below_alloc | apply pw_below_drewN | apply below_drew1) | exact HB.out)); (case side2 => exact Kd.R_tight rfl HO_4.out); rintro e w17 ⟨v326, rfl, ho0, hb, hkp⟩; have n0_ := Aside0.mk (Kd.R_mono (ok' := fun k_ => True) (Kd.R_keptB ((Kd.R_apart' HO_5.out (Kd.R_typed HO_4.out) (by decide))) hkp (fun k_ hk_ hs_ => (hk_.2) hs_)) (fun k_ hk_ => trivial)); have n1_ := Aside0.mk (Kd.R_mono (ok' := fun k_ => True) ho0 (fun k_ hk_ => trivial)); have n2_ := Aside0.mk (hb); clear HO_5; clear HB; clear HO_4; have HO_5 := n0_; have HO327 := n1_; have HB := n2_; clear n0_ n1_ n2_; (try clear hb); (try clear hkp); (try clear ho0); have p328 : 0 ≤ (x7_1 : Int) := of_decide_eq_true (by first | (with_reducible assumption) | assumption); have q328 : x7_1 < (t319.length : Int) := of_decide_eq_true (by first | (with_reducible assumption) | assumption); obtain ⟨ad328, e328, hx328_0, hx328_1, hx328_2⟩ := at_T29 (Kd.R_reads' HO_5.out).2.2 x7_1 p328 q328; obtain rfl : ad322 = ad328 := (by injection e328); replace p328 := eq_true p328; replace q328 := eq_true q328))
                        repeat (go_quiet (first | (go_at_call 21; (with_reducible refine (diacriticref22_Digits.calls kj5 ((rd_T29 t319 x7_1).f0) true _ A10.out).mono ?_); rintro e w' ⟨rfl, ⟨nd, rfl⟩⟩; (try first | exact ⟨rfl, _, World.drewN_drewN _ _ _⟩ | exact ⟨rfl, _, Eq.trans (World.drewN_drewN _ _ _) (congrArg (World.drewN _) (Nat.add_assoc _ _ _))⟩); obtain ⟨Ao16, co16, eo16⟩ := Kd.R_slice HO_4.out; subst eo16) | (go_at_call 53; (with_reducible refine (diacriticref22_Put.calls (fun k_ => some k_ = (.slice Ao16 x4_1.length co16 : Value).ownBlock) (.slice Ao16 x4_1.length co16) x4_1 ((rd_T29 t319 x7_1).f0) t325 w _ ?side1 ?side2 A12.out).mono ?_); (case side1 => repeat (first | (with_reducible first | exact HB.out | apply below_alloc | apply pw_below_drewN | apply below_drew1) | exact HB.out)); (case side2 => exact Kd.R_tight rfl HO_4.out); rintro e w17 ⟨v326, rfl, ho0, hb, hkp⟩; have n0_ := Aside0.mk (Kd.R_mono (ok' := fun k_ => True) (Kd.R_keptB ((Kd.R_apart' HO_5.out (Kd.R_typed HO_4.out) (by decide))) hkp (fun k_ hk_ hs_ => (hk_.2) hs_)) (fun k_ hk_ => trivial)); have n1_ := Aside0.mk (Kd.R_mono (ok' := fun k_ => True) ho0 (fun k_ hk_ => trivial)); have n2_ := Aside0.mk (hb); clear HO_5; clear HB; clear HO_4; have HO_5 := n0_; have HO327 := n1_; have HB := n2_; clear n0_ n1_ n2_; (try clear hb); (try clear hkp); (try clear ho0); have p328 : 0 ≤ (x7_1 : Int) := of_decide_eq_true (by first | (with_reducible assumption) | assumption); have q328 : x7_1 < (t319.length : Int) := of_decide_eq_true (by first | (with_reducible assumption) | assumption); obtain ⟨ad328, e328, hx328_0, hx328_1, hx328_2⟩ := at_T29 (Kd.R_reads' HO_5.out).2.2 x7_1 p328 q328; obtain rfl : ad322 = ad328 := (by injection e328); replace p328 := eq_true p328; replace q328 := eq_true q328)); try go_wp2_with (first | (go_at_call 21; (with_reducible refine (diacriticref22_Digits.calls kj5 ((rd_T29 t319 x7_1).f0) true _ A10.out).mono ?_); rintro e w' ⟨rfl, ⟨nd, rfl⟩⟩; (try first | exact ⟨rfl, _, World.drewN_drewN _ _ _⟩ | exact ⟨rfl, _, Eq.trans (World.drewN_drewN _ _ _) (congrArg (World.drewN _) (Nat.add_assoc _ _ _))⟩); obtain ⟨Ao16, co16, eo16⟩ := Kd.R_slice HO_4.out; subst eo16) | (go_at_call 53; (with_reducible refine (diacriticref22_Put.calls (fun k_ => some k_ = (.slice Ao16 x4_1.length co16 : Value).ownBlock) (.slice Ao16 x4_1.length co16) x4_1 ((rd_T29 t319 x7_1).f0) t325 w _ ?side1 ?side2 A12.out).mono ?_); (case side1 => repeat (first | (with_reducible first | exact HB.out | apply below_alloc | apply pw_below_drewN | apply below_drew1) | exact HB.out)); (case side2 => exact Kd.R_tight rfl HO_4.out); rintro e w17 ⟨v326, rfl, ho0, hb, hkp⟩; have n0_ := Aside0.mk (Kd.R_mono (ok' := fun k_ => True) (Kd.R_keptB ((Kd.R_apart' HO_5.out (Kd.R_typed HO_4.out) (by decide))) hkp (fun k_ hk_ hs_ => (hk_.2) hs_)) (fun k_ hk_ => trivial)); have n1_ := Aside0.mk (Kd.R_mono (ok' := fun k_ => True) ho0 (fun k_ hk_ => trivial)); have n2_ := Aside0.mk (hb); clear HO_5; clear HB; clear HO_4; have HO_5 := n0_; have HO327 := n1_; have HB := n2_; clear n0_ n1_ n2_; (try clear hb); (try clear hkp); (try clear ho0); have p328 : 0 ≤ (x7_1 : Int) := of_decide_eq_true (by first | (with_reducible assumption) | assumption); have q328 : x7_1 < (t319.length : Int) := of_decide_eq_true (by first | (with_reducible assumption) | assumption); obtain ⟨ad328, e328, hx328_0, hx328_1, hx328_2⟩ := at_T29 (Kd.R_reads' HO_5.out).2.2 x7_1 p328 q328; obtain rfl : ad322 = ad328 := (by injection e328); replace p328 := eq_true p328; replace q328 := eq_true q328)))
                        go_roundg kj5
                        case measure => have := HK1.out; have := HJ5.out; omega
                        case rel => exact ⟨(t325), (1), (wrap64 (x7_1 + 1)), (by first | rfl | (simp; done) | (simp [*]; done) | (simp [beq_nil_isEmpty, bne_nil_isEmpty]; done)), (by first | rfl | (simp; done) | (simp [*]; done) | (simp [beq_nil_isEmpty, bne_nil_isEmpty]; done)), H', ⟨by have := HK1.out; have := HJ5.out; omega⟩, ⟨by (with_reducible repeat (first | apply Kd.R_alloc | apply Kd.R_drewN | apply Kd.R_drew)); exact HO327.out⟩, ⟨by (with_reducible repeat (first | apply Kd.R_alloc | apply Kd.R_drewN | apply Kd.R_drew)); exact HO_5.out⟩, ⟨by repeat (first | (with_reducible first | exact HB.out | apply below_alloc | apply pw_below_drewN | apply below_drew1) | exact HB.out)⟩⟩
                      · rw [if_neg c15] at H
                        have c15b0 : (((rd_T29 t319 x7_1).f1).toList == ([] : List UInt8)) = false := beq_eq_false_iff_ne.mpr c15
                        have c15b1 : (((rd_T29 t319 x7_1).f1).toList != ([] : List UInt8)) = true := bne_iff_ne.mpr c15
                        replace H := Option.bind_eq_some_iff.mp H
                        obtain ⟨t330, A180, H⟩ := H
                        replace H : (diacriticref24_Parse.l0 kj5 a0 t330 t319 1 (wrap64 (x7_1 + 1))) = some (r1, r2) := H
                        have A18 := Aside0.mk A180
                        clear A180
                        have H' := Aside0.mk H
                        clear H
                        go_wp2_with (first | (go_at_call 21; (with_reducible refine (diacriticref22_Digits.calls kj5 ((rd_T29 t319 x7_1).f0) true _ A10.out).mono ?_); rintro e w' ⟨rfl, ⟨nd, rfl⟩⟩; (try first | exact ⟨rfl, _, World.drewN_drewN _ _ _⟩ | exact ⟨rfl, _, Eq.trans (World.drewN_drewN _ _ _) (congrArg (World.drewN _) (Nat.add_assoc _ _ _))⟩); obtain ⟨Ao19, co19, eo19⟩ := Kd.R_slice HO_4.out; subst eo19) | (go_at_call 53; (with_reducible refine (diacriticref22_Put.calls (fun k_ => some k_ = (.slice Ao19 x4_1.length co19 : Value).ownBlock) (.slice Ao19 x4_1.length co19) x4_1 ((rd_T29 t319 x7_1).f0) t325 w _ ?side1 ?side2 A12.out).mono ?_); (case side1 => repeat (first | (with_reducible first | exact HB.out | apply below_alloc | apply pw_below_drewN | apply below_drew1) | exact HB.out)); (case side2 => exact Kd.R_tight rfl HO_4.out); rintro e w20 ⟨v326, rfl, ho0, hb, hkp⟩; have n0_ := Aside0.mk (Kd.R_mono (ok' := fun k_ => True) (Kd.R_keptB ((Kd.R_apart' HO_5.out (Kd.R_typed HO_4.out) (by decide))) hkp (fun k_ hk_ hs_ => (hk_.2) hs_)) (fun k_ hk_ => trivial)); have n1_ := Aside0.mk (Kd.R_mono (ok' := fun k_ => True) ho0 (fun k_ hk_ => trivial)); have n2_ := Aside0.mk (hb); clear HO_5; clear HB; clear HO_4; have HO_5 := n0_; have HO327 := n1_; have HB := n2_; clear n0_ n1_ n2_; (try clear hb); (try clear hkp); (try clear ho0); have p328 : 0 ≤ (x7_1 : Int) := of_decide_eq_true (by first | (with_reducible assumption) | assumption); have q328 : x7_1 < (t319.length : Int) := of_decide_eq_true (by first | (with_reducible assumption) | assumption); obtain ⟨ad328, e328, hx328_0, hx328_1, hx328_2⟩ := at_T29 (Kd.R_reads' HO_5.out).2.2 x7_1 p328 q328; obtain rfl : ad322 = ad328 := (by injection e328); replace p328 := eq_true p328; replace q328 := eq_true q328; have p329 : 0 ≤ (x7_1 : Int) := of_decide_eq_true (by first | (with_reducible assumption) | assumption); have q329 : x7_1 < (t319.length : Int) := of_decide_eq_true (by first | (with_reducible assumption) | assumption); obtain ⟨ad329, e329, hx329_0, hx329_1, hx329_2⟩ := at_T29 (Kd.R_reads' HO_5.out).2.2 x7_1 p329 q329; obtain rfl : ad322 = ad329 := (by injection e329); replace p329 := eq_true p329; replace q329 := eq_true q329; obtain ⟨Ao21, co21, eo21⟩ := Kd.R_slice HO327.out; subst eo21) | (go_at_call 53; (with_reducible refine (diacriticref22_Put.calls (fun k_ => some k_ = (.slice Ao21 t325.length co21 : Value).ownBlock) (.slice Ao21 t325.length co21) t325 ((rd_T29 t319 x7_1).f1) t330 w _ ?side1 ?side2 A18.out).mono ?_); (case side1 => repeat (first | (with_reducible first | exact HB.out | apply below_alloc | apply pw_below_drewN | apply below_drew1) | exact HB.out)); (case side2 => exact Kd.R_tight rfl HO327.out); rintro e w22 ⟨v331, rfl, ho0, hb, hkp⟩; have n0_ := Aside0.mk (Kd.R_mono (ok' := fun k_ => True) (Kd.R_keptB ((Kd.R_apart' HO_5.out (Kd.R_typed HO327.out) (by decide))) hkp (fun k_ hk_ hs_ => (hk_.2) hs_)) (fun k_ hk_ => trivial)); have n1_ := Aside0.mk (Kd.R_mono (ok' := fun k_ => True) ho0 (fun k_ hk_ => trivial)); have n2_ := Aside0.mk (hb); clear HO_5; clear HB; clear HO327; have HO_5 := n0_; have HO332 := n1_; have HB := n2_; clear n0_ n1_ n2_; (try clear hb); (try clear hkp); (try clear ho0)))
                        repeat (go_quiet (first | (go_at_call 21; (with_reducible refine (diacriticref22_Digits.calls kj5 ((rd_T29 t319 x7_1).f0) true _ A10.out).mono ?_); rintro e w' ⟨rfl, ⟨nd, rfl⟩⟩; (try first | exact ⟨rfl, _, World.drewN_drewN _ _ _⟩ | exact ⟨rfl, _, Eq.trans (World.drewN_drewN _ _ _) (congrArg (World.drewN _) (Nat.add_assoc _ _ _))⟩); obtain ⟨Ao19, co19, eo19⟩ := Kd.R_slice HO_4.out; subst eo19) | (go_at_call 53; (with_reducible refine (diacriticref22_Put.calls (fun k_ => some k_ = (.slice Ao19 x4_1.length co19 : Value).ownBlock) (.slice Ao19 x4_1.length co19) x4_1 ((rd_T29 t319 x7_1).f0) t325 w _ ?side1 ?side2 A12.out).mono ?_); (case side1 => repeat (first | (with_reducible first | exact HB.out | apply below_alloc | apply pw_below_drewN | apply below_drew1) | exact HB.out)); (case side2 => exact Kd.R_tight rfl HO_4.out); rintro e w20 ⟨v326, rfl, ho0, hb, hkp⟩; have n0_ := Aside0.mk (Kd.R_mono (ok' := fun k_ => True) (Kd.R_keptB ((Kd.R_apart' HO_5.out (Kd.R_typed HO_4.out) (by decide))) hkp (fun k_ hk_ hs_ => (hk_.2) hs_)) (fun k_ hk_ => trivial)); have n1_ := Aside0.mk (Kd.R_mono (ok' := fun k_ => True) ho0 (fun k_ hk_ => trivial)); have n2_ := Aside0.mk (hb); clear HO_5; clear HB; clear HO_4; have HO_5 := n0_; have HO327 := n1_; have HB := n2_; clear n0_ n1_ n2_; (try clear hb); (try clear hkp); (try clear ho0); have p328 : 0 ≤ (x7_1 : Int) := of_decide_eq_true (by first | (with_reducible assumption) | assumption); have q328 : x7_1 < (t319.length : Int) := of_decide_eq_true (by first | (with_reducible assumption) | assumption); obtain ⟨ad328, e328, hx328_0, hx328_1, hx328_2⟩ := at_T29 (Kd.R_reads' HO_5.out).2.2 x7_1 p328 q328; obtain rfl : ad322 = ad328 := (by injection e328); replace p328 := eq_true p328; replace q328 := eq_true q328; have p329 : 0 ≤ (x7_1 : Int) := of_decide_eq_true (by first | (with_reducible assumption) | assumption); have q329 : x7_1 < (t319.length : Int) := of_decide_eq_true (by first | (with_reducible assumption) | assumption); obtain ⟨ad329, e329, hx329_0, hx329_1, hx329_2⟩ := at_T29 (Kd.R_reads' HO_5.out).2.2 x7_1 p329 q329; obtain rfl : ad322 = ad329 := (by injection e329); replace p329 := eq_true p329; replace q329 := eq_true q329; obtain ⟨Ao21, co21, eo21⟩ := Kd.R_slice HO327.out; subst eo21) | (go_at_call 53; (with_reducible refine (diacriticref22_Put.calls (fun k_ => some k_ = (.slice Ao21 t325.length co21 : Value).ownBlock) (.slice Ao21 t325.length co21) t325 ((rd_T29 t319 x7_1).f1) t330 w _ ?side1 ?side2 A18.out).mono ?_); (case side1 => repeat (first | (with_reducible first | exact HB.out | apply below_alloc | apply pw_below_drewN | apply below_drew1) | exact HB.out)); (case side2 => exact Kd.R_tight rfl HO327.out); rintro e w22 ⟨v331, rfl, ho0, hb, hkp⟩; have n0_ := Aside0.mk (Kd.R_mono (ok' := fun k_ => True) (Kd.R_keptB ((Kd.R_apart' HO_5.out (Kd.R_typed HO327.out) (by decide))) hkp (fun k_ hk_ hs_ => (hk_.2) hs_)) (fun k_ hk_ => trivial)); have n1_ := Aside0.mk (Kd.R_mono (ok' := fun k_ => True) ho0 (fun k_ hk_ => trivial)); have n2_ := Aside0.mk (hb); clear HO_5; clear HB; clear HO327; have HO_5 := n0_; have HO332 := n1_; have HB := n2_; clear n0_ n1_ n2_; (try clear hb); (try clear hkp); (try clear ho0))); try go_wp2_with (first | (go_at_call 21; (with_reducible refine (diacriticref22_Digits.calls kj5 ((rd_T29 t319 x7_1).f0) true _ A10.out).mono ?_); rintro e w' ⟨rfl, ⟨nd, rfl⟩⟩; (try first | exact ⟨rfl, _, World.drewN_drewN _ _ _⟩ | exact ⟨rfl, _, Eq.trans (World.drewN_drewN _ _ _) (congrArg (World.drewN _) (Nat.add_assoc _ _ _))⟩); obtain ⟨Ao19, co19, eo19⟩ := Kd.R_slice HO_4.out; subst eo19) | (go_at_call 53; (with_reducible refine (diacriticref22_Put.calls (fun k_ => some k_ = (.slice Ao19 x4_1.length co19 : Value).ownBlock) (.slice Ao19 x4_1.length co19) x4_1 ((rd_T29 t319 x7_1).f0) t325 w _ ?side1 ?side2 A12.out).mono ?_); (case side1 => repeat (first | (with_reducible first | exact HB.out | apply below_alloc | apply pw_below_drewN | apply below_drew1) | exact HB.out)); (case side2 => exact Kd.R_tight rfl HO_4.out); rintro e w20 ⟨v326, rfl, ho0, hb, hkp⟩; have n0_ := Aside0.mk (Kd.R_mono (ok' := fun k_ => True) (Kd.R_keptB ((Kd.R_apart' HO_5.out (Kd.R_typed HO_4.out) (by decide))) hkp (fun k_ hk_ hs_ => (hk_.2) hs_)) (fun k_ hk_ => trivial)); have n1_ := Aside0.mk (Kd.R_mono (ok' := fun k_ => True) ho0 (fun k_ hk_ => trivial)); have n2_ := Aside0.mk (hb); clear HO_5; clear HB; clear HO_4; have HO_5 := n0_; have HO327 := n1_; have HB := n2_; clear n0_ n1_ n2_; (try clear hb); (try clear hkp); (try clear ho0); have p328 : 0 ≤ (x7_1 : Int) := of_decide_eq_true (by first | (with_reducible assumption) | assumption); have q328 : x7_1 < (t319.length : Int) := of_decide_eq_true (by first | (with_reducible assumption) | assumption); obtain ⟨ad328, e328, hx328_0, hx328_1, hx328_2⟩ := at_T29 (Kd.R_reads' HO_5.out).2.2 x7_1 p328 q328; obtain rfl : ad322 = ad328 := (by injection e328); replace p328 := eq_true p328; replace q328 := eq_true q328; have p329 : 0 ≤ (x7_1 : Int) := of_decide_eq_true (by first | (with_reducible assumption) | assumption); have q329 : x7_1 < (t319.length : Int) := of_decide_eq_true (by first | (with_reducible assumption) | assumption); obtain ⟨ad329, e329, hx329_0, hx329_1, hx329_2⟩ := at_T29 (Kd.R_reads' HO_5.out).2.2 x7_1 p329 q329; obtain rfl : ad322 = ad329 := (by injection e329); replace p329 := eq_true p329; replace q329 := eq_true q329; obtain ⟨Ao21, co21, eo21⟩ := Kd.R_slice HO327.out; subst eo21) | (go_at_call 53; (with_reducible refine (diacriticref22_Put.calls (fun k_ => some k_ = (.slice Ao21 t325.length co21 : Value).ownBlock) (.slice Ao21 t325.length co21) t325 ((rd_T29 t319 x7_1).f1) t330 w _ ?side1 ?side2 A18.out).mono ?_); (case side1 => repeat (first | (with_reducible first | exact HB.out | apply below_alloc | apply pw_below_drewN | apply below_drew1) | exact HB.out)); (case side2 => exact Kd.R_tight rfl HO327.out); rintro e w22 ⟨v331, rfl, ho0, hb, hkp⟩; have n0_ := Aside0.mk (Kd.R_mono (ok' := fun k_ => True) (Kd.R_keptB ((Kd.R_apart' HO_5.out (Kd.R_typed HO327.out) (by decide))) hkp (fun k_ hk_ hs_ => (hk_.2) hs_)) (fun k_ hk_ => trivial)); have n1_ := Aside0.mk (Kd.R_mono (ok' := fun k_ => True) ho0 (fun k_ hk_ => trivial)); have n2_ := Aside0.mk (hb); clear HO_5; clear HB; clear HO327; have HO_5 := n0_; have HO332 := n1_; have HB := n2_; clear n0_ n1_ n2_; (try clear hb); (try clear hkp); (try clear ho0))))
                        go_roundg kj5
                        case measure => have := HK1.out; have := HJ5.out; omega
                        case rel => exact ⟨(t330), (1), (wrap64 (x7_1 + 1)), (by first | rfl | (simp; done) | (simp [*]; done) | (simp [beq_nil_isEmpty, bne_nil_isEmpty]; done)), (by first | rfl | (simp; done) | (simp [*]; done) | (simp [beq_nil_isEmpty, bne_nil_isEmpty]; done)), H', ⟨by have := HK1.out; have := HJ5.out; omega⟩, ⟨by (with_reducible repeat (first | apply Kd.R_alloc | apply Kd.R_drewN | apply Kd.R_drew)); exact HO332.out⟩, ⟨by (with_reducible repeat (first | apply Kd.R_alloc | apply Kd.R_drewN | apply Kd.R_drew)); exact HO_5.out⟩, ⟨by repeat (first | (with_reducible first | exact HB.out | apply below_alloc | apply pw_below_drewN | apply below_drew1) | exact HB.out)⟩⟩
                    · rw [if_neg c14] at H
                      exact absurd H (by simp)
                  · rw [if_neg c13] at H
                    exact absurd H (by simp)
                · replace c11 := Bool.eq_false_iff.mpr c11
                  subst c11
                  have H1 : (if 0 ≤ x7_1 then (if x7_1 < (t319.length : Int) then (some (([] : List (S50)), (rd_T29 t319 x7_1).f2)) else (none)) else (none)) = some (r1, r2) := by rw [if_neg (show ¬ (false = true) by decide)] at H; exact H
                  clear H
                  have H := H1
                  clear H1
                  by_cases c23 : 0 ≤ x7_1
                  · rw [if_pos c23] at H
                    have c23b0 : decide (0 ≤ x7_1) = true := decide_eq_true c23
                    clear c23
                    by_cases c24 : x7_1 < (t319.length : Int)
                    · rw [if_pos c24] at H
                      have c24b0 : decide (x7_1 < (t319.length : Int)) = true := decide_eq_true c24
                      clear c24
                      simp only [Option.some.injEq, Prod.mk.injEq] at H
                      obtain ⟨rfl, rfl⟩ := H
                      go_wp2_with (first | (go_at_call 21; (with_reducible refine (diacriticref22_Digits.calls kj5 ((rd_T29 t319 x7_1).f0) false _ A10.out).mono ?_); rintro e w' ⟨rfl, ⟨nd, rfl⟩⟩; (try first | exact ⟨rfl, _, World.drewN_drewN _ _ _⟩ | exact ⟨rfl, _, Eq.trans (World.drewN_drewN _ _ _) (congrArg (World.drewN _) (Nat.add_assoc _ _ _))⟩); have p324 : 0 ≤ (x7_1 : Int) := of_decide_eq_true (by first | (with_reducible assumption) | assumption); have q324 : x7_1 < (t319.length : Int) := of_decide_eq_true (by first | (with_reducible assumption) | assumption); obtain ⟨ad324, e324, hx324_0, hx324_1, hx324_2⟩ := at_T29 (Kd.R_reads' HO_5.out).2.2 x7_1 p324 q324; obtain rfl : ad322 = ad324 := (by injection e324); replace p324 := eq_true p324; replace q324 := eq_true q324))
                      repeat (go_quiet (first | (go_at_call 21; (with_reducible refine (diacriticref22_Digits.calls kj5 ((rd_T29 t319 x7_1).f0) false _ A10.out).mono ?_); rintro e w' ⟨rfl, ⟨nd, rfl⟩⟩; (try first | exact ⟨rfl, _, World.drewN_drewN _ _ _⟩ | exact ⟨rfl, _, Eq.trans (World.drewN_drewN _ _ _) (congrArg (World.drewN _) (Nat.add_assoc _ _ _))⟩); have p324 : 0 ≤ (x7_1 : Int) := of_decide_eq_true (by first | (with_reducible assumption) | assumption); have q324 : x7_1 < (t319.length : Int) := of_decide_eq_true (by first | (with_reducible assumption) | assumption); obtain ⟨ad324, e324, hx324_0, hx324_1, hx324_2⟩ := at_T29 (Kd.R_reads' HO_5.out).2.2 x7_1 p324 q324; obtain rfl : ad322 = ad324 := (by injection e324); replace p324 := eq_true p324; replace q324 := eq_true q324)); try go_wp2_with (first | (go_at_call 21; (with_reducible refine (diacriticref22_Digits.calls kj5 ((rd_T29 t319 x7_1).f0) false _ A10.out).mono ?_); rintro e w' ⟨rfl, ⟨nd, rfl⟩⟩; (try first | exact ⟨rfl, _, World.drewN_drewN _ _ _⟩ | exact ⟨rfl, _, Eq.trans (World.drewN_drewN _ _ _) (congrArg (World.drewN _) (Nat.add_assoc _ _ _))⟩); have p324 : 0 ≤ (x7_1 : Int) := of_decide_eq_true (by first | (with_reducible assumption) | assumption); have q324 : x7_1 < (t319.length : Int) := of_decide_eq_true (by first | (with_reducible assumption) | assumption); obtain ⟨ad324, e324, hx324_0, hx324_1, hx324_2⟩ := at_T29 (Kd.R_reads' HO_5.out).2.2 x7_1 p324 q324; obtain rfl : ad322 = ad324 := (by injection e324); replace p324 := eq_true p324; replace q324 := eq_true q324)))
                      go_ret2
                      exact ⟨_, by first | rfl | (simp [errW_none, errW_some] <;> rfl) | (simp [*, errW_none, errW_some] <;> rfl), by first | exact Kd.R_nil _ _ _ _ _ | exact Kd.N_nil _ _ _ _ _ | exact Kd.V_nil _ _ _ _ _ | exact Kd.Q_nil _ _ _ _ _ | exact Kd.S_nil _ _ _ _ _, by repeat (first | (with_reducible first | exact HB.out | apply below_alloc | apply pw_below_drewN | apply below_drew1) | exact HB.out)⟩
                    · rw [if_neg c24] at H
                      exact absurd H (by simp)
                  · rw [if_neg c23] at H
                    exact absurd H (by simp)
              · replace c9 := Bool.eq_false_iff.mpr c9
                subst c9
                have H1 : (if x6_1 = 1 then ((diacriticref24_Times.f kj5 ((rd_T29 t319 x7_1).f0)).bind fun t333 => (if t333 = true then ((diacriticref22_Put.f x4_1 ((rd_T29 t319 x7_1).f0)).bind fun t335 => (if 0 ≤ x7_1 then (if x7_1 < (t319.length : Int) then (if ((rd_T29 t319 x7_1).f1).toList = ([] : List UInt8) then (diacriticref24_Parse.l0 kj5 a0 t335 t319 2 (wrap64 (x7_1 + 1))) else ((diacriticref22_Put.f t335 ((rd_T29 t319 x7_1).f1)).bind fun t340 => (diacriticref24_Parse.l0 kj5 a0 t340 t319 2 (wrap64 (x7_1 + 1))))) else (none)) else (none))) else (if 0 ≤ x7_1 then (if x7_1 < (t319.length : Int) then (some (([] : List (S50)), (rd_T29 t319 x7_1).f2)) else (none)) else (none)))) else (if x6_1 = 2 then (diacriticref24_Parse.j2 kj5 a0 x4_1 t319 x6_1 x7_1 ((rd_T29 t319 x7_1).f0) (((rd_T29 t319 x7_1).f0).toList == ([] : List UInt8))) else (diacriticref24_Parse.j2 kj5 a0 x4_1 t319 x6_1 x7_1 ((rd_T29 t319 x7_1).f0) false))) = some (r1, r2) := by rw [if_neg (show ¬ (false = true) by decide)] at H; exact H
                clear H
                have H := H1
                clear H1
                by_cases c25 : x6_1 = 1
                · rw [if_pos c25] at H
                  have c25b0 : (x6_1 == 1) = true := beq_iff_eq.mpr c25
                  have c25b1 : (x6_1 != 1) = false := bne_eq_false_iff_eq.mpr c25
                  clear c25
                  replace H := Option.bind_eq_some_iff.mp H
                  obtain ⟨t333, A260, H⟩ := H
                  replace H : (if t333 = true then ((diacriticref22_Put.f x4_1 ((rd_T29 t319 x7_1).f0)).bind fun t335 => (if 0 ≤ x7_1 then (if x7_1 < (t319.length : Int) then (if ((rd_T29 t319 x7_1).f1).toList = ([] : List UInt8) then (diacriticref24_Parse.l0 kj5 a0 t335 t319 2 (wrap64 (x7_1 + 1))) else ((diacriticref22_Put.f t335 ((rd_T29 t319 x7_1).f1)).bind fun t340 => (diacriticref24_Parse.l0 kj5 a0 t340 t319 2 (wrap64 (x7_1 + 1))))) else (none)) else (none))) else (if 0 ≤ x7_1 then (if x7_1 < (t319.length : Int) then (some (([] : List (S50)), (rd_T29 t319 x7_1).f2)) else (none)) else (none))) = some (r1, r2) := H
                  have A26 := Aside0.mk A260
                  clear A260
                  by_cases c27 : t333 = true
                  · subst c27
                    have H1 : ((diacriticref22_Put.f x4_1 ((rd_T29 t319 x7_1).f0)).bind fun t335 => (if 0 ≤ x7_1 then (if x7_1 < (t319.length : Int) then (if ((rd_T29 t319 x7_1).f1).toList = ([] : List UInt8) then (diacriticref24_Parse.l0 kj5 a0 t335 t319 2 (wrap64 (x7_1 + 1))) else ((diacriticref22_Put.f t335 ((rd_T29 t319 x7_1).f1)).bind fun t340 => (diacriticref24_Parse.l0 kj5 a0 t340 t319 2 (wrap64 (x7_1 + 1))))) else (none)) else (none))) = some (r1, r2) := by rw [if_pos rfl] at H; exact H
                    clear H
                    have H := H1
                    clear H1
                    replace H := Option.bind_eq_some_iff.mp H
                    obtain ⟨t335, A280, H⟩ := H
                    replace H : (if 0 ≤ x7_1 then (if x7_1 < (t319.length : Int) then (if ((rd_T29 t319 x7_1).f1).toList = ([] : List UInt8) then (diacriticref24_Parse.l0 kj5 a0 t335 t319 2 (wrap64 (x7_1 + 1))) else ((diacriticref22_Put.f t335 ((rd_T29 t319 x7_1).f1)).bind fun t340 => (diacriticref24_Parse.l0 kj5 a0 t340 t319 2 (wrap64 (x7_1 + 1))))) else (none)) else (none)) = some (r1, r2) := H
                    have A28 := Aside0.mk A280
                    clear A280
                    by_cases c29 : 0 ≤ x7_1
                    · rw [if_pos c29] at H
                      have c29b0 : decide (0 ≤ x7_1) = true := decide_eq_true c29
                      clear c29
                      by_cases c30 : x7_1 < (t319.length : Int)
                      · rw [if_pos c30] at H
                        have c30b0 : decide (x7_1 < (t319.length : Int)) = true := decide_eq_true c30
                        clear c30
                        by_cases c31 : ((rd_T29 t319 x7_1).f1).toList = ([] : List UInt8)
                        · rw [if_pos c31] at H
                          have c31b0 : (((rd_T29 t319 x7_1).f1).toList == ([] : List UInt8)) = true := beq_iff_eq.mpr c31
                          have c31b1 : (((rd_T29 t319 x7_1).f1).toList != ([] : List UInt8)) = false := bne_eq_false_iff_eq.mpr c31
                          clear c31
                          have H' := Aside0.mk H
                          clear H
                          go_wp2_with (first | (go_at_call 31; (with_reducible refine (diacriticref24_Times.calls kj5 ((rd_T29 t319 x7_1).f0) true _ A26.out).mono ?_); rintro e w' ⟨rfl, ⟨nd, rfl⟩⟩; (try first | exact ⟨rfl, _, World.drewN_drewN _ _ _⟩ | exact ⟨rfl, _, Eq.trans (World.drewN_drewN _ _ _) (congrArg (World.drewN _) (Nat.add_assoc _ _ _))⟩); obtain ⟨Ao32, co32, eo32⟩ := Kd.R_slice HO_4.out; subst eo32) | (go_at_call 53; (with_reducible refine (diacriticref22_Put.calls (fun k_ => some k_ = (.slice Ao32 x4_1.length co32 : Value).ownBlock) (.slice Ao32 x4_1.length co32) x4_1 ((rd_T29 t319 x7_1).f0) t335 w _ ?side1 ?side2 A28.out).mono ?_); (case side1 => repeat (first | (with_reducible first | exact HB.out | apply below_alloc | apply pw_below_drewN | apply below_drew1) | exact HB.out)); (case side2 => exact Kd.R_tight rfl HO_4.out); rintro e w33 ⟨v336, rfl, ho0, hb, hkp⟩; have n0_ := Aside0.mk (Kd.R_mono (ok' := fun k_ => True) (Kd.R_keptB ((Kd.R_apart' HO_5.out (Kd.R_typed HO_4.out) (by decide))) hkp (fun k_ hk_ hs_ => (hk_.2) hs_)) (fun k_ hk_ => trivial)); have n1_ := Aside0.mk (Kd.R_mono (ok' := fun k_ => True) ho0 (fun k_ hk_ => trivial)); have n2_ := Aside0.mk (hb); clear HO_5; clear HB; clear HO_4; have HO_5 := n0_; have HO337 := n1_; have HB := n2_; clear n0_ n1_ n2_; (try clear hb); (try clear hkp); (try clear ho0); have p338 : 0 ≤ (x7_1 : Int) := of_decide_eq_true (by first | (with_reducible assumption) | assumption); have q338 : x7_1 < (t319.length : Int) := of_decide_eq_true (by first | (with_reducible assumption) | assumption); obtain ⟨ad338, e338, hx338_0, hx338_1, hx338_2⟩ := at_T29 (Kd.R_reads' HO_5.out).2.2 x7_1 p338 q338; obtain rfl : ad322 = ad338 := (by injection e338); replace p338 := eq_true p338; replace q338 := eq_true q338))
                          repeat (go_quiet (first | (go_at_call 31; (with_reducible refine (diacriticref24_Times.calls kj5 ((rd_T29 t319 x7_1).f0) true _ A26.out).mono ?_); rintro e w' ⟨rfl, ⟨nd, rfl⟩⟩; (try first | exact ⟨rfl, _, World.drewN_drewN _ _ _⟩ | exact ⟨rfl, _, Eq.trans (World.drewN_drewN _ _ _) (congrArg (World.drewN _) (Nat.add_assoc _ _ _))⟩); obtain ⟨Ao32, co32, eo32⟩ := Kd.R_slice HO_4.out; subst eo32) | (go_at_call 53; (with_reducible refine (diacriticref22_Put.calls (fun k_ => some k_ = (.slice Ao32 x4_1.length co32 : Value).ownBlock) (.slice Ao32 x4_1.length co32) x4_1 ((rd_T29 t319 x7_1).f0) t335 w _ ?side1 ?side2 A28.out).mono ?_); (case side1 => repeat (first | (with_reducible first | exact HB.out | apply below_alloc | apply pw_below_drewN | apply below_drew1) | exact HB.out)); (case side2 => exact Kd.R_tight rfl HO_4.out); rintro e w33 ⟨v336, rfl, ho0, hb, hkp⟩; have n0_ := Aside0.mk (Kd.R_mono (ok' := fun k_ => True) (Kd.R_keptB ((Kd.R_apart' HO_5.out (Kd.R_typed HO_4.out) (by decide))) hkp (fun k_ hk_ hs_ => (hk_.2) hs_)) (fun k_ hk_ => trivial)); have n1_ := Aside0.mk (Kd.R_mono (ok' := fun k_ => True) ho0 (fun k_ hk_ => trivial)); have n2_ := Aside0.mk (hb); clear HO_5; clear HB; clear HO_4; have HO_5 := n0_; have HO337 := n1_; have HB := n2_; clear n0_ n1_ n2_; (try clear hb); (try clear hkp); (try clear ho0); have p338 : 0 ≤ (x7_1 : Int) := of_decide_eq_true (by first | (with_reducible assumption) | assumption); have q338 : x7_1 < (t319.length : Int) := of_decide_eq_true (by first | (with_reducible assumption) | assumption); obtain ⟨ad338, e338, hx338_0, hx338_1, hx338_2⟩ := at_T29 (Kd.R_reads' HO_5.out).2.2 x7_1 p338 q338; obtain rfl : ad322 = ad338 := (by injection e338); replace p338 := eq_true p338; replace q338 := eq_true q338)); try go_wp2_with (first | (go_at_call 31; (with_reducible refine (diacriticref24_Times.calls kj5 ((rd_T29 t319 x7_1).f0) true _ A26.out).mono ?_); rintro e w' ⟨rfl, ⟨nd, rfl⟩⟩; (try first | exact ⟨rfl, _, World.drewN_drewN _ _ _⟩ | exact ⟨rfl, _, Eq.trans (World.drewN_drewN _ _ _) (congrArg (World.drewN _) (Nat.add_assoc _ _ _))⟩); obtain ⟨Ao32, co32, eo32⟩ := Kd.R_slice HO_4.out; subst eo32) | (go_at_call 53; (with_reducible refine (diacriticref22_Put.calls (fun k_ => some k_ = (.slice Ao32 x4_1.length co32 : Value).ownBlock) (.slice Ao32 x4_1.length co32) x4_1 ((rd_T29 t319 x7_1).f0) t335 w _ ?side1 ?side2 A28.out).mono ?_); (case side1 => repeat (first | (with_reducible first | exact HB.out | apply below_alloc | apply pw_below_drewN | apply below_drew1) | exact HB.out)); (case side2 => exact Kd.R_tight rfl HO_4.out); rintro e w33 ⟨v336, rfl, ho0, hb, hkp⟩; have n0_ := Aside0.mk (Kd.R_mono (ok' := fun k_ => True) (Kd.R_keptB ((Kd.R_apart' HO_5.out (Kd.R_typed HO_4.out) (by decide))) hkp (fun k_ hk_ hs_ => (hk_.2) hs_)) (fun k_ hk_ => trivial)); have n1_ := Aside0.mk (Kd.R_mono (ok' := fun k_ => True) ho0 (fun k_ hk_ => trivial)); have n2_ := Aside0.mk (hb); clear HO_5; clear HB; clear HO_4; have HO_5 := n0_; have HO337 := n1_; have HB := n2_; clear n0_ n1_ n2_; (try clear hb); (try clear hkp); (try clear ho0); have p338 : 0 ≤ (x7_1 : Int) := of_decide_eq_true (by first | (with_reducible assumption) | assumption); have q338 : x7_1 < (t319.length : Int) := of_decide_eq_true (by first | (with_reducible assumption) | assumption); obtain ⟨ad338, e338, hx338_0, hx338_1, hx338_2⟩ := at_T29 (Kd.R_reads' HO_5.out).2.2 x7_1 p338 q338; obtain rfl : ad322 = ad338 := (by injection e338); replace p338 := eq_true p338; replace q338 := eq_true q338)))
                          go_roundg kj5
                          case measure => have := HK1.out; have := HJ5.out; omega
                          case rel => exact ⟨(t335), (2), (wrap64 (x7_1 + 1)), (by first | rfl | (simp; done) | (simp [*]; done) | (simp [beq_nil_isEmpty, bne_nil_isEmpty]; done)), (by first | rfl | (simp; done) | (simp [*]; done) | (simp [beq_nil_isEmpty, bne_nil_isEmpty]; done)), H', ⟨by have := HK1.out; have := HJ5.out; omega⟩, ⟨by (with_reducible repeat (first | apply Kd.R_alloc | apply Kd.R_drewN | apply Kd.R_drew)); exact HO337.out⟩, ⟨by (with_reducible repeat (first | apply Kd.R_alloc | apply Kd.R_drewN | apply Kd.R_drew)); exact HO_5.out⟩, ⟨by repeat (first | (with_reducible first | exact HB.out | apply below_alloc | apply pw_below_drewN | apply below_drew1) | exact HB.out)⟩⟩
                        · rw [if_neg c31] at H
                          have c31b0 : (((rd_T29 t319 x7_1).f1).toList == ([] : List UInt8)) = false := beq_eq_false_iff_ne.mpr c31
                          have c31b1 : (((rd_T29 t319 x7_1).f1).toList != ([] : List UInt8)) = true := bne_iff_ne.mpr c31
                          replace H := Option.bind_eq_some_iff.mp H
                          obtain ⟨t340, A340, H⟩ := H
                          replace H : (diacriticref24_Parse.l0 kj5 a0 t340 t319 2 (wrap64 (x7_1 + 1))) = some (r1, r2) := H
                          have A34 := Aside0.mk A340
                          clear A340
                          have H' := Aside0.mk H
                          clear H
                          go_wp2_with (first | (go_at_call 31; (with_reducible refine (diacriticref24_Times.calls kj5 ((rd_T29 t319 x7_1).f0) true _ A26.out).mono ?_); rintro e w' ⟨rfl, ⟨nd, rfl⟩⟩; (try first | exact ⟨rfl, _, World.drewN_drewN _ _ _⟩ | exact ⟨rfl, _, Eq.trans (World.drewN_drewN _ _ _) (congrArg (World.drewN _) (Nat.add_assoc _ _ _))⟩); obtain ⟨Ao35, co35, eo35⟩ := Kd.R_slice HO_4.out; subst eo35) | (go_at_call 53; (with_reducible refine (diacriticref22_Put.calls (fun k_ => some k_ = (.slice Ao35 x4_1.length co35 : Value).ownBlock) (.slice Ao35 x4_1.length co35) x4_1 ((rd_T29 t319 x7_1).f0) t335 w _ ?side1 ?side2 A28.out).mono ?_); (case side1 => repeat (first | (with_reducible first | exact HB.out | apply below_alloc | apply pw_below_drewN | apply below_drew1) | exact HB.out)); (case side2 => exact Kd.R_tight rfl HO_4.out); rintro e w36 ⟨v336, rfl, ho0, hb, hkp⟩; have n0_ := Aside0.mk (Kd.R_mono (ok' := fun k_ => True) (Kd.R_keptB ((Kd.R_apart' HO_5.out (Kd.R_typed HO_4.out) (by decide))) hkp (fun k_ hk_ hs_ => (hk_.2) hs_)) (fun k_ hk_ => trivial)); have n1_ := Aside0.mk (Kd.R_mono (ok' := fun k_ => True) ho0 (fun k_ hk_ => trivial)); have n2_ := Aside0.mk (hb); clear HO_5; clear HB; clear HO_4; have HO_5 := n0_; have HO337 := n1_; have HB := n2_; clear n0_ n1_ n2_; (try clear hb); (try clear hkp); (try clear ho0); have p338 : 0 ≤ (x7_1 : Int) := of_decide_eq_true (by first | (with_reducible assumption) | assumption); have q338 : x7_1 < (t319.length : Int) := of_decide_eq_true (by first | (with_reducible assumption) | assumption); obtain ⟨ad338, e338, hx338_0, hx338_1, hx338_2⟩ := at_T29 (Kd.R_reads' HO_5.out).2.2 x7_1 p338 q338; obtain rfl : ad322 = ad338 := (by injection e338); replace p338 := eq_true p338; replace q338 := eq_true q338; have p339 : 0 ≤ (x7_1 : Int) := of_decide_eq_true (by first | (with_reducible assumption) | assumption); have q339 : x7_1 < (t319.length : Int) := of_decide_eq_true (by first | (with_reducible assumption) | assumption); obtain ⟨ad339, e339, hx339_0, hx339_1, hx339_2⟩ := at_T29 (Kd.R_reads' HO_5.out).2.2 x7_1 p339 q339; obtain rfl : ad322 = ad339 := (by injection e339); replace p339 := eq_true p339; replace q339 := eq_true q339; obtain ⟨Ao37, co37, eo37⟩ := Kd.R_slice HO337.out; subst eo37) | (go_at_call 53; (with_reducible refine (diacriticref22_Put.calls (fun k_ => some k_ = (.slice Ao37 t335.length co37 : Value).ownBlock) (.slice Ao37 t335.length co37) t335 ((rd_T29 t319 x7_1).f1) t340 w _ ?side1 ?side2 A34.out).mono ?_); (case side1 => repeat (first | (with_reducible first | exact HB.out | apply below_alloc | apply pw_below_drewN | apply below_drew1) | exact HB.out)); (case side2 => exact Kd.R_tight rfl HO337.out); rintro e w38 ⟨v341, rfl, ho0, hb, hkp⟩; have n0_ := Aside0.mk (Kd.R_mono (ok' := fun k_ => True) (Kd.R_keptB ((Kd.R_apart' HO_5.out (Kd.R_typed HO337.out) (by decide))) hkp (fun k_ hk_ hs_ => (hk_.2) hs_)) (fun k_ hk_ => trivial)); have n1_ := Aside0.mk (Kd.R_mono (ok' := fun k_ => True) ho0 (fun k_ hk_ => trivial)); have n2_ := Aside0.mk (hb); clear HO_5; clear HB; clear HO337; have HO_5 := n0_; have HO342 := n1_; have HB := n2_; clear n0_ n1_ n2_; (try clear hb); (try clear hkp); (try clear ho0)))
                          repeat (go_quiet (first | (go_at_call 31; (with_reducible refine (diacriticref24_Times.calls kj5 ((rd_T29 t319 x7_1).f0) true _ A26.out).mono ?_); rintro e w' ⟨rfl, ⟨nd, rfl⟩⟩; (try first | exact ⟨rfl, _, World.drewN_drewN _ _ _⟩ | exact ⟨rfl, _, Eq.trans (World.drewN_drewN _ _ _) (congrArg (World.drewN _) (Nat.add_assoc _ _ _))⟩); obtain ⟨Ao35, co35, eo35⟩ := Kd.R_slice HO_4.out; subst eo35) | (go_at_call 53; (with_reducible refine (diacriticref22_Put.calls (fun k_ => some k_ = (.slice Ao35 x4_1.length co35 : Value).ownBlock) (.slice Ao35 x4_1.length co35) x4_1 ((rd_T29 t319 x7_1).f0) t335 w _ ?side1 ?side2 A28.out).mono ?_); (case side1 => repeat (first | (with_reducible first | exact HB.out | apply below_alloc | apply pw_below_drewN | apply below_drew1) | exact HB.out)); (case side2 => exact Kd.R_tight rfl HO_4.out); rintro e w36 ⟨v336, rfl, ho0, hb, hkp⟩; have n0_ := Aside0.mk (Kd.R_mono (ok' := fun k_ => True) (Kd.R_keptB ((Kd.R_apart' HO_5.out (Kd.R_typed HO_4.out) (by decide))) hkp (fun k_ hk_ hs_ => (hk_.2) hs_)) (fun k_ hk_ => trivial)); have n1_ := Aside0.mk (Kd.R_mono (ok' := fun k_ => True) ho0 (fun k_ hk_ => trivial)); have n2_ := Aside0.mk (hb); clear HO_5; clear HB; clear HO_4; have HO_5 := n0_; have HO337 := n1_; have HB := n2_; clear n0_ n1_ n2_; (try clear hb); (try clear hkp); (try clear ho0); have p338 : 0 ≤ (x7_1 : Int) := of_decide_eq_true (by first | (with_reducible assumption) | assumption); have q338 : x7_1 < (t319.length : Int) := of_decide_eq_true (by first | (with_reducible assumption) | assumption); obtain ⟨ad338, e338, hx338_0, hx338_1, hx338_2⟩ := at_T29 (Kd.R_reads' HO_5.out).2.2 x7_1 p338 q338; obtain rfl : ad322 = ad338 := (by injection e338); replace p338 := eq_true p338; replace q338 := eq_true q338; have p339 : 0 ≤ (x7_1 : Int) := of_decide_eq_true (by first | (with_reducible assumption) | assumption); have q339 : x7_1 < (t319.length : Int) := of_decide_eq_true (by first | (with_reducible assumption) | assumption); obtain ⟨ad339, e339, hx339_0, hx339_1, hx339_2⟩ := at_T29 (Kd.R_reads' HO_5.out).2.2 x7_1 p339 q339; obtain rfl : ad322 = ad339 := (by injection e339); replace p339 := eq_true p339; replace q339 := eq_true q339; obtain ⟨Ao37, co37, eo37⟩ := Kd.R_slice HO337.out; subst eo37) | (go_at_call 53; (with_reducible refine (diacriticref22_Put.calls (fun k_ => some k_ = (.slice Ao37 t335.length co37 : Value).ownBlock) (.slice Ao37 t335.length co37) t335 ((rd_T29 t319 x7_1).f1) t340 w _ ?side1 ?side2 A34.out).mono ?_); (case side1 => repeat (first | (with_reducible first | exact HB.out | apply below_alloc | apply pw_below_drewN | apply below_drew1) | exact HB.out)); (case side2 => exact Kd.R_tight rfl HO337.out); rintro e w38 ⟨v341, rfl, ho0, hb, hkp⟩; have n0_ := Aside0.mk (Kd.R_mono (ok' := fun k_ => True) (Kd.R_keptB ((Kd.R_apart' HO_5.out (Kd.R_typed HO337.out) (by decide))) hkp (fun k_ hk_ hs_ => (hk_.2) hs_)) (fun k_ hk_ => trivial)); have n1_ := Aside0.mk (Kd.R_mono (ok' := fun k_ => True) ho0 (fun k_ hk_ => trivial)); have n2_ := Aside0.mk (hb); clear HO_5; clear HB; clear HO337; have HO_5 := n0_; have HO342 := n1_; have HB := n2_; clear n0_ n1_ n2_; (try clear hb); (try clear hkp); (try clear ho0))); try go_wp2_with (first | (go_at_call 31; (with_reducible refine (diacriticref24_Times.calls kj5 ((rd_T29 t319 x7_1).f0) true _ A26.out).mono ?_); rintro e w' ⟨rfl, ⟨nd, rfl⟩⟩; (try first | exact ⟨rfl, _, World.drewN_drewN _ _ _⟩ | exact ⟨rfl, _, Eq.trans (World.drewN_drewN _ _ _) (congrArg (World.drewN _) (Nat.add_assoc _ _ _))⟩); obtain ⟨Ao35, co35, eo35⟩ := Kd.R_slice HO_4.out; subst eo35) | (go_at_call 53; (with_reducible refine (diacriticref22_Put.calls (fun k_ => some k_ = (.slice Ao35 x4_1.length co35 : Value).ownBlock) (.slice Ao35 x4_1.length co35) x4_1 ((rd_T29 t319 x7_1).f0) t335 w _ ?side1 ?side2 A28.out).mono ?_); (case side1 => repeat (first | (with_reducible first | exact HB.out | apply below_alloc | apply pw_below_drewN | apply below_drew1) | exact HB.out)); (case side2 => exact Kd.R_tight rfl HO_4.out); rintro e w36 ⟨v336, rfl, ho0, hb, hkp⟩; have n0_ := Aside0.mk (Kd.R_mono (ok' := fun k_ => True) (Kd.R_keptB ((Kd.R_apart' HO_5.out (Kd.R_typed HO_4.out) (by decide))) hkp (fun k_ hk_ hs_ => (hk_.2) hs_)) (fun k_ hk_ => trivial)); have n1_ := Aside0.mk (Kd.R_mono (ok' := fun k_ => True) ho0 (fun k_ hk_ => trivial)); have n2_ := Aside0.mk (hb); clear HO_5; clear HB; clear HO_4; have HO_5 := n0_; have HO337 := n1_; have HB := n2_; clear n0_ n1_ n2_; (try clear hb); (try clear hkp); (try clear ho0); have p338 : 0 ≤ (x7_1 : Int) := of_decide_eq_true (by first | (with_reducible assumption) | assumption); have q338 : x7_1 < (t319.length : Int) := of_decide_eq_true (by first | (with_reducible assumption) | assumption); obtain ⟨ad338, e338, hx338_0, hx338_1, hx338_2⟩ := at_T29 (Kd.R_reads' HO_5.out).2.2 x7_1 p338 q338; obtain rfl : ad322 = ad338 := (by injection e338); replace p338 := eq_true p338; replace q338 := eq_true q338; have p339 : 0 ≤ (x7_1 : Int) := of_decide_eq_true (by first | (with_reducible assumption) | assumption); have q339 : x7_1 < (t319.length : Int) := of_decide_eq_true (by first | (with_reducible assumption) | assumption); obtain ⟨ad339, e339, hx339_0, hx339_1, hx339_2⟩ := at_T29 (Kd.R_reads' HO_5.out).2.2 x7_1 p339 q339; obtain rfl : ad322 = ad339 := (by injection e339); replace p339 := eq_true p339; replace q339 := eq_true q339; obtain ⟨Ao37, co37, eo37⟩ := Kd.R_slice HO337.out; subst eo37) | (go_at_call 53; (with_reducible refine (diacriticref22_Put.calls (fun k_ => some k_ = (.slice Ao37 t335.length co37 : Value).ownBlock) (.slice Ao37 t335.length co37) t335 ((rd_T29 t319 x7_1).f1) t340 w _ ?side1 ?side2 A34.out).mono ?_); (case side1 => repeat (first | (with_reducible first | exact HB.out | apply below_alloc | apply pw_below_drewN | apply below_drew1) | exact HB.out)); (case side2 => exact Kd.R_tight rfl HO337.out); rintro e w38 ⟨v341, rfl, ho0, hb, hkp⟩; have n0_ := Aside0.mk (Kd.R_mono (ok' := fun k_ => True) (Kd.R_keptB ((Kd.R_apart' HO_5.out (Kd.R_typed HO337.out) (by decide))) hkp (fun k_ hk_ hs_ => (hk_.2) hs_)) (fun k_ hk_ => trivial)); have n1_ := Aside0.mk (Kd.R_mono (ok' := fun k_ => True) ho0 (fun k_ hk_ => trivial)); have n2_ := Aside0.mk (hb); clear HO_5; clear HB; clear HO337; have HO_5 := n0_; have HO342 := n1_; have HB := n2_; clear n0_ n1_ n2_; (try clear hb); (try clear hkp); (try clear ho0))))
                          go_roundg kj5
                          case measure => have := HK1.out; have := HJ5.out; omega
                          case rel => exact ⟨(t340), (2), (wrap64 (x7_1 + 1)), (by first | rfl | (simp; done) | (simp [*]; done) | (simp [beq_nil_isEmpty, bne_nil_isEmpty]; done)), (by first | rfl | (simp; done) | (simp [*]; done) | (simp [beq_nil_isEmpty, bne_nil_isEmpty]; done)), H', ⟨by have := HK1.out; have := HJ5.out; omega⟩, ⟨by (with_reducible repeat (first | apply Kd.R_alloc | apply Kd.R_drewN | apply Kd.R_drew)); exact HO342.out⟩, ⟨by (with_reducible repeat (first | apply Kd.R_alloc | apply Kd.R_drewN | apply Kd.R_drew)); exact HO_5.out⟩, ⟨by repeat (first | (with_reducible first | exact HB.out | apply below_alloc | apply pw_below_drewN | apply below_drew1) | exact HB.out)⟩⟩
                      · rw [if_neg c30] at H
                        exact absurd H (by simp)
                    · rw [if_neg c29] at H
                      exact absurd H (by simp)
                  · replace c27 := Bool.eq_false_iff.mpr c27
                    subst c27
                    have H1 : (if 0 ≤ x7_1 then (if x7_1 < (t319.length : Int) then (some (([] : List (S50)), (rd_T29 t319 x7_1).f2)) else (none)) else (none)) = some (r1, r2) := by rw [if_neg (show ¬ (false = true) by decide)] at H; exact H
                    clear H
                    have H := H1
                    clear H1
                    by_cases c39 : 0 ≤ x7_1
                    · rw [if_pos c39] at H
                      have c39b0 : decide (0 ≤ x7_1) = true := decide_eq_true c39
                      clear c39
                      by_cases c40 : x7_1 < (t319.length : Int)
                      · rw [if_pos c40] at H
                        have c40b0 : decide (x7_1 < (t319.length : Int)) = true := decide_eq_true c40
                        clear c40
                        simp only [Option.some.injEq, Prod.mk.injEq] at H
                        obtain ⟨rfl, rfl⟩ := H
                        go_wp2_with (first | (go_at_call 31; (with_reducible refine (diacriticref24_Times.calls kj5 ((rd_T29 t319 x7_1).f0) false _ A26.out).mono ?_); rintro e w' ⟨rfl, ⟨nd, rfl⟩⟩; (try first | exact ⟨rfl, _, World.drewN_drewN _ _ _⟩ | exact ⟨rfl, _, Eq.trans (World.drewN_drewN _ _ _) (congrArg (World.drewN _) (Nat.add_assoc _ _ _))⟩); have p334 : 0 ≤ (x7_1 : Int) := of_decide_eq_true (by first | (with_reducible assumption) | assumption); have q334 : x7_1 < (t319.length : Int) := of_decide_eq_true (by first | (with_reducible assumption) | assumption); obtain ⟨ad334, e334, hx334_0, hx334_1, hx334_2⟩ := at_T29 (Kd.R_reads' HO_5.out).2.2 x7_1 p334 q334; obtain rfl : ad322 = ad334 := (by injection e334); replace p334 := eq_true p334; replace q334 := eq_true q334))
                        repeat (go_quiet (first | (go_at_call 31; (with_reducible refine (diacriticref24_Times.calls kj5 ((rd_T29 t319 x7_1).f0) false _ A26.out).mono ?_); rintro e w' ⟨rfl, ⟨nd, rfl⟩⟩; (try first | exact ⟨rfl, _, World.drewN_drewN _ _ _⟩ | exact ⟨rfl, _, Eq.trans (World.drewN_drewN _ _ _) (congrArg (World.drewN _) (Nat.add_assoc _ _ _))⟩); have p334 : 0 ≤ (x7_1 : Int) := of_decide_eq_true (by first | (with_reducible assumption) | assumption); have q334 : x7_1 < (t319.length : Int) := of_decide_eq_true (by first | (with_reducible assumption) | assumption); obtain ⟨ad334, e334, hx334_0, hx334_1, hx334_2⟩ := at_T29 (Kd.R_reads' HO_5.out).2.2 x7_1 p334 q334; obtain rfl : ad322 = ad334 := (by injection e334); replace p334 := eq_true p334; replace q334 := eq_true q334)); try go_wp2_with (first | (go_at_call 31; (with_reducible refine (diacriticref24_Times.calls kj5 ((rd_T29 t319 x7_1).f0) false _ A26.out).mono ?_); rintro e w' ⟨rfl, ⟨nd, rfl⟩⟩; (try first | exact ⟨rfl, _, World.drewN_drewN _ _ _⟩ | exact ⟨rfl, _, Eq.trans (World.drewN_drewN _ _ _) (congrArg (World.drewN _) (Nat.add_assoc _ _ _))⟩); have p334 : 0 ≤ (x7_1 : Int) := of_decide_eq_true (by first | (with_reducible assumption) | assumption); have q334 : x7_1 < (t319.length : Int) := of_decide_eq_true (by first | (with_reducible assumption) | assumption); obtain ⟨ad334, e334, hx334_0, hx334_1, hx334_2⟩ := at_T29 (Kd.R_reads' HO_5.out).2.2 x7_1 p334 q334; obtain rfl : ad322 = ad334 := (by injection e334); replace p334 := eq_true p334; replace q334 := eq_true q334)))
                        go_ret2
                        exact ⟨_, by first | rfl | (simp [errW_none, errW_some] <;> rfl) | (simp [*, errW_none, errW_some] <;> rfl), by first | exact Kd.R_nil _ _ _ _ _ | exact Kd.N_nil _ _ _ _ _ | exact Kd.V_nil _ _ _ _ _ | exact Kd.Q_nil _ _ _ _ _ | exact Kd.S_nil _ _ _ _ _, by repeat (first | (with_reducible first | exact HB.out | apply below_alloc | apply pw_below_drewN | apply below_drew1) | exact HB.out)⟩
                      · rw [if_neg c40] at H
                        exact absurd H (by simp)
                    · rw [if_neg c39] at H
                      exact absurd H (by simp)
                · rw [if_neg c25] at H
                  have c25b0 : (x6_1 == 1) = false := beq_eq_false_iff_ne.mpr c25
                  have c25b1 : (x6_1 != 1) = true := bne_iff_ne.mpr c25
                  have HC41 := Aside0.mk H
                  clear H
                  go_upto_region 18 with (fail)
                  repeat (go_quiet (fail); go_upto_region 18 with (fail))
                  go_cut [57] (fun v57 wc => ∃ (kq : Nat) (x57_40 : Bool), v57 = .bool x57_40 ∧ Aside0 (diacriticref24_Parse.j2 kq a0 x4_1 t319 x6_1 x7_1 ((rd_T29 t319 x7_1).f0) x57_40 = some (r1, r2)) ∧ Aside0 (kq ≤ kj5) ∧ Aside0 (Kd.R k50 50 wc w.heap.size (fun _ => True) u4 x4_1) ∧ Aside0 (Kd.R k29 29 wc w.heap.size (fun _ => True) (.slice (some ad322) t319.length co7) t319) ∧ Aside0 (Below w.heap.size w wc))
                  case first =>
                    have H := HC41.out
                    clear HC41
                    by_cases c42 : x6_1 = 2
                    · rw [if_pos c42] at H
                      have c42b0 : (x6_1 == 2) = true := beq_iff_eq.mpr c42
                      have c42b1 : (x6_1 != 2) = false := bne_eq_false_iff_eq.mpr c42
                      clear c42
                      (first | rw [c42b0] | (simp only [i64_w, i32_w]; rw [c42b0]) | skip)
                      have H' := Aside0.mk H
                      clear H
                      go_wp2
                      repeat (go_quiet (fail); try go_wp2)
                      go_meet
                      case rel => exact ⟨_, ((((rd_T29 t319 x7_1).f0).toList == ([] : List UInt8))), (by first | rfl | (simp; done) | (simp [*]; done) | (simp [beq_nil_isEmpty, bne_nil_isEmpty]; done)), H', ⟨by have := HK1.out; have := HJ5.out; first | omega | exact Nat.le_refl _⟩, ⟨by (with_reducible repeat (first | apply Kd.R_alloc | apply Kd.R_drewN | apply Kd.R_drew)); exact HO_4.out⟩, ⟨by (with_reducible repeat (first | apply Kd.R_alloc | apply Kd.R_drewN | apply Kd.R_drew)); exact HO_5.out⟩, ⟨by repeat (first | (with_reducible first | exact HB.out | apply below_alloc | apply pw_below_drewN | apply below_drew1) | exact HB.out)⟩⟩
                    · rw [if_neg c42] at H
                      have c42b0 : (x6_1 == 2) = false := beq_eq_false_iff_ne.mpr c42
                      have c42b1 : (x6_1 != 2) = true := bne_iff_ne.mpr c42
                      (first | rw [c42b0] | (simp only [i64_w, i32_w]; rw [c42b0]) | skip)
                      have H' := Aside0.mk H
                      clear H
                      go_wp2
                      repeat (go_quiet (fail); try go_wp2)
                      go_meet
                      case rel => exact ⟨_, (false), (by first | rfl | (simp; done) | (simp [*]; done) | (simp [beq_nil_isEmpty, bne_nil_isEmpty]; done)), H', ⟨by have := HK1.out; have := HJ5.out; first | omega | exact Nat.le_refl _⟩, ⟨by (with_reducible repeat (first | apply Kd.R_alloc | apply Kd.R_drewN | apply Kd.R_drew)); exact HO_4.out⟩, ⟨by (with_reducible repeat (first | apply Kd.R_alloc | apply Kd.R_drewN | apply Kd.R_drew)); exact HO_5.out⟩, ⟨by repeat (first | (with_reducible first | exact HB.out | apply below_alloc | apply pw_below_drewN | apply below_drew1) | exact HB.out)⟩⟩
                  case rest =>
                    clear HC41
                    try clear c1
                    try clear c2
                    try clear p2
                    try clear c3
                    try clear p3
                    try clear q3
                    try clear hx3
                    try clear c4
                    try clear c4b0
                    try clear c5
                    try clear c5b0
                    try clear p6
                    try clear c8
                    try clear c8b0
                    try clear c8b1
                    try clear c9
                    try clear c11
                    try clear c13
                    try clear c13b0
                    try clear c14
                    try clear c14b0
                    try clear c15
                    try clear c15b0
                    try clear c15b1
                    try clear c23
                    try clear c23b0
                    try clear c24
                    try clear c24b0
                    try clear c25
                    try clear c25b0
                    try clear c25b1
                    try clear c27
                    try clear c28
                    try clear c29
                    try clear c29b0
                    try clear c30
                    try clear c30b0
                    try clear c31
                    try clear c31b0
                    try clear c31b1
                    try clear p32
                    try clear q32
                    try clear hx32
                    try clear p33
                    try clear q33
                    try clear hx33
                    try clear c39
                    try clear c39b0
                    try clear c40
                    try clear c40b0
                    try clear c42
                    try clear c42b0
                    try clear c42b1
                    try clear hx322_0
                    try clear hx322_1
                    try clear hx322_2
                    try clear hx324_0
                    try clear hx324_1
                    try clear hx324_2
                    try clear hx328_0
                    try clear hx328_1
                    try clear hx328_2
                    try clear hx329_0
                    try clear hx329_1
                    try clear hx329_2
                    try clear hx334_0
                    try clear hx334_1
                    try clear hx334_2
                    try clear hx338_0
                    try clear hx338_1
                    try clear hx338_2
                    try clear hx339_0
                    try clear hx339_1
                    try clear hx339_2
                    try clear p2
                    try clear p3
                    try clear p322
                    try clear p324
                    try clear p328
                    try clear p329
                    try clear p334
                    try clear p338
                    try clear p339
                    try clear q3
                    try clear q322
                    try clear q324
                    try clear q328
                    try clear q329
                    try clear q334
                    try clear q338
                    try clear q339
                    obtain ⟨kq, x57_40, rfl, HA, HJ40, HO_4, HO_5, HB⟩ := hcut
                    cases kq with
                    | zero => exact absurd HA.out (by simp [diacriticref24_Parse.j2])
                    | succ kj40 =>
                      have H := HA.out
                      clear HA
                      simp only [diacriticref24_Parse.j2] at H
                      by_cases c43 : x57_40 = true
                      · subst c43
                        have H1 : (if 0 ≤ x7_1 then (if x7_1 < (t319.length : Int) then (if ((rd_T29 t319 x7_1).f1).toList = ([] : List UInt8) then (diacriticref24_Parse.l0 kj40 a0 x4_1 t319 0 (wrap64 (x7_1 + 1))) else ((diacriticref22_Put.f x4_1 ((rd_T29 t319 x7_1).f1)).bind fun t345 => (diacriticref24_Parse.l0 kj40 a0 t345 t319 0 (wrap64 (x7_1 + 1))))) else (none)) else (none)) = some (r1, r2) := by rw [if_pos rfl] at H; exact H
                        clear H
                        have H := H1
                        clear H1
                        by_cases c44 : 0 ≤ x7_1
                        · rw [if_pos c44] at H
                          have c44b0 : decide (0 ≤ x7_1) = true := decide_eq_true c44
                          clear c44
                          by_cases c45 : x7_1 < (t319.length : Int)
                          · rw [if_pos c45] at H
                            have c45b0 : decide (x7_1 < (t319.length : Int)) = true := decide_eq_true c45
                            clear c45
                            by_cases c46 : ((rd_T29 t319 x7_1).f1).toList = ([] : List UInt8)
                            · rw [if_pos c46] at H
                              have c46b0 : (((rd_T29 t319 x7_1).f1).toList == ([] : List UInt8)) = true := beq_iff_eq.mpr c46
                              have c46b1 : (((rd_T29 t319 x7_1).f1).toList != ([] : List UInt8)) = false := bne_eq_false_iff_eq.mpr c46
                              clear c46
                              have H' := Aside0.mk H
                              clear H
                              have p343 : 0 ≤ (x7_1 : Int) := of_decide_eq_true (by first | (with_reducible assumption) | assumption)
                              have q343 : x7_1 < (t319.length : Int) := of_decide_eq_true (by first | (with_reducible assumption) | assumption)
                              obtain ⟨ad343, e343, hx343_0, hx343_1, hx343_2⟩ := at_T29 (Kd.R_reads' HO_5.out).2.2 x7_1 p343 q343
                              obtain rfl : ad322 = ad343 := (by injection e343)
                              replace p343 := eq_true p343
                              replace q343 := eq_true q343
                              go_wp2
                              repeat (go_quiet (fail); try go_wp2)
                              go_roundg kj40
                              case measure => have := HK1.out; have := HJ5.out; have := HJ40.out; omega
                              case rel => exact ⟨(x4_1), (0), (wrap64 (x7_1 + 1)), (by first | rfl | (simp; done) | (simp [*]; done) | (simp [beq_nil_isEmpty, bne_nil_isEmpty]; done)), (by first | rfl | (simp; done) | (simp [*]; done) | (simp [beq_nil_isEmpty, bne_nil_isEmpty]; done)), H', ⟨by have := HK1.out; have := HJ5.out; have := HJ40.out; omega⟩, ⟨by (with_reducible repeat (first | apply Kd.R_alloc | apply Kd.R_drewN | apply Kd.R_drew)); exact HO_4.out⟩, ⟨by (with_reducible repeat (first | apply Kd.R_alloc | apply Kd.R_drewN | apply Kd.R_drew)); exact HO_5.out⟩, ⟨by repeat (first | (with_reducible first | exact HB.out | apply below_alloc | apply pw_below_drewN | apply below_drew1) | exact HB.out)⟩⟩
                            · rw [if_neg c46] at H
                              have c46b0 : (((rd_T29 t319 x7_1).f1).toList == ([] : List UInt8)) = false := beq_eq_false_iff_ne.mpr c46
                              have c46b1 : (((rd_T29 t319 x7_1).f1).toList != ([] : List UInt8)) = true := bne_iff_ne.mpr c46
                              replace H := Option.bind_eq_some_iff.mp H
                              obtain ⟨t345, A470, H⟩ := H
                              replace H : (diacriticref24_Parse.l0 kj40 a0 t345 t319 0 (wrap64 (x7_1 + 1))) = some (r1, r2) := H
                              have A47 := Aside0.mk A470
                              clear A470
                              have H' := Aside0.mk H
                              clear H
                              have p343 : 0 ≤ (x7_1 : Int) := of_decide_eq_true (by first | (with_reducible assumption) | assumption)
                              have q343 : x7_1 < (t319.length : Int) := of_decide_eq_true (by first | (with_reducible assumption) | assumption)
                              obtain ⟨ad343, e343, hx343_0, hx343_1, hx343_2⟩ := at_T29 (Kd.R_reads' HO_5.out).2.2 x7_1 p343 q343
                              obtain rfl : ad322 = ad343 := (by injection e343)
                              replace p343 := eq_true p343
                              replace q343 := eq_true q343
                              have p344 : 0 ≤ (x7_1 : Int) := of_decide_eq_true (by first | (with_reducible assumption) | assumption)
                              have q344 : x7_1 < (t319.length : Int) := of_decide_eq_true (by first | (with_reducible assumption) | assumption)
                              obtain ⟨ad344, e344, hx344_0, hx344_1, hx344_2⟩ := at_T29 (Kd.R_reads' HO_5.out).2.2 x7_1 p344 q344
                              obtain rfl : ad322 = ad344 := (by injection e344)
                              replace p344 := eq_true p344
                              replace q344 := eq_true q344
                              obtain ⟨Ao48, co48, eo48⟩ := Kd.R_slice HO_4.out
                              subst eo48
                              go_wp2_with (first | (go_at_call 53; (with_reducible refine (diacriticref22_Put.calls (fun k_ => some k_ = (.slice Ao48 x4_1.length co48 : Value).ownBlock) (.slice Ao48 x4_1.length co48) x4_1 ((rd_T29 t319 x7_1).f1) t345 w _ ?side1 ?side2 A47.out).mono ?_); (case side1 => repeat (first | (with_reducible first | exact HB.out | apply below_alloc | apply pw_below_drewN | apply below_drew1) | exact HB.out)); (case side2 => exact Kd.R_tight rfl HO_4.out); rintro e w49 ⟨v346, rfl, ho0, hb, hkp⟩; have n0_ := Aside0.mk (Kd.R_mono (ok' := fun k_ => True) (Kd.R_keptB ((Kd.R_apart' HO_5.out (Kd.R_typed HO_4.out) (by decide))) hkp (fun k_ hk_ hs_ => (hk_.2) hs_)) (fun k_ hk_ => trivial)); have n1_ := Aside0.mk (Kd.R_mono (ok' := fun k_ => True) ho0 (fun k_ hk_ => trivial)); have n2_ := Aside0.mk (hb); clear HO_5; clear HB; clear HO_4; have HO_5 := n0_; have HO347 := n1_; have HB := n2_; clear n0_ n1_ n2_; (try clear hb); (try clear hkp); (try clear ho0)))
                              repeat (go_quiet (first | (go_at_call 53; (with_reducible refine (diacriticref22_Put.calls (fun k_ => some k_ = (.slice Ao48 x4_1.length co48 : Value).ownBlock) (.slice Ao48 x4_1.length co48) x4_1 ((rd_T29 t319 x7_1).f1) t345 w _ ?side1 ?side2 A47.out).mono ?_); (case side1 => repeat (first | (with_reducible first | exact HB.out | apply below_alloc | apply pw_below_drewN | apply below_drew1) | exact HB.out)); (case side2 => exact Kd.R_tight rfl HO_4.out); rintro e w49 ⟨v346, rfl, ho0, hb, hkp⟩; have n0_ := Aside0.mk (Kd.R_mono (ok' := fun k_ => True) (Kd.R_keptB ((Kd.R_apart' HO_5.out (Kd.R_typed HO_4.out) (by decide))) hkp (fun k_ hk_ hs_ => (hk_.2) hs_)) (fun k_ hk_ => trivial)); have n1_ := Aside0.mk (Kd.R_mono (ok' := fun k_ => True) ho0 (fun k_ hk_ => trivial)); have n2_ := Aside0.mk (hb); clear HO_5; clear HB; clear HO_4; have HO_5 := n0_; have HO347 := n1_; have HB := n2_; clear n0_ n1_ n2_; (try clear hb); (try clear hkp); (try clear ho0))); try go_wp2_with (first | (go_at_call 53; (with_reducible refine (diacriticref22_Put.calls (fun k_ => some k_ = (.slice Ao48 x4_1.length co48 : Value).ownBlock) (.slice Ao48 x4_1.length co48) x4_1 ((rd_T29 t319 x7_1).f1) t345 w _ ?side1 ?side2 A47.out).mono ?_); (case side1 => repeat (first | (with_reducible first | exact HB.out | apply below_alloc | apply pw_below_drewN | apply below_drew1) | exact HB.out)); (case side2 => exact Kd.R_tight rfl HO_4.out); rintro e w49 ⟨v346, rfl, ho0, hb, hkp⟩; have n0_ := Aside0.mk (Kd.R_mono (ok' := fun k_ => True) (Kd.R_keptB ((Kd.R_apart' HO_5.out (Kd.R_typed HO_4.out) (by decide))) hkp (fun k_ hk_ hs_ => (hk_.2) hs_)) (fun k_ hk_ => trivial)); have n1_ := Aside0.mk (Kd.R_mono (ok' := fun k_ => True) ho0 (fun k_ hk_ => trivial)); have n2_ := Aside0.mk (hb); clear HO_5; clear HB; clear HO_4; have HO_5 := n0_; have HO347 := n1_; have HB := n2_; clear n0_ n1_ n2_; (try clear hb); (try clear hkp); (try clear ho0))))
                              go_roundg kj40
                              case measure => have := HK1.out; have := HJ5.out; have := HJ40.out; omega
                              case rel => exact ⟨(t345), (0), (wrap64 (x7_1 + 1)), (by first | rfl | (simp; done) | (simp [*]; done) | (simp [beq_nil_isEmpty, bne_nil_isEmpty]; done)), (by first | rfl | (simp; done) | (simp [*]; done) | (simp [beq_nil_isEmpty, bne_nil_isEmpty]; done)), H', ⟨by have := HK1.out; have := HJ5.out; have := HJ40.out; omega⟩, ⟨by (with_reducible repeat (first | apply Kd.R_alloc | apply Kd.R_drewN | apply Kd.R_drew)); exact HO347.out⟩, ⟨by (with_reducible repeat (first | apply Kd.R_alloc | apply Kd.R_drewN | apply Kd.R_drew)); exact HO_5.out⟩, ⟨by repeat (first | (with_reducible first | exact HB.out | apply below_alloc | apply pw_below_drewN | apply below_drew1) | exact HB.out)⟩⟩
                          · rw [if_neg c45] at H
                            exact absurd H (by simp)
                        · rw [if_neg c44] at H
                          exact absurd H (by simp)
                      · replace c43 := Bool.eq_false_iff.mpr c43
                        subst c43
                        have H1 : (if x6_1 = 2 then ((diacriticref22_Write.f x4_1 (⟨#[116, 101, 120, 116]⟩ : ByteArray) ((rd_T29 t319 x7_1).f0)).bind fun t348 => (if 0 ≤ x7_1 then (if x7_1 < (t319.length : Int) then (if ((rd_T29 t319 x7_1).f1).toList = ([] : List UInt8) then (diacriticref24_Parse.l0 kj40 a0 t348 t319 x6_1 (wrap64 (x7_1 + 1))) else ((diacriticref22_Put.f t348 ((rd_T29 t319 x7_1).f1)).bind fun t353 => (diacriticref24_Parse.l0 kj40 a0 t353 t319 x6_1 (wrap64 (x7_1 + 1))))) else (none)) else (none))) else (if 0 ≤ x7_1 then (if x7_1 < (t319.length : Int) then (if ((rd_T29 t319 x7_1).f1).toList = ([] : List UInt8) then (diacriticref24_Parse.l0 kj40 a0 x4_1 t319 x6_1 (wrap64 (x7_1 + 1))) else ((diacriticref22_Put.f x4_1 ((rd_T29 t319 x7_1).f1)).bind fun t358 => (diacriticref24_Parse.l0 kj40 a0 t358 t319 x6_1 (wrap64 (x7_1 + 1))))) else (none)) else (none))) = some (r1, r2) := by rw [if_neg (show ¬ (false = true) by decide)] at H; exact H
                        clear H
                        have H := H1
                        clear H1
                        by_cases c50 : x6_1 = 2
                        · rw [if_pos c50] at H
                          have c50b0 : (x6_1 == 2) = true := beq_iff_eq.mpr c50
                          have c50b1 : (x6_1 != 2) = false := bne_eq_false_iff_eq.mpr c50
                          clear c50
                          replace H := Option.bind_eq_some_iff.mp H
                          obtain ⟨t348, A510, H⟩ := H
                          replace H : (if 0 ≤ x7_1 then (if x7_1 < (t319.length : Int) then (if ((rd_T29 t319 x7_1).f1).toList = ([] : List UInt8) then (diacriticref24_Parse.l0 kj40 a0 t348 t319 x6_1 (wrap64 (x7_1 + 1))) else ((diacriticref22_Put.f t348 ((rd_T29 t319 x7_1).f1)).bind fun t353 => (diacriticref24_Parse.l0 kj40 a0 t353 t319 x6_1 (wrap64 (x7_1 + 1))))) else (none)) else (none)) = some (r1, r2) := H
                          have A51 := Aside0.mk A510
                          clear A510
                          by_cases c52 : 0 ≤ x7_1
                          · rw [if_pos c52] at H
                            have c52b0 : decide (0 ≤ x7_1) = true := decide_eq_true c52
                            clear c52
                            by_cases c53 : x7_1 < (t319.length : Int)
                            · rw [if_pos c53] at H
                              have c53b0 : decide (x7_1 < (t319.length : Int)) = true := decide_eq_true c53
                              clear c53
                              by_cases c54 : ((rd_T29 t319 x7_1).f1).toList = ([] : List UInt8)
                              · rw [if_pos c54] at H
                                have c54b0 : (((rd_T29 t319 x7_1).f1).toList == ([] : List UInt8)) = true := beq_iff_eq.mpr c54
                                have c54b1 : (((rd_T29 t319 x7_1).f1).toList != ([] : List UInt8)) = false := bne_eq_false_iff_eq.mpr c54
                                clear c54
                                have H' := Aside0.mk H
                                clear H
                                obtain ⟨Ao55, co55, eo55⟩ := Kd.R_slice HO_4.out
                                subst eo55
                                go_wp2_with (first | (go_at_call 54; (with_reducible refine (diacriticref22_Write.calls (fun k_ => some k_ = (.slice Ao55 x4_1.length co55 : Value).ownBlock) (.slice Ao55 x4_1.length co55) x4_1 (⟨#[116, 101, 120, 116]⟩ : ByteArray) ((rd_T29 t319 x7_1).f0) t348 w _ ?side1 ?side2 A51.out).mono ?_); (case side1 => repeat (first | (with_reducible first | exact HB.out | apply below_alloc | apply pw_below_drewN | apply below_drew1) | exact HB.out)); (case side2 => exact Kd.R_tight rfl HO_4.out); rintro e w56 ⟨v349, rfl, ho0, hb, hkp⟩; have n0_ := Aside0.mk (Kd.R_mono (ok' := fun k_ => True) (Kd.R_keptB ((Kd.R_apart' HO_5.out (Kd.R_typed HO_4.out) (by decide))) hkp (fun k_ hk_ hs_ => (hk_.2) hs_)) (fun k_ hk_ => trivial)); have n1_ := Aside0.mk (Kd.R_mono (ok' := fun k_ => True) ho0 (fun k_ hk_ => trivial)); have n2_ := Aside0.mk (hb); clear HO_5; clear HB; clear HO_4; have HO_5 := n0_; have HO350 := n1_; have HB := n2_; clear n0_ n1_ n2_; (try clear hb); (try clear hkp); (try clear ho0); have p351 : 0 ≤ (x7_1 : Int) := of_decide_eq_true (by first | (with_reducible assumption) | assumption); have q351 : x7_1 < (t319.length : Int) := of_decide_eq_true (by first | (with_reducible assumption) | assumption); obtain ⟨ad351, e351, hx351_0, hx351_1, hx351_2⟩ := at_T29 (Kd.R_reads' HO_5.out).2.2 x7_1 p351 q351; obtain rfl : ad322 = ad351 := (by injection e351); replace p351 := eq_true p351; replace q351 := eq_true q351))
                                repeat (go_quiet (first | (go_at_call 54; (with_reducible refine (diacriticref22_Write.calls (fun k_ => some k_ = (.slice Ao55 x4_1.length co55 : Value).ownBlock) (.slice Ao55 x4_1.length co55) x4_1 (⟨#[116, 101, 120, 116]⟩ : ByteArray) ((rd_T29 t319 x7_1).f0) t348 w _ ?side1 ?side2 A51.out).mono ?_); (case side1 => repeat (first | (with_reducible first | exact HB.out | apply below_alloc | apply pw_below_drewN | apply below_drew1) | exact HB.out)); (case side2 => exact Kd.R_tight rfl HO_4.out); rintro e w56 ⟨v349, rfl, ho0, hb, hkp⟩; have n0_ := Aside0.mk (Kd.R_mono (ok' := fun k_ => True) (Kd.R_keptB ((Kd.R_apart' HO_5.out (Kd.R_typed HO_4.out) (by decide))) hkp (fun k_ hk_ hs_ => (hk_.2) hs_)) (fun k_ hk_ => trivial)); have n1_ := Aside0.mk (Kd.R_mono (ok' := fun k_ => True) ho0 (fun k_ hk_ => trivial)); have n2_ := Aside0.mk (hb); clear HO_5; clear HB; clear HO_4; have HO_5 := n0_; have HO350 := n1_; have HB := n2_; clear n0_ n1_ n2_; (try clear hb); (try clear hkp); (try clear ho0); have p351 : 0 ≤ (x7_1 : Int) := of_decide_eq_true (by first | (with_reducible assumption) | assumption); have q351 : x7_1 < (t319.length : Int) := of_decide_eq_true (by first | (with_reducible assumption) | assumption); obtain ⟨ad351, e351, hx351_0, hx351_1, hx351_2⟩ := at_T29 (Kd.R_reads' HO_5.out).2.2 x7_1 p351 q351; obtain rfl : ad322 = ad351 := (by injection e351); replace p351 := eq_true p351; replace q351 := eq_true q351)); try go_wp2_with (first | (go_at_call 54; (with_reducible refine (diacriticref22_Write.calls (fun k_ => some k_ = (.slice Ao55 x4_1.length co55 : Value).ownBlock) (.slice Ao55 x4_1.length co55) x4_1 (⟨#[116, 101, 120, 116]⟩ : ByteArray) ((rd_T29 t319 x7_1).f0) t348 w _ ?side1 ?side2 A51.out).mono ?_); (case side1 => repeat (first | (with_reducible first | exact HB.out | apply below_alloc | apply pw_below_drewN | apply below_drew1) | exact HB.out)); (case side2 => exact Kd.R_tight rfl HO_4.out); rintro e w56 ⟨v349, rfl, ho0, hb, hkp⟩; have n0_ := Aside0.mk (Kd.R_mono (ok' := fun k_ => True) (Kd.R_keptB ((Kd.R_apart' HO_5.out (Kd.R_typed HO_4.out) (by decide))) hkp (fun k_ hk_ hs_ => (hk_.2) hs_)) (fun k_ hk_ => trivial)); have n1_ := Aside0.mk (Kd.R_mono (ok' := fun k_ => True) ho0 (fun k_ hk_ => trivial)); have n2_ := Aside0.mk (hb); clear HO_5; clear HB; clear HO_4; have HO_5 := n0_; have HO350 := n1_; have HB := n2_; clear n0_ n1_ n2_; (try clear hb); (try clear hkp); (try clear ho0); have p351 : 0 ≤ (x7_1 : Int) := of_decide_eq_true (by first | (with_reducible assumption) | assumption); have q351 : x7_1 < (t319.length : Int) := of_decide_eq_true (by first | (with_reducible assumption) | assumption); obtain ⟨ad351, e351, hx351_0, hx351_1, hx351_2⟩ := at_T29 (Kd.R_reads' HO_5.out).2.2 x7_1 p351 q351; obtain rfl : ad322 = ad351 := (by injection e351); replace p351 := eq_true p351; replace q351 := eq_true q351)))
                                go_roundg kj40
                                case measure => have := HK1.out; have := HJ5.out; have := HJ40.out; omega
                                case rel => exact ⟨(t348), (x6_1), (wrap64 (x7_1 + 1)), (by first | rfl | (simp; done) | (simp [*]; done) | (simp [beq_nil_isEmpty, bne_nil_isEmpty]; done)), (by first | rfl | (simp; done) | (simp [*]; done) | (simp [beq_nil_isEmpty, bne_nil_isEmpty]; done)), H', ⟨by have := HK1.out; have := HJ5.out; have := HJ40.out; omega⟩, ⟨by (with_reducible repeat (first | apply Kd.R_alloc | apply Kd.R_drewN | apply Kd.R_drew)); exact HO350.out⟩, ⟨by (with_reducible repeat (first | apply Kd.R_alloc | apply Kd.R_drewN | apply Kd.R_drew)); exact HO_5.out⟩, ⟨by repeat (first | (with_reducible first | exact HB.out | apply below_alloc | apply pw_below_drewN | apply below_drew1) | exact HB.out)⟩⟩
                              · rw [if_neg c54] at H
                                have c54b0 : (((rd_T29 t319 x7_1).f1).toList == ([] : List UInt8)) = false := beq_eq_false_iff_ne.mpr c54
                                have c54b1 : (((rd_T29 t319 x7_1).f1).toList != ([] : List UInt8)) = true := bne_iff_ne.mpr c54
                                replace H := Option.bind_eq_some_iff.mp H
                                obtain ⟨t353, A570, H⟩ := H
                                replace H : (diacriticref24_Parse.l0 kj40 a0 t353 t319 x6_1 (wrap64 (x7_1 + 1))) = some (r1, r2) := H
                                have A57 := Aside0.mk A570
                                clear A570
                                have H' := Aside0.mk H
                                clear H
                                obtain ⟨Ao58, co58, eo58⟩ := Kd.R_slice HO_4.out
                                subst eo58
                                go_wp2_with (first | (go_at_call 54; (with_reducible refine (diacriticref22_Write.calls (fun k_ => some k_ = (.slice Ao58 x4_1.length co58 : Value).ownBlock) (.slice Ao58 x4_1.length co58) x4_1 (⟨#[116, 101, 120, 116]⟩ : ByteArray) ((rd_T29 t319 x7_1).f0) t348 w _ ?side1 ?side2 A51.out).mono ?_); (case side1 => repeat (first | (with_reducible first | exact HB.out | apply below_alloc | apply pw_below_drewN | apply below_drew1) | exact HB.out)); (case side2 => exact Kd.R_tight rfl HO_4.out); rintro e w59 ⟨v349, rfl, ho0, hb, hkp⟩; have n0_ := Aside0.mk (Kd.R_mono (ok' := fun k_ => True) (Kd.R_keptB ((Kd.R_apart' HO_5.out (Kd.R_typed HO_4.out) (by decide))) hkp (fun k_ hk_ hs_ => (hk_.2) hs_)) (fun k_ hk_ => trivial)); have n1_ := Aside0.mk (Kd.R_mono (ok' := fun k_ => True) ho0 (fun k_ hk_ => trivial)); have n2_ := Aside0.mk (hb); clear HO_5; clear HB; clear HO_4; have HO_5 := n0_; have HO350 := n1_; have HB := n2_; clear n0_ n1_ n2_; (try clear hb); (try clear hkp); (try clear ho0); have p351 : 0 ≤ (x7_1 : Int) := of_decide_eq_true (by first | (with_reducible assumption) | assumption); have q351 : x7_1 < (t319.length : Int) := of_decide_eq_true (by first | (with_reducible assumption) | assumption); obtain ⟨ad351, e351, hx351_0, hx351_1, hx351_2⟩ := at_T29 (Kd.R_reads' HO_5.out).2.2 x7_1 p351 q351; obtain rfl : ad322 = ad351 := (by injection e351); replace p351 := eq_true p351; replace q351 := eq_true q351; have p352 : 0 ≤ (x7_1 : Int) := of_decide_eq_true (by first | (with_reducible assumption) | assumption); have q352 : x7_1 < (t319.length : Int) := of_decide_eq_true (by first | (with_reducible assumption) | assumption); obtain ⟨ad352, e352, hx352_0, hx352_1, hx352_2⟩ := at_T29 (Kd.R_reads' HO_5.out).2.2 x7_1 p352 q352; obtain rfl : ad322 = ad352 := (by injection e352); replace p352 := eq_true p352; replace q352 := eq_true q352; obtain ⟨Ao60, co60, eo60⟩ := Kd.R_slice HO350.out; subst eo60) | (go_at_call 53; (with_reducible refine (diacriticref22_Put.calls (fun k_ => some k_ = (.slice Ao60 t348.length co60 : Value).ownBlock) (.slice Ao60 t348.length co60) t348 ((rd_T29 t319 x7_1).f1) t353 w _ ?side1 ?side2 A57.out).mono ?_); (case side1 => repeat (first | (with_reducible first | exact HB.out | apply below_alloc | apply pw_below_drewN | apply below_drew1) | exact HB.out)); (case side2 => exact Kd.R_tight rfl HO350.out); rintro e w61 ⟨v354, rfl, ho0, hb, hkp⟩; have n0_ := Aside0.mk (Kd.R_mono (ok' := fun k_ => True) (Kd.R_keptB ((Kd.R_apart' HO_5.out (Kd.R_typed HO350.out) (by decide))) hkp (fun k_ hk_ hs_ => (hk_.2) hs_)) (fun k_ hk_ => trivial)); have n1_ := Aside0.mk (Kd.R_mono (ok' := fun k_ => True) ho0 (fun k_ hk_ => trivial)); have n2_ := Aside0.mk (hb); clear HO_5; clear HB; clear HO350; have HO_5 := n0_; have HO355 := n1_; have HB := n2_; clear n0_ n1_ n2_; (try clear hb); (try clear hkp); (try clear ho0)))
                                repeat (go_quiet (first | (go_at_call 54; (with_reducible refine (diacriticref22_Write.calls (fun k_ => some k_ = (.slice Ao58 x4_1.length co58 : Value).ownBlock) (.slice Ao58 x4_1.length co58) x4_1 (⟨#[116, 101, 120, 116]⟩ : ByteArray) ((rd_T29 t319 x7_1).f0) t348 w _ ?side1 ?side2 A51.out).mono ?_); (case side1 => repeat (first | (with_reducible first | exact HB.out | apply below_alloc | apply pw_below_drewN | apply below_drew1) | exact HB.out)); (case side2 => exact Kd.R_tight rfl HO_4.out); rintro e w59 ⟨v349, rfl, ho0, hb, hkp⟩; have n0_ := Aside0.mk (Kd.R_mono (ok' := fun k_ => True) (Kd.R_keptB ((Kd.R_apart' HO_5.out (Kd.R_typed HO_4.out) (by decide))) hkp (fun k_ hk_ hs_ => (hk_.2) hs_)) (fun k_ hk_ => trivial)); have n1_ := Aside0.mk (Kd.R_mono (ok' := fun k_ => True) ho0 (fun k_ hk_ => trivial)); have n2_ := Aside0.mk (hb); clear HO_5; clear HB; clear HO_4; have HO_5 := n0_; have HO350 := n1_; have HB := n2_; clear n0_ n1_ n2_; (try clear hb); (try clear hkp); (try clear ho0); have p351 : 0 ≤ (x7_1 : Int) := of_decide_eq_true (by first | (with_reducible assumption) | assumption); have q351 : x7_1 < (t319.length : Int) := of_decide_eq_true (by first | (with_reducible assumption) | assumption); obtain ⟨ad351, e351, hx351_0, hx351_1, hx351_2⟩ := at_T29 (Kd.R_reads' HO_5.out).2.2 x7_1 p351 q351; obtain rfl : ad322 = ad351 := (by injection e351); replace p351 := eq_true p351; replace q351 := eq_true q351; have p352 : 0 ≤ (x7_1 : Int) := of_decide_eq_true (by first | (with_reducible assumption) | assumption); have q352 : x7_1 < (t319.length : Int) := of_decide_eq_true (by first | (with_reducible assumption) | assumption); obtain ⟨ad352, e352, hx352_0, hx352_1, hx352_2⟩ := at_T29 (Kd.R_reads' HO_5.out).2.2 x7_1 p352 q352; obtain rfl : ad322 = ad352 := (by injection e352); replace p352 := eq_true p352; replace q352 := eq_true q352; obtain ⟨Ao60, co60, eo60⟩ := Kd.R_slice HO350.out; subst eo60) | (go_at_call 53; (with_reducible refine (diacriticref22_Put.calls (fun k_ => some k_ = (.slice Ao60 t348.length co60 : Value).ownBlock) (.slice Ao60 t348.length co60) t348 ((rd_T29 t319 x7_1).f1) t353 w _ ?side1 ?side2 A57.out).mono ?_); (case side1 => repeat (first | (with_reducible first | exact HB.out | apply below_alloc | apply pw_below_drewN | apply below_drew1) | exact HB.out)); (case side2 => exact Kd.R_tight rfl HO350.out); rintro e w61 ⟨v354, rfl, ho0, hb, hkp⟩; have n0_ := Aside0.mk (Kd.R_mono (ok' := fun k_ => True) (Kd.R_keptB ((Kd.R_apart' HO_5.out (Kd.R_typed HO350.out) (by decide))) hkp (fun k_ hk_ hs_ => (hk_.2) hs_)) (fun k_ hk_ => trivial)); have n1_ := Aside0.mk (Kd.R_mono (ok' := fun k_ => True) ho0 (fun k_ hk_ => trivial)); have n2_ := Aside0.mk (hb); clear HO_5; clear HB; clear HO350; have HO_5 := n0_; have HO355 := n1_; have HB := n2_; clear n0_ n1_ n2_; (try clear hb); (try clear hkp); (try clear ho0))); try go_wp2_with (first | (go_at_call 54; (with_reducible refine (diacriticref22_Write.calls (fun k_ => some k_ = (.slice Ao58 x4_1.length co58 : Value).ownBlock) (.slice Ao58 x4_1.length co58) x4_1 (⟨#[116, 101, 120, 116]⟩ : ByteArray) ((rd_T29 t319 x7_1).f0) t348 w _ ?side1 ?side2 A51.out).mono ?_); (case side1 => repeat (first | (with_reducible first | exact HB.out | apply below_alloc | apply pw_below_drewN | apply below_drew1) | exact HB.out)); (case side2 => exact Kd.R_tight rfl HO_4.out); rintro e w59 ⟨v349, rfl, ho0, hb, hkp⟩; have n0_ := Aside0.mk (Kd.R_mono (ok' := fun k_ => True) (Kd.R_keptB ((Kd.R_apart' HO_5.out (Kd.R_typed HO_4.out) (by decide))) hkp (fun k_ hk_ hs_ => (hk_.2) hs_)) (fun k_ hk_ => trivial)); have n1_ := Aside0.mk (Kd.R_mono (ok' := fun k_ => True) ho0 (fun k_ hk_ => trivial)); have n2_ := Aside0.mk (hb); clear HO_5; clear HB; clear HO_4; have HO_5 := n0_; have HO350 := n1_; have HB := n2_; clear n0_ n1_ n2_; (try clear hb); (try clear hkp); (try clear ho0); have p351 : 0 ≤ (x7_1 : Int) := of_decide_eq_true (by first | (with_reducible assumption) | assumption); have q351 : x7_1 < (t319.length : Int) := of_decide_eq_true (by first | (with_reducible assumption) | assumption); obtain ⟨ad351, e351, hx351_0, hx351_1, hx351_2⟩ := at_T29 (Kd.R_reads' HO_5.out).2.2 x7_1 p351 q351; obtain rfl : ad322 = ad351 := (by injection e351); replace p351 := eq_true p351; replace q351 := eq_true q351; have p352 : 0 ≤ (x7_1 : Int) := of_decide_eq_true (by first | (with_reducible assumption) | assumption); have q352 : x7_1 < (t319.length : Int) := of_decide_eq_true (by first | (with_reducible assumption) | assumption); obtain ⟨ad352, e352, hx352_0, hx352_1, hx352_2⟩ := at_T29 (Kd.R_reads' HO_5.out).2.2 x7_1 p352 q352; obtain rfl : ad322 = ad352 := (by injection e352); replace p352 := eq_true p352; replace q352 := eq_true q352; obtain ⟨Ao60, co60, eo60⟩ := Kd.R_slice HO350.out; subst eo60) | (go_at_call 53; (with_reducible refine (diacriticref22_Put.calls (fun k_ => some k_ = (.slice Ao60 t348.length co60 : Value).ownBlock) (.slice Ao60 t348.length co60) t348 ((rd_T29 t319 x7_1).f1) t353 w _ ?side1 ?side2 A57.out).mono ?_); (case side1 => repeat (first | (with_reducible first | exact HB.out | apply below_alloc | apply pw_below_drewN | apply below_drew1) | exact HB.out)); (case side2 => exact Kd.R_tight rfl HO350.out); rintro e w61 ⟨v354, rfl, ho0, hb, hkp⟩; have n0_ := Aside0.mk (Kd.R_mono (ok' := fun k_ => True) (Kd.R_keptB ((Kd.R_apart' HO_5.out (Kd.R_typed HO350.out) (by decide))) hkp (fun k_ hk_ hs_ => (hk_.2) hs_)) (fun k_ hk_ => trivial)); have n1_ := Aside0.mk (Kd.R_mono (ok' := fun k_ => True) ho0 (fun k_ hk_ => trivial)); have n2_ := Aside0.mk (hb); clear HO_5; clear HB; clear HO350; have HO_5 := n0_; have HO355 := n1_; have HB := n2_; clear n0_ n1_ n2_; (try clear hb); (try clear hkp); (try clear ho0))))
                                go_roundg kj40
                                case measure => have := HK1.out; have := HJ5.out; have := HJ40.out; omega
                                case rel => exact ⟨(t353), (x6_1), (wrap64 (x7_1 + 1)), (by first | rfl | (simp; done) | (simp [*]; done) | (simp [beq_nil_isEmpty, bne_nil_isEmpty]; done)), (by first | rfl | (simp; done) | (simp [*]; done) | (simp [beq_nil_isEmpty, bne_nil_isEmpty]; done)), H', ⟨by have := HK1.out; have := HJ5.out; have := HJ40.out; omega⟩, ⟨by (with_reducible repeat (first | apply Kd.R_alloc | apply Kd.R_drewN | apply Kd.R_drew)); exact HO355.out⟩, ⟨by (with_reducible repeat (first | apply Kd.R_alloc | apply Kd.R_drewN | apply Kd.R_drew)); exact HO_5.out⟩, ⟨by repeat (first | (with_reducible first | exact HB.out | apply below_alloc | apply pw_below_drewN | apply below_drew1) | exact HB.out)⟩⟩
                            · rw [if_neg c53] at H
                              exact absurd H (by simp)
                          · rw [if_neg c52] at H
                            exact absurd H (by simp)
                        · rw [if_neg c50] at H
                          have c50b0 : (x6_1 == 2) = false := beq_eq_false_iff_ne.mpr c50
                          have c50b1 : (x6_1 != 2) = true := bne_iff_ne.mpr c50
                          by_cases c62 : 0 ≤ x7_1
                          · rw [if_pos c62] at H
                            have c62b0 : decide (0 ≤ x7_1) = true := decide_eq_true c62
                            clear c62
                            by_cases c63 : x7_1 < (t319.length : Int)
                            · rw [if_pos c63] at H
                              have c63b0 : decide (x7_1 < (t319.length : Int)) = true := decide_eq_true c63
                              clear c63
                              by_cases c64 : ((rd_T29 t319 x7_1).f1).toList = ([] : List UInt8)
                              · rw [if_pos c64] at H
                                have c64b0 : (((rd_T29 t319 x7_1).f1).toList == ([] : List UInt8)) = true := beq_iff_eq.mpr c64
                                have c64b1 : (((rd_T29 t319 x7_1).f1).toList != ([] : List UInt8)) = false := bne_eq_false_iff_eq.mpr c64
                                clear c64
                                have H' := Aside0.mk H
                                clear H
                                have p356 : 0 ≤ (x7_1 : Int) := of_decide_eq_true (by first | (with_reducible assumption) | assumption)
                                have q356 : x7_1 < (t319.length : Int) := of_decide_eq_true (by first | (with_reducible assumption) | assumption)
                                obtain ⟨ad356, e356, hx356_0, hx356_1, hx356_2⟩ := at_T29 (Kd.R_reads' HO_5.out).2.2 x7_1 p356 q356
                                obtain rfl : ad322 = ad356 := (by injection e356)
                                replace p356 := eq_true p356
                                replace q356 := eq_true q356
                                go_wp2
                                repeat (go_quiet (fail); try go_wp2)
                                go_roundg kj40
                                case measure => have := HK1.out; have := HJ5.out; have := HJ40.out; omega
                                case rel => exact ⟨(x4_1), (x6_1), (wrap64 (x7_1 + 1)), (by first | rfl | (simp; done) | (simp [*]; done) | (simp [beq_nil_isEmpty, bne_nil_isEmpty]; done)), (by first | rfl | (simp; done) | (simp [*]; done) | (simp [beq_nil_isEmpty, bne_nil_isEmpty]; done)), H', ⟨by have := HK1.out; have := HJ5.out; have := HJ40.out; omega⟩, ⟨by (with_reducible repeat (first | apply Kd.R_alloc | apply Kd.R_drewN | apply Kd.R_drew)); exact HO_4.out⟩, ⟨by (with_reducible repeat (first | apply Kd.R_alloc | apply Kd.R_drewN | apply Kd.R_drew)); exact HO_5.out⟩, ⟨by repeat (first | (with_reducible first | exact HB.out | apply below_alloc | apply pw_below_drewN | apply below_drew1) | exact HB.out)⟩⟩
                              · rw [if_neg c64] at H
                                have c64b0 : (((rd_T29 t319 x7_1).f1).toList == ([] : List UInt8)) = false := beq_eq_false_iff_ne.mpr c64
                                have c64b1 : (((rd_T29 t319 x7_1).f1).toList != ([] : List UInt8)) = true := bne_iff_ne.mpr c64
                                replace H := Option.bind_eq_some_iff.mp H
                                obtain ⟨t358, A650, H⟩ := H
                                replace H : (diacriticref24_Parse.l0 kj40 a0 t358 t319 x6_1 (wrap64 (x7_1 + 1))) = some (r1, r2) := H
                                have A65 := Aside0.mk A650
                                clear A650
                                have H' := Aside0.mk H
                                clear H
                                have p356 : 0 ≤ (x7_1 : Int) := of_decide_eq_true (by first | (with_reducible assumption) | assumption)
                                have q356 : x7_1 < (t319.length : Int) := of_decide_eq_true (by first | (with_reducible assumption) | assumption)
                                obtain ⟨ad356, e356, hx356_0, hx356_1, hx356_2⟩ := at_T29 (Kd.R_reads' HO_5.out).2.2 x7_1 p356 q356
                                obtain rfl : ad322 = ad356 := (by injection e356)
                                replace p356 := eq_true p356
                                replace q356 := eq_true q356
                                have p357 : 0 ≤ (x7_1 : Int) := of_decide_eq_true (by first | (with_reducible assumption) | assumption)
                                have q357 : x7_1 < (t319.length : Int) := of_decide_eq_true (by first | (with_reducible assumption) | assumption)
                                obtain ⟨ad357, e357, hx357_0, hx357_1, hx357_2⟩ := at_T29 (Kd.R_reads' HO_5.out).2.2 x7_1 p357 q357
                                obtain rfl : ad322 = ad357 := (by injection e357)
                                replace p357 := eq_true p357
                                replace q357 := eq_true q357
                                obtain ⟨Ao66, co66, eo66⟩ := Kd.R_slice HO_4.out
                                subst eo66
                                go_wp2_with (first | (go_at_call 53; (with_reducible refine (diacriticref22_Put.calls (fun k_ => some k_ = (.slice Ao66 x4_1.length co66 : Value).ownBlock) (.slice Ao66 x4_1.length co66) x4_1 ((rd_T29 t319 x7_1).f1) t358 w _ ?side1 ?side2 A65.out).mono ?_); (case side1 => repeat (first | (with_reducible first | exact HB.out | apply below_alloc | apply pw_below_drewN | apply below_drew1) | exact HB.out)); (case side2 => exact Kd.R_tight rfl HO_4.out); rintro e w67 ⟨v359, rfl, ho0, hb, hkp⟩; have n0_ := Aside0.mk (Kd.R_mono (ok' := fun k_ => True) (Kd.R_keptB ((Kd.R_apart' HO_5.out (Kd.R_typed HO_4.out) (by decide))) hkp (fun k_ hk_ hs_ => (hk_.2) hs_)) (fun k_ hk_ => trivial)); have n1_ := Aside0.mk (Kd.R_mono (ok' := fun k_ => True) ho0 (fun k_ hk_ => trivial)); have n2_ := Aside0.mk (hb); clear HO_5; clear HB; clear HO_4; have HO_5 := n0_; have HO360 := n1_; have HB := n2_; clear n0_ n1_ n2_; (try clear hb); (try clear hkp); (try clear ho0)))
                                repeat (go_quiet (first | (go_at_call 53; (with_reducible refine (diacriticref22_Put.calls (fun k_ => some k_ = (.slice Ao66 x4_1.length co66 : Value).ownBlock) (.slice Ao66 x4_1.length co66) x4_1 ((rd_T29 t319 x7_1).f1) t358 w _ ?side1 ?side2 A65.out).mono ?_); (case side1 => repeat (first | (with_reducible first | exact HB.out | apply below_alloc | apply pw_below_drewN | apply below_drew1) | exact HB.out)); (case side2 => exact Kd.R_tight rfl HO_4.out); rintro e w67 ⟨v359, rfl, ho0, hb, hkp⟩; have n0_ := Aside0.mk (Kd.R_mono (ok' := fun k_ => True) (Kd.R_keptB ((Kd.R_apart' HO_5.out (Kd.R_typed HO_4.out) (by decide))) hkp (fun k_ hk_ hs_ => (hk_.2) hs_)) (fun k_ hk_ => trivial)); have n1_ := Aside0.mk (Kd.R_mono (ok' := fun k_ => True) ho0 (fun k_ hk_ => trivial)); have n2_ := Aside0.mk (hb); clear HO_5; clear HB; clear HO_4; have HO_5 := n0_; have HO360 := n1_; have HB := n2_; clear n0_ n1_ n2_; (try clear hb); (try clear hkp); (try clear ho0))); try go_wp2_with (first | (go_at_call 53; (with_reducible refine (diacriticref22_Put.calls (fun k_ => some k_ = (.slice Ao66 x4_1.length co66 : Value).ownBlock) (.slice Ao66 x4_1.length co66) x4_1 ((rd_T29 t319 x7_1).f1) t358 w _ ?side1 ?side2 A65.out).mono ?_); (case side1 => repeat (first | (with_reducible first | exact HB.out | apply below_alloc | apply pw_below_drewN | apply below_drew1) | exact HB.out)); (case side2 => exact Kd.R_tight rfl HO_4.out); rintro e w67 ⟨v359, rfl, ho0, hb, hkp⟩; have n0_ := Aside0.mk (Kd.R_mono (ok' := fun k_ => True) (Kd.R_keptB ((Kd.R_apart' HO_5.out (Kd.R_typed HO_4.out) (by decide))) hkp (fun k_ hk_ hs_ => (hk_.2) hs_)) (fun k_ hk_ => trivial)); have n1_ := Aside0.mk (Kd.R_mono (ok' := fun k_ => True) ho0 (fun k_ hk_ => trivial)); have n2_ := Aside0.mk (hb); clear HO_5; clear HB; clear HO_4; have HO_5 := n0_; have HO360 := n1_; have HB := n2_; clear n0_ n1_ n2_; (try clear hb); (try clear hkp); (try clear ho0))))
                                go_roundg kj40
                                case measure => have := HK1.out; have := HJ5.out; have := HJ40.out; omega
                                case rel => exact ⟨(t358), (x6_1), (wrap64 (x7_1 + 1)), (by first | rfl | (simp; done) | (simp [*]; done) | (simp [beq_nil_isEmpty, bne_nil_isEmpty]; done)), (by first | rfl | (simp; done) | (simp [*]; done) | (simp [beq_nil_isEmpty, bne_nil_isEmpty]; done)), H', ⟨by have := HK1.out; have := HJ5.out; have := HJ40.out; omega⟩, ⟨by (with_reducible repeat (first | apply Kd.R_alloc | apply Kd.R_drewN | apply Kd.R_drew)); exact HO360.out⟩, ⟨by (with_reducible repeat (first | apply Kd.R_alloc | apply Kd.R_drewN | apply Kd.R_drew)); exact HO_5.out⟩, ⟨by repeat (first | (with_reducible first | exact HB.out | apply below_alloc | apply pw_below_drewN | apply below_drew1) | exact HB.out)⟩⟩
                            · rw [if_neg c63] at H
                              exact absurd H (by simp)
                          · rw [if_neg c62] at H
                            exact absurd H (by simp)
        · rw [if_neg c5] at H
          exact absurd H (by simp)
      · rw [if_neg c4] at H
        have c4b0 : decide (x7_1 < (t319.length : Int)) = false := decide_eq_false c4
        clear c4
        by_cases c68 : x6_1 = 1
        · rw [if_pos c68] at H
          have c68b0 : (x6_1 == 1) = true := beq_iff_eq.mpr c68
          have c68b1 : (x6_1 != 1) = false := bne_eq_false_iff_eq.mpr c68
          clear c68
          simp only [Option.some.injEq, Prod.mk.injEq] at H
          obtain ⟨rfl, rfl⟩ := H
          obtain ⟨Ao69, co69, eo69⟩ := Kd.R_slice HO_5.out
          subst eo69
          go_wp2
          repeat (go_quiet (fail); try go_wp2)
          go_ret2
          exact ⟨_, by first | rfl | (simp [errW_none, errW_some] <;> rfl) | (simp [*, errW_none, errW_some] <;> rfl), by first | exact Kd.R_nil _ _ _ _ _ | exact Kd.N_nil _ _ _ _ _ | exact Kd.V_nil _ _ _ _ _ | exact Kd.Q_nil _ _ _ _ _ | exact Kd.S_nil _ _ _ _ _, by repeat (first | (with_reducible first | exact HB.out | apply below_alloc | apply pw_below_drewN | apply below_drew1) | exact HB.out)⟩
        · rw [if_neg c68] at H
          have c68b0 : (x6_1 == 1) = false := beq_eq_false_iff_ne.mpr c68
          have c68b1 : (x6_1 != 1) = true := bne_iff_ne.mpr c68
          simp only [Option.some.injEq, Prod.mk.injEq] at H
          obtain ⟨rfl, rfl⟩ := H
          obtain ⟨Ao70, co70, eo70⟩ := Kd.R_slice HO_5.out
          subst eo70
          go_wp2
          repeat (go_quiet (fail); try go_wp2)
          go_ret2
          exact ⟨_, by first | rfl | (simp [errW_none, errW_some] <;> rfl) | (simp [*, errW_none, errW_some] <;> rfl), by (with_reducible repeat (first | apply Kd.R_alloc | apply Kd.R_drewN | apply Kd.R_drew)); exact HO_4.out, by repeat (first | (with_reducible first | exact HB.out | apply below_alloc | apply pw_below_drewN | apply below_drew1) | exact HB.out)⟩

end Go.Proofs.Ytbndilnbfclmbaa.PAll
