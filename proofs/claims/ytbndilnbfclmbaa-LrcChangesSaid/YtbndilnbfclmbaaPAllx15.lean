/- Written by a program of this session: functions of the Go program as Lean functions, and the walks that tie them to it. -/
import Derived.Test.YtbndilnbfclmbaaPAllx0
import Derived.Test.YtbndilnbfclmbaaPAllx4
import Derived.Test.YtbndilnbfclmbaaPAllx14
namespace Go.Proofs.Ytbndilnbfclmbaa.PAll
open Go.RowKit Go.Proofs.YtbndilnbfclmbaaW.PrintWords Go.Proofs.YtbndilnbfclmbaaW.PrintLast Go.Proofs.YtbndilnbfclmbaaW.PrintMore
attribute [local go_sem] max2_int min2_int max_two min_two max_three min_three max_four min_four   -- for this text's walks alone
-- squeezed
set_option linter.unusedVariables false
set_option linter.unusedSimpArgs false

/-! ### lrc_note: function 57 -/
def lrc_note.j0 : Nat → ByteArray → Int → Bool → Option ((List (S34)) × Bool)
 | 0, _, _, _ => none
 | k + 1, x0, x6, x26 => if x26 = true then (some (([] : List (S34)), false)) else (if 0 ≤ x6 then (if x6 ≤ (x0.size : Int) then ((line_Mark.f (([(⟨#[91]⟩ : ByteArray), x0.extract 0 (x6 : Int).toNat, (⟨#[58]⟩ : ByteArray)] : List ByteArray))).bind fun bt252 => (if 0 ≤ (wrap64 (x6 + 1)) then (if (wrap64 (x6 + 1)) ≤ (x0.size : Int) then ((line_Text.f (x0.extract 0 (x6 : Int).toNat) (x0.extract ((wrap64 (x6 + 1)) : Int).toNat x0.size)).bind fun bt255 => ((line_Mark.f (([(⟨#[93]⟩ : ByteArray)] : List ByteArray))).bind fun bt261 => (some ((([(⟨bt252.1, bt252.2.1, bt252.2.2⟩ : S34), (⟨bt255.1, bt255.2.1, bt255.2.2⟩ : S34), (⟨bt261.1, bt261.2.1, bt261.2.2⟩ : S34)] : List (S34))), true)))) else (none)) else (none))) else (none)) else (none))
def lrc_note.f (k : Nat) (a0 : ByteArray) (a1 : ByteArray) : Option ((List (S34)) × Bool) := (lrc_letters.f k a0).bind fun t248 => (if t248 = 0 then (lrc_note.j0 k a0 t248 true) else (if t248 = (a0.size : Int) then (lrc_note.j0 k a0 t248 true) else (if 0 ≤ t248 then (if t248 < (a0.size : Int) then (if (bt a0 t248) = 58 then (lrc_note.j0 k a0 t248 (a1.toList != ([] : List UInt8))) else (lrc_note.j0 k a0 t248 true)) else (none)) else (none))))
theorem lrc_note.mono_l : ∀ k, (∀ y0 y1 y2, LeO (lrc_note.j0 k y0 y1 y2) (lrc_note.j0 (k + 1) y0 y1 y2))
 | 0 => fun _ _ _ r h => by simp [lrc_note.j0] at h
 | k + 1 => by
  have ih0 := lrc_note.mono_l k
  ·
   intro y0 y1 y2
   unfold lrc_note.j0
   repeat' first
   | (with_reducible exact ih0 _ _ _)
   | (with_reducible exact lrc_letters.mono _ _)
   | (with_reducible exact LeO.refl _)
   | (with_reducible exact LeO.none _)
   | (with_reducible refine LeO.ite ?_ ?_)
   | (with_reducible refine LeO.bind ?_ (fun _ => ?_))
   | exact ih0 _ _ _
   | exact lrc_letters.mono _ _
   | exact LeO.none _
   | refine LeO.ite ?_ ?_
   | refine LeO.bind ?_ (fun _ => ?_)
theorem lrc_note.mono : ∀ a0 a1 k, LeO (lrc_note.f k a0 a1) (lrc_note.f (k + 1) a0 a1) := by
 intro a0 a1 k
 have ih0 := lrc_note.mono_l k
 unfold lrc_note.f
 repeat' first
   | (with_reducible exact ih0 _ _ _)
   | (with_reducible exact lrc_letters.mono _ _)
   | (with_reducible exact LeO.refl _)
   | (with_reducible exact LeO.none _)
   | (with_reducible refine LeO.ite ?_ ?_)
   | (with_reducible refine LeO.bind ?_ (fun _ => ?_))
   | exact ih0 _ _ _
   | exact lrc_letters.mono _ _
   | exact LeO.none _
   | refine LeO.ite ?_ ?_
   | refine LeO.bind ?_ (fun _ => ?_)
def lrc_note.T4 : Bool × List (List Nat × List Nat) := (true, [([], []), ([], []), ([0, 1], [0, 1]), ([2], [2]), ([3], [3]), ([], []), ([], []), ([5, 6], [5, 6]), ([], []), ([], []), ([9], [9]), ([8, 10], [8, 10]), ([7, 11, 4], [7, 11]), ([], []), ([13, 12], [13]), ([4, 12, 14], [4, 12, 14]), ([15, 14, 0, 1, 2, 3, 4, 5, 6, 7, 8, 9, 10, 11, 12, 13, 14, 15], [15]), ([16, 0, 1, 2, 3, 4, 5, 6, 7, 8, 9, 10, 11, 12, 13, 14, 15, 16], [])])
def lrc_note.B4 : List Nat := [0, 0, 3, 7, 15, 0, 0, 96, 0, 0, 512, 1792, 4095, 0, 16383, 32767, 65535, 131071]
theorem lrc_note.tab4 : rtab .any (opsOf Try.f57 4) = lrc_note.T4 := by kernel_rfl
theorem lrc_note.bits4 : waitsOk lrc_note.T4.2 lrc_note.B4 = true := by kernel_rfl
set_option maxHeartbeats 8000000 in
set_option maxRecDepth 100000 in
theorem lrc_note.calls (k : Nat) (a0 : ByteArray) (a1 : ByteArray) (r1 : List (S34)) (r2 : Bool) (w : World) (h : lrc_note.f k a0 a1 = some (r1, r2)) :
  Calls Try.prog 57 #[.string a0, .string a1] w fun e w' => ∃ v0_ : Value, e = .returned (.tuple #[v0_, .bool r2]) ∧ Kd.R k34 34 w' w.heap.size (fun _ => True) v0_ r1 ∧ Below w.heap.size w w' := by
 have HB := Aside0.mk (Below.refl w.heap.size w)
 have H : ((lrc_letters.f k a0).bind fun t248 => (if t248 = 0 then (lrc_note.j0 k a0 t248 true) else (if t248 = (a0.size : Int) then (lrc_note.j0 k a0 t248 true) else (if 0 ≤ t248 then (if t248 < (a0.size : Int) then (if (bt a0 t248) = 58 then (lrc_note.j0 k a0 t248 (a1.toList != ([] : List UInt8))) else (lrc_note.j0 k a0 t248 true)) else (none)) else (none))))) = some (r1, r2) := h
 clear h; replace H := Option.bind_eq_some_iff.mp H; obtain ⟨t248, A30, H⟩ := H
 replace H : (if t248 = 0 then (lrc_note.j0 k a0 t248 true) else (if t248 = (a0.size : Int) then (lrc_note.j0 k a0 t248 true) else (if 0 ≤ t248 then (if t248 < (a0.size : Int) then (if (bt a0 t248) = 58 then (lrc_note.j0 k a0 t248 (a1.toList != ([] : List UInt8))) else (lrc_note.j0 k a0 t248 true)) else (none)) else (none)))) = some (r1, r2) := H
 have A3 := Aside0.mk A30; clear A30
 have HC4 := Aside0.mk H
 clear H
 go_enter Try.func57, Try.ntmps57
 go_upto_region 2 with (first | ((with_reducible refine gate_callee (f := 66) rfl ?_); refine goesL_ (some 8) rfl rfl Try.func66 (by kernel_rfl) rfl #[.string a0] rfl (by (try simp only [List.map_toArray, List.map_cons, List.map_nil]); first | done | rfl | (simp only [List.length_drop, List.length_take]; rfl)) ?_; (with_reducible refine (lrc_letters.calls k a0 t248 _ A3.out).mono ?_); rintro e w' ⟨rfl, ⟨nd, rfl⟩⟩; refine ⟨_, rfl, ?_⟩))
 (try simp only [Act.put, List.setIfInBounds_toArray, List.set_cons_zero, List.set_cons_succ])
 go_cut [26] (fun v26 wc => ∃ (kq : Nat) (x26_3 : Bool), v26 = .bool x26_3 ∧ Aside0 (lrc_note.j0 kq a0 t248 x26_3 = some (r1, r2)) ∧ Aside0 (kq ≤ k) ∧ Aside0 (Below w.heap.size w wc))
 case first =>
  have H := HC4.out
  clear HC4
  by_cases c5 : t248 = 0
  ·
   rw [if_pos c5] at H
   have c5b0 : (t248 == 0) = true := beq_iff_eq.mpr c5
   have c5b1 : (t248 != 0) = false := bne_eq_false_iff_eq.mpr c5
   clear c5
   (first | rw [c5b0] | (simp only [i64_w, i32_w]; rw [c5b0]) | skip)
   have H' := Aside0.mk H
   clear H
   go_wp2
   go_meet
   case rel => exact ⟨_, (true), (by first | rfl | (simp; done) | (simp [*]; done) | (simp [beq_nil_isEmpty, bne_nil_isEmpty]; done)), H', ⟨by first | omega | exact Nat.le_refl _⟩, ⟨by repeat (first | (with_reducible first | exact HB.out | apply below_alloc | apply pw_below_drewN | apply below_drew1) | exact HB.out)⟩⟩
  ·
   rw [if_neg c5] at H
   have c5b0 : (t248 == 0) = false := beq_eq_false_iff_ne.mpr c5
   have c5b1 : (t248 != 0) = true := bne_iff_ne.mpr c5
   (first | rw [c5b0] | (simp only [i64_w, i32_w]; rw [c5b0]) | skip)
   by_cases c6 : t248 = (a0.size : Int)
   ·
    rw [if_pos c6] at H
    have c6b0 : (t248 == (a0.size : Int)) = true := beq_iff_eq.mpr c6
    have c6b1 : (t248 != (a0.size : Int)) = false := bne_eq_false_iff_eq.mpr c6
    clear c6
    have H' := Aside0.mk H
    clear H
    go_wp2
    go_meet
    case rel => exact ⟨_, (true), (by first | rfl | (simp; done) | (simp [*]; done) | (simp [beq_nil_isEmpty, bne_nil_isEmpty]; done)), H', ⟨by first | omega | exact Nat.le_refl _⟩, ⟨by repeat (first | (with_reducible first | exact HB.out | apply below_alloc | apply pw_below_drewN | apply below_drew1) | exact HB.out)⟩⟩
   ·
    rw [if_neg c6] at H
    have c6b0 : (t248 == (a0.size : Int)) = false := beq_eq_false_iff_ne.mpr c6
    have c6b1 : (t248 != (a0.size : Int)) = true := bne_iff_ne.mpr c6
    by_cases c7 : 0 ≤ t248
    ·
     rw [if_pos c7] at H
     have c7b0 : decide (0 ≤ t248) = true := decide_eq_true c7
     clear c7
     by_cases c8 : t248 < (a0.size : Int)
     ·
      rw [if_pos c8] at H
      have c8b0 : decide (t248 < (a0.size : Int)) = true := decide_eq_true c8
      clear c8
      by_cases c10 : (bt a0 t248) = 58
      ·
       rw [if_pos c10] at H
       have c10b0 : ((bt a0 t248) == 58) = true := beq_iff_eq.mpr c10
       have c10b1 : ((bt a0 t248) != 58) = false := bne_eq_false_iff_eq.mpr c10
       clear c10
       have H' := Aside0.mk H
       clear H
       have p9 : 0 ≤ (t248 : Int) := of_decide_eq_true (by first | (with_reducible assumption) | assumption)
       have q9 : t248 < (a0.size : Int) := of_decide_eq_true (by first | (with_reducible assumption) | assumption)
       have hx9 := bt_at a0 t248
       replace p9 := eq_true p9
       replace q9 := eq_true q9
       go_wp2
       go_meet
       case rel => exact ⟨_, ((a1.toList != ([] : List UInt8))), (by first | rfl | (simp; done) | (simp [*]; done) | (simp [beq_nil_isEmpty, bne_nil_isEmpty]; done)), H', ⟨by first | omega | exact Nat.le_refl _⟩, ⟨by repeat (first | (with_reducible first | exact HB.out | apply below_alloc | apply pw_below_drewN | apply below_drew1) | exact HB.out)⟩⟩
      ·
       rw [if_neg c10] at H
       have c10b0 : ((bt a0 t248) == 58) = false := beq_eq_false_iff_ne.mpr c10
       have c10b1 : ((bt a0 t248) != 58) = true := bne_iff_ne.mpr c10
       have H' := Aside0.mk H
       clear H
       have p9 : 0 ≤ (t248 : Int) := of_decide_eq_true (by first | (with_reducible assumption) | assumption)
       have q9 : t248 < (a0.size : Int) := of_decide_eq_true (by first | (with_reducible assumption) | assumption)
       have hx9 := bt_at a0 t248
       replace p9 := eq_true p9
       replace q9 := eq_true q9
       go_wp2
       go_meet
       case rel => exact ⟨_, (true), (by first | rfl | (simp; done) | (simp [*]; done) | (simp [beq_nil_isEmpty, bne_nil_isEmpty]; done)), H', ⟨by first | omega | exact Nat.le_refl _⟩, ⟨by repeat (first | (with_reducible first | exact HB.out | apply below_alloc | apply pw_below_drewN | apply below_drew1) | exact HB.out)⟩⟩
     ·
      rw [if_neg c8] at H
      exact absurd H (by simp)
    ·
     rw [if_neg c7] at H
     exact absurd H (by simp)
 case rest =>
  clear HC4
  try clear c1
  try clear p2
  try clear c5
  try clear c5b0
  try clear c5b1
  try clear c6
  try clear c6b0
  try clear c6b1
  try clear c7
  try clear c7b0
  try clear c8
  try clear c8b0
  try clear p9
  try clear q9
  try clear hx9
  try clear c10
  try clear c10b0
  try clear c10b1
  try clear p9
  try clear q9
  obtain ⟨kq, x26_3, rfl, HA, HJ3, HB⟩ := hcut
  cases kq with
  | zero => exact absurd HA.out (by simp [lrc_note.j0])
  | succ kj3 =>
   have H := HA.out
   clear HA
   simp only [lrc_note.j0] at H
   by_cases c11 : x26_3 = true
   ·
    subst c11
    have H1 : (some (([] : List (S34)), false)) = some (r1, r2) := by rw [if_pos rfl] at H; exact H
    clear H; have H := H1; clear H1
    simp only [Option.some.injEq, Prod.mk.injEq] at H
    obtain ⟨rfl, rfl⟩ := H
    go_wp2
    go_ret2
    exact ⟨_, by first | rfl | (simp [errW_none, errW_some] <;> rfl) | (simp [*, errW_none, errW_some] <;> rfl), by first | exact Kd.R_nil _ _ _ _ _ | exact Kd.N_nil _ _ _ _ _ | exact Kd.V_nil _ _ _ _ _ | exact Kd.Q_nil _ _ _ _ _ | exact Kd.S_nil _ _ _ _ _, by repeat (first | (with_reducible first | exact HB.out | apply below_alloc | apply pw_below_drewN | apply below_drew1) | exact HB.out)⟩
   ·
    replace c11 := Bool.eq_false_iff.mpr c11
    subst c11
    have H1 : (if 0 ≤ t248 then (if t248 ≤ (a0.size : Int) then ((line_Mark.f (([(⟨#[91]⟩ : ByteArray), a0.extract 0 (t248 : Int).toNat, (⟨#[58]⟩ : ByteArray)] : List ByteArray))).bind fun bt252 => (if 0 ≤ (wrap64 (t248 + 1)) then (if (wrap64 (t248 + 1)) ≤ (a0.size : Int) then ((line_Text.f (a0.extract 0 (t248 : Int).toNat) (a0.extract ((wrap64 (t248 + 1)) : Int).toNat a0.size)).bind fun bt255 => ((line_Mark.f (([(⟨#[93]⟩ : ByteArray)] : List ByteArray))).bind fun bt261 => (some ((([(⟨bt252.1, bt252.2.1, bt252.2.2⟩ : S34), (⟨bt255.1, bt255.2.1, bt255.2.2⟩ : S34), (⟨bt261.1, bt261.2.1, bt261.2.2⟩ : S34)] : List (S34))), true)))) else (none)) else (none))) else (none)) else (none)) = some (r1, r2) := by rw [if_neg (show ¬ (false = true) by decide)] at H; exact H
    clear H; have H := H1; clear H1
    by_cases c12 : 0 ≤ t248
    ·
     rw [if_pos c12] at H
     have c12b0 := eq_true c12
     have c12b1 : decide (0 ≤ t248) = true := decide_eq_true c12
     clear c12
     by_cases c13 : t248 ≤ (a0.size : Int)
     ·
      rw [if_pos c13] at H
      have c13b0 := eq_true c13
      have c13b1 : decide (t248 ≤ (a0.size : Int)) = true := decide_eq_true c13
      clear c13
      obtain ⟨y249, hy249⟩ : ∃ y_ : List ByteArray, y_ = (([(⟨#[91]⟩ : ByteArray), a0.extract 0 (t248 : Int).toNat, (⟨#[58]⟩ : ByteArray)] : List ByteArray)) := ⟨_, rfl⟩
      replace H : ((line_Mark.f y249).bind fun bt252 => (if 0 ≤ (wrap64 (t248 + 1)) then (if (wrap64 (t248 + 1)) ≤ (a0.size : Int) then ((line_Text.f (a0.extract 0 (t248 : Int).toNat) (a0.extract ((wrap64 (t248 + 1)) : Int).toNat a0.size)).bind fun bt255 => ((line_Mark.f (([(⟨#[93]⟩ : ByteArray)] : List ByteArray))).bind fun bt261 => (some ((([(⟨bt252.1, bt252.2.1, bt252.2.2⟩ : S34), (⟨bt255.1, bt255.2.1, bt255.2.2⟩ : S34), (⟨bt261.1, bt261.2.1, bt261.2.2⟩ : S34)] : List (S34))), true)))) else (none)) else (none))) = some (r1, r2) := by first | (rw [hy249]; with_reducible exact H) | (have H2_ := (Option.bind_some _ _).symm.trans H; rw [hy249]; with_reducible exact H2_) | (have H2_ := (Option.bind_some _ _).symm.trans H; with_reducible exact H2_) | with_reducible exact H | (rw [hy249]; exact H) | exact H
      have Ny249 := Aside0.mk hy249
      clear hy249; replace H := Option.bind_eq_some_iff.mp H
      obtain ⟨⟨t252, t253, t254⟩, A140, H⟩ := H
      replace H : (if 0 ≤ (wrap64 (t248 + 1)) then (if (wrap64 (t248 + 1)) ≤ (a0.size : Int) then ((line_Text.f (a0.extract 0 (t248 : Int).toNat) (a0.extract ((wrap64 (t248 + 1)) : Int).toNat a0.size)).bind fun bt255 => ((line_Mark.f (([(⟨#[93]⟩ : ByteArray)] : List ByteArray))).bind fun bt261 => (some ((([(⟨t252, t253, t254⟩ : S34), (⟨bt255.1, bt255.2.1, bt255.2.2⟩ : S34), (⟨bt261.1, bt261.2.1, bt261.2.2⟩ : S34)] : List (S34))), true)))) else (none)) else (none)) = some (r1, r2) := H
      have A14 := Aside0.mk A140; clear A140
      have c15b0 := eq_true (of_decide_eq_true (by first | (with_reducible assumption) | assumption) : 0 ≤ t248)
      have c16b0 := eq_true (of_decide_eq_true (by first | (with_reducible assumption) | assumption) : t248 ≤ (a0.size : Int))
      obtain ⟨ji17, hji17⟩ : ∃ j_ : Int, (wrap64 (t248 + 1)) = j_ := ⟨_, rfl⟩
      replace H : (if 0 ≤ (ji17) then (if (ji17) ≤ (a0.size : Int) then ((line_Text.f (a0.extract 0 (t248 : Int).toNat) (a0.extract ((ji17) : Int).toNat a0.size)).bind fun bt255 => ((line_Mark.f (([(⟨#[93]⟩ : ByteArray)] : List ByteArray))).bind fun bt261 => (some ((([(⟨t252, t253, t254⟩ : S34), (⟨bt255.1, bt255.2.1, bt255.2.2⟩ : S34), (⟨bt261.1, bt261.2.1, bt261.2.2⟩ : S34)] : List (S34))), true)))) else (none)) else (none)) = some (r1, r2) := by first | (rw [hji17] at H; exact H) | (simp only [hji17] at H ⊢; exact H)
      (try rw [hji17] at A14)
      have hji17w : (IntKind.i64.wrap (t248 + 1)) = ji17 := (i64_w _).trans hji17
      by_cases c18 : 0 ≤ (ji17)
      ·
       rw [if_pos c18] at H
       have c18b0 := eq_true c18
       have c18b1 : decide (0 ≤ (ji17)) = true := decide_eq_true c18
       clear c18
       by_cases c19 : (ji17) ≤ (a0.size : Int)
       ·
        rw [if_pos c19] at H
        have c19b0 := eq_true c19
        have c19b1 : decide ((ji17) ≤ (a0.size : Int)) = true := decide_eq_true c19
        clear c19; replace H := Option.bind_eq_some_iff.mp H
        obtain ⟨⟨t255, t256, t257⟩, A200, H⟩ := H
        replace H : ((line_Mark.f (([(⟨#[93]⟩ : ByteArray)] : List ByteArray))).bind fun bt261 => (some ((([(⟨t252, t253, t254⟩ : S34), (⟨t255, t256, t257⟩ : S34), (⟨bt261.1, bt261.2.1, bt261.2.2⟩ : S34)] : List (S34))), true))) = some (r1, r2) := H
        have A20 := Aside0.mk A200; clear A200
        obtain ⟨y258, hy258⟩ : ∃ y_ : List ByteArray, y_ = (([(⟨#[93]⟩ : ByteArray)] : List ByteArray)) := ⟨_, rfl⟩
        replace H : ((line_Mark.f y258).bind fun bt261 => (some ((([(⟨t252, t253, t254⟩ : S34), (⟨t255, t256, t257⟩ : S34), (⟨bt261.1, bt261.2.1, bt261.2.2⟩ : S34)] : List (S34))), true))) = some (r1, r2) := by first | (rw [hy258]; with_reducible exact H) | (have H2_ := (Option.bind_some _ _).symm.trans H; rw [hy258]; with_reducible exact H2_) | (have H2_ := (Option.bind_some _ _).symm.trans H; with_reducible exact H2_) | with_reducible exact H | (rw [hy258]; exact H) | exact H
        have Ny258 := Aside0.mk hy258
        clear hy258; replace H := Option.bind_eq_some_iff.mp H
        obtain ⟨⟨t261, t262, t263⟩, A210, H⟩ := H
        replace H : (some ((([(⟨t252, t253, t254⟩ : S34), (⟨t255, t256, t257⟩ : S34), (⟨t261, t262, t263⟩ : S34)] : List (S34))), true)) = some (r1, r2) := H
        have A21 := Aside0.mk A210; clear A210
        obtain ⟨y264, hy264⟩ : ∃ y_ : List (S34), y_ = (([(⟨t252, t253, t254⟩ : S34), (⟨t255, t256, t257⟩ : S34), (⟨t261, t262, t263⟩ : S34)] : List (S34))) := ⟨_, rfl⟩
        replace H : (some (y264, true)) = some (r1, r2) := by first | (rw [hy264]; with_reducible exact H) | (have H2_ := (Option.bind_some _ _).symm.trans H; rw [hy264]; with_reducible exact H2_) | (have H2_ := (Option.bind_some _ _).symm.trans H; with_reducible exact H2_) | with_reducible exact H | (rw [hy264]; exact H) | exact H
        have Ny264 := Aside0.mk hy264
        clear hy264
        simp only [Option.some.injEq, Prod.mk.injEq] at H
        obtain ⟨rfl, rfl⟩ := H
        try go_wp2
        have n0_ := Aside0.mk (below_drew1 HB.out); clear HB; have HB := n0_; clear n0_
        refine start_ (n := 18) (S := fun w' => True) (ds := []) #[false, false, false, false, false, false, false, false, false, false, false, false, false, false, false, false, false, false] (by kernel_rfl) rfl rfl trivial (fun hHeld => ?_); refine with_tabW lrc_note.tab4 lrc_note.bits4 (fun HT_ HW_ => ?_)
        generalize wc.drew = w22 at HB hHeld ⊢
        refine pure_ (i := 0) (N := some 27) (v := ?_) (a' := ?_) #[true, false, false, false, false, false, false, false, false, false, false, false, false, false, false, false, false, false] rfl rfl (any_of HT_.out (by kernel_rfl)) (fun _ _ _ h => h) (Or.inl ⟨by rfl, ?_⟩) ?_ ?_
        rotate_left
        ·
         intro w'
         go_simp
         with_reducible rfl
        rotate_left
        ·
         simp only [Act.put, List.setIfInBounds_toArray, List.set_cons_zero, List.set_cons_succ, i64_w, i32_w]
         rfl
        refine pure_ (i := 1) (N := some 28) (v := ?_) (a' := ?_) #[true, true, false, false, false, false, false, false, false, false, false, false, false, false, false, false, false, false] rfl rfl (any_of HT_.out (by kernel_rfl)) (fun _ _ _ h => h) (Or.inl ⟨by rfl, ?_⟩) ?_ ?_
        rotate_left
        ·
         intro w'
         go_simp
         with_reducible rfl
        rotate_left
        ·
         simp only [Act.put, List.setIfInBounds_toArray, List.set_cons_zero, List.set_cons_succ, i64_w, i32_w]
         rfl
        refine pure_ (i := 5) (N := some 32) (v := ?_) (a' := ?_) #[true, true, false, false, false, true, false, false, false, false, false, false, false, false, false, false, false, false] rfl rfl (any_of HT_.out (by kernel_rfl)) (fun _ _ _ h => h) (Or.inl ⟨by rfl, ?_⟩) ?_ ?_
        rotate_left
        ·
         intro w'
         go_simp
         with_reducible rfl
        rotate_left
        ·
         simp only [Act.put, List.setIfInBounds_toArray, List.set_cons_zero, List.set_cons_succ, i64_w, i32_w]
         rfl
        refine pure_ (i := 6) (N := some 33) (v := ?_) (a' := ?_) #[true, true, false, false, false, true, true, false, false, false, false, false, false, false, false, false, false, false] rfl rfl (any_of HT_.out (by kernel_rfl)) (fun _ _ _ h => h) (Or.inl ⟨by rfl, ?_⟩) ?_ ?_
        rotate_left
        ·
         intro w'
         go_simp
         with_reducible rfl
        rotate_left
        ·
         simp only [Act.put, List.setIfInBounds_toArray, List.set_cons_zero, List.set_cons_succ, i64_w, i32_w]
         rfl
        refine pure_ (i := 8) (N := some 35) (v := ?_) (a' := ?_) #[true, true, false, false, false, true, true, false, true, false, false, false, false, false, false, false, false, false] rfl rfl (any_of HT_.out (by kernel_rfl)) (fun _ _ _ h => h) (Or.inl ⟨by rfl, ?_⟩) ?_ ?_
        rotate_left
        ·
         intro w'
         go_simp
         with_reducible rfl
        rotate_left
        ·
         simp only [Act.put, List.setIfInBounds_toArray, List.set_cons_zero, List.set_cons_succ, i64_w, i32_w]
         rfl
        refine pure_ (i := 9) (N := some 36) (v := ?_) (a' := ?_) #[true, true, false, false, false, true, true, false, true, true, false, false, false, false, false, false, false, false] rfl rfl (any_of HT_.out (by kernel_rfl)) (fun _ _ _ h => h) (Or.inl ⟨by rfl, ?_⟩) ?_ ?_
        rotate_left
        ·
         intro w'
         go_simp
         with_reducible rfl
        rotate_left
        ·
         simp only [Act.put, List.setIfInBounds_toArray, List.set_cons_zero, List.set_cons_succ, i64_w, i32_w]
         rfl
        refine inv_at [2, 3, 4, 7, 10, 11, 12, 13, 14, 15, 16, 17] (fun a0_ b a w' => ∃ (v250 : Value) (v259 : Value) (v265 : Value) (m16_ : Value), a = putSel a0_ b [(2, 29, .string (a0.extract 0 (t248 : Int).toNat)), (3, 30, v250), (4, 31, .agg #[.bool t252, .string t253, .string t254]), (7, 34, .string (a0.extract 0 (t248 : Int).toNat)), (10, 37, .int .i64 ji17), (11, 38, .string (a0.extract ((ji17) : Int).toNat a0.size)), (12, 39, .agg #[.bool t255, .string t256, .string t257]), (13, 40, v259), (14, 41, .agg #[.bool t261, .string t262, .string t263]), (15, 42, v265), (16, 4, m16_), (17, 5, .bool true)] ∧ (Below w.heap.size w w') ∧ (b 3 = true → Kd.R Kd.string 9 w' w.heap.size (fun _ => True) v250 y249) ∧ (b 13 = true → Kd.R Kd.string 9 w' w.heap.size (fun _ => True) v259 y258) ∧ (b 15 = true → Kd.R k34 34 w' w.heap.size (fun _ => True) v265 y264) ∧ (b 16 = true → (m16_ : Value) = v265)) HT_.out HW_.out (by kernel_rfl) (by kernel_rfl) ?_ ?_ ?_
        ·
         exact ⟨.bool false, .bool false, .bool false, .bool false, by simp only [putSel, Bool.false_eq_true, if_false], HB.out, fun h_ => absurd h_ (by decide), fun h_ => absurd h_ (by decide), fun h_ => absurd h_ (by decide), fun h_ => absurd h_ (by decide)⟩
        ·
         skip
         clear HB
         refine steps_cons ?_ ?_
         ·
          rintro b a w' ⟨v250, v259, v265, m16_, ha, Q_HB, Q_HO251, Q_HO260, Q_HO266, Q_X16_⟩ hb_ hon hoff
          refine ⟨_, rfl, fun K hK => ?_⟩
          have e27 : a.tmps[27]? = some (.string a0) := by rw [ha]; exact (putSel_off rfl).trans rfl
          have e28 : a.tmps[28]? = some (.int .i64 t248) := by rw [ha]; exact (putSel_off rfl).trans rfl
          replace ha := Aside0.mk ha
          have HB := Aside0.mk Q_HB
          refine value_ (w1 := w') (v := .string (a0.extract 0 (t248 : Int).toNat)) (by rfl) rfl ?_ ?_
          ·
           go_simp
           (try simp only [i64_w])
           try rfl
          refine hK.out _ _ ⟨v250, v259, v265, m16_, (by rw [ha.out]; exact putSel_upk 0 hb_ rfl rfl rfl), Q_HB, fun h0_ => absurd ((hoff 3 (by kernel_rfl)).symm.trans h0_) (by decide), Q_HO260, fun h0_ => absurd ((hoff 15 (by kernel_rfl)).symm.trans h0_) (by decide), fun h0_ => absurd ((hoff 16 (by kernel_rfl)).symm.trans h0_) (by decide)⟩
         refine steps_cons ?_ ?_
         ·
          rintro b a w' ⟨v250, v259, v265, m16_, ha, Q_HB, Q_HO251, Q_HO260, Q_HO266, Q_X16_⟩ hb_ hon hoff
          refine ⟨_, rfl, fun K hK => ?_⟩
          have e29 : a.tmps[29]? = some (.string (a0.extract 0 (t248 : Int).toNat)) := by rw [ha]; exact putSel_on (e := (2, 29, .string (a0.extract 0 (t248 : Int).toNat))) 0 rfl rfl (hon 2 (by kernel_rfl)) rfl
          replace ha := Aside0.mk ha
          have HB := Aside0.mk Q_HB
          refine Kd.R_lit_step Kd.string _ 9 ?hg (N := 30) ?hd (xs := ([(⟨#[91]⟩ : ByteArray), a0.extract 0 (t248 : Int).toNat, (⟨#[58]⟩ : ByteArray)] : List ByteArray)) (inner := [.string (⟨#[91]⟩ : ByteArray), .string (a0.extract 0 (t248 : Int).toNat), .string (⟨#[58]⟩ : ByteArray)]) (ok := fun _ => True) (okp := fun _ => True) ?hr ?hp (fun _ hk => hk) trivial (Below.refl _ _) (Nat.le_refl _) (by simp) ?_; (case hd => rfl); (case hg => rfl); (case hr => first | (go_simp; done) | (go_simp; rfl)); (case hp => exact (Reps.one (show Kd.M Kd.string _ _ _ (⟨#[91]⟩ : ByteArray) [.string (⟨#[91]⟩ : ByteArray)] from rfl) (Reps.one (show Kd.M Kd.string _ _ _ (a0.extract 0 (t248 : Int).toNat) [.string (a0.extract 0 (t248 : Int).toNat)] from rfl) (Reps.one (show Kd.M Kd.string _ _ _ (⟨#[58]⟩ : ByteArray) [.string (⟨#[58]⟩ : ByteArray)] from rfl) (Reps.none _ _)))))
          intro v250 w23 ho24 hb hg_ hnew_
          clear hg_ hnew_
          (first | rw [← Ny249.out] at ho24 | (simp only [Int.reduceToNat] at ho24; rw [← Ny249.out] at ho24))
          have n0_ := Aside0.mk (Kd.R_lower ho24 (below_size (by repeat (first | (with_reducible first | exact HB.out | apply below_alloc | apply pw_below_drewN | apply below_drew1) | exact HB.out)))); have n1_ := Aside0.mk (below_step (by repeat (first | (with_reducible first | exact HB.out | apply below_alloc | apply pw_below_drewN | apply below_drew1) | exact HB.out)) hb)
          have z_HO260 := fun (h0_ : b 13 = true) => (show Kd.R Kd.string 9 w23 w.heap.size (fun _ => True) v259 y258 from by first | exact (Kd.R_elder' (by (with_reducible repeat (first | apply Kd.R_alloc | apply Kd.R_drewN | apply Kd.R_drew)); exact (Q_HO260 h0_)) (Kd.R_base ho24) hb) | exact Kd.R_mono (Kd.R_elder' (by (with_reducible repeat (first | apply Kd.R_alloc | apply Kd.R_drewN | apply Kd.R_drew)); exact (Q_HO260 h0_)) (Kd.R_base ho24) hb) (fun _ h_ => by first | trivial | exact h_ | exact h_.1))
          clear HB; have HO251 := n0_; have HB := n1_; clear n0_ n1_; clear hb ho24
          refine hK.out _ _ ⟨v250, v259, v265, m16_, (by rw [ha.out]; exact putSel_upk 1 hb_ rfl rfl rfl), (by repeat (first | (with_reducible first | exact HB.out | apply below_alloc | apply pw_below_drewN | apply below_drew1) | exact HB.out)), fun _ => (by (with_reducible repeat (first | apply Kd.R_alloc | apply Kd.R_drewN | apply Kd.R_drew)); exact HO251.out), z_HO260, fun h0_ => absurd ((hoff 15 (by kernel_rfl)).symm.trans h0_) (by decide), fun h0_ => absurd ((hoff 16 (by kernel_rfl)).symm.trans h0_) (by decide)⟩
         refine steps_cons ?_ ?_
         ·
          rintro b a w' ⟨v250, v259, v265, m16_, ha, Q_HB, Q_HO251, Q_HO260, Q_HO266, Q_X16_⟩ hb_ hon hoff
          refine ⟨_, rfl, fun K hK => ?_⟩
          have e30 : a.tmps[30]? = some (v250) := by rw [ha]; exact putSel_on (e := (3, 30, v250)) 1 rfl rfl (hon 3 (by kernel_rfl)) rfl
          replace ha := Aside0.mk ha
          have HB := Aside0.mk Q_HB
          have HO251 := Aside0.mk (Q_HO251 (hon 3 (by kernel_rfl)))
          obtain ⟨Ao26, co26, eo26⟩ := Kd.R_slice HO251.out
          (first | subst eo26 | (injection eo26 with f1_ f2_ f3_; have f4_ := f1_.symm; have f5_ := f3_.symm; clear f1_ f2_ f3_; subst f4_; subst f5_))
          refine goes_ Try.func18 (by kernel_rfl) rfl #[.slice Ao26 y249.length co26] (by rfl) rfl rfl (by first | (simp only [List.map_toArray, List.map_cons, List.map_nil, Act.eval, Array.getD_eq_getD_getElem?, Option.getD_some, e30]; done) | (simp only [List.map_toArray, List.map_cons, List.map_nil, Act.eval, Array.getD_eq_getD_getElem?, Option.getD_some, e30]; rfl)) ?_
          with_reducible refine (line_Mark.calls _ _ y249 t252 t253 t254 _ ?side1 ?side2 A14.out).mono ?_
          (case side1 => repeat (first | exact (Kd.R_reads' HO251.out).2.2 | (with_reducible refine Kd.C_alloc ?_ _) | (with_reducible refine Kd.C_drewN ?_ _) | (with_reducible refine Kd.C_drew ?_)))
          (case side2 => exact (Kd.R_reads' HO251.out).2.1)
          rintro e w27 ⟨rfl, hb⟩; refine ⟨_, rfl, ?_⟩; have n0_ := Aside0.mk (Kd.R_below (by (with_reducible repeat (first | apply Kd.R_alloc | apply Kd.R_drewN | apply Kd.R_drew)); exact HO251.out) hb); have n1_ := Aside0.mk (below_step (by repeat (first | (with_reducible first | exact HB.out | apply below_alloc | apply pw_below_drewN | apply below_drew1) | exact HB.out)) hb)
          have z_HO260 := fun (h0_ : b 13 = true) => (show Kd.R Kd.string 9 w27 w.heap.size (fun _ => True) v259 y258 from by first | exact (Kd.R_below (by (with_reducible repeat (first | apply Kd.R_alloc | apply Kd.R_drewN | apply Kd.R_drew)); exact (Q_HO260 h0_)) hb) | exact Kd.R_mono (Kd.R_below (by (with_reducible repeat (first | apply Kd.R_alloc | apply Kd.R_drewN | apply Kd.R_drew)); exact (Q_HO260 h0_)) hb) (fun _ h_ => by first | trivial | exact h_ | exact h_.1))
          clear HO251; clear HB; have HO251 := n0_; have HB := n1_; clear n0_ n1_; (try clear hb); (try clear hb2); (try clear hk); (try clear hi)
          refine hK.out _ _ ⟨.slice Ao26 y249.length co26, v259, v265, m16_, (by rw [ha.out]; exact putSel_upk 2 hb_ rfl rfl rfl), (by repeat (first | (with_reducible first | exact HB.out | apply below_alloc | apply pw_below_drewN | apply below_drew1) | exact HB.out)), fun _ => (by (with_reducible repeat (first | apply Kd.R_alloc | apply Kd.R_drewN | apply Kd.R_drew)); exact HO251.out), z_HO260, fun h0_ => absurd ((hoff 15 (by kernel_rfl)).symm.trans h0_) (by decide), fun h0_ => absurd ((hoff 16 (by kernel_rfl)).symm.trans h0_) (by decide)⟩
         refine steps_cons ?_ ?_
         ·
          rintro b a w' ⟨v250, v259, v265, m16_, ha, Q_HB, Q_HO251, Q_HO260, Q_HO266, Q_X16_⟩ hb_ hon hoff
          refine ⟨_, rfl, fun K hK => ?_⟩
          have e32 : a.tmps[32]? = some (.string a0) := by rw [ha]; exact (putSel_off rfl).trans rfl
          have e33 : a.tmps[33]? = some (.int .i64 t248) := by rw [ha]; exact (putSel_off rfl).trans rfl
          replace ha := Aside0.mk ha
          have HB := Aside0.mk Q_HB
          refine value_ (w1 := w') (v := .string (a0.extract 0 (t248 : Int).toNat)) (by rfl) rfl ?_ ?_
          ·
           go_simp
           (try simp only [i64_w])
           try rfl
          refine hK.out _ _ ⟨v250, v259, v265, m16_, (by rw [ha.out]; exact putSel_upk 3 hb_ rfl rfl rfl), Q_HB, Q_HO251, Q_HO260, fun h0_ => absurd ((hoff 15 (by kernel_rfl)).symm.trans h0_) (by decide), fun h0_ => absurd ((hoff 16 (by kernel_rfl)).symm.trans h0_) (by decide)⟩
         refine steps_cons ?_ ?_
         ·
          rintro b a w' ⟨v250, v259, v265, m16_, ha, Q_HB, Q_HO251, Q_HO260, Q_HO266, Q_X16_⟩ hb_ hon hoff
          refine ⟨_, rfl, fun K hK => ?_⟩
          have e36 : a.tmps[36]? = some (.int .i64 t248) := by rw [ha]; exact (putSel_off rfl).trans rfl
          replace ha := Aside0.mk ha
          have HB := Aside0.mk Q_HB
          refine value_ (w1 := w') (v := .int .i64 ji17) (by rfl) rfl ?_ ?_
          ·
           go_simp
           (try simp only [i64_w])
           try rfl
          refine hK.out _ _ ⟨v250, v259, v265, m16_, (by rw [ha.out]; exact putSel_upk 4 hb_ rfl rfl rfl), Q_HB, Q_HO251, Q_HO260, fun h0_ => absurd ((hoff 15 (by kernel_rfl)).symm.trans h0_) (by decide), fun h0_ => absurd ((hoff 16 (by kernel_rfl)).symm.trans h0_) (by decide)⟩
         refine steps_cons ?_ ?_
         ·
          rintro b a w' ⟨v250, v259, v265, m16_, ha, Q_HB, Q_HO251, Q_HO260, Q_HO266, Q_X16_⟩ hb_ hon hoff
          refine ⟨_, rfl, fun K hK => ?_⟩
          have e35 : a.tmps[35]? = some (.string a0) := by rw [ha]; exact (putSel_off rfl).trans rfl
          have e37 : a.tmps[37]? = some (.int .i64 ji17) := by rw [ha]; exact putSel_on (e := (10, 37, .int .i64 ji17)) 4 rfl rfl (hon 10 (by kernel_rfl)) rfl
          replace ha := Aside0.mk ha
          have HB := Aside0.mk Q_HB
          refine value_ (w1 := w') (v := .string (a0.extract ((ji17) : Int).toNat a0.size)) (by rfl) rfl ?_ ?_
          ·
           go_simp
           (try simp only [i64_w])
           try rfl
          refine hK.out _ _ ⟨v250, v259, v265, m16_, (by rw [ha.out]; exact putSel_upk 5 hb_ rfl rfl rfl), Q_HB, Q_HO251, Q_HO260, fun h0_ => absurd ((hoff 15 (by kernel_rfl)).symm.trans h0_) (by decide), fun h0_ => absurd ((hoff 16 (by kernel_rfl)).symm.trans h0_) (by decide)⟩
         refine steps_cons ?_ ?_
         ·
          rintro b a w' ⟨v250, v259, v265, m16_, ha, Q_HB, Q_HO251, Q_HO260, Q_HO266, Q_X16_⟩ hb_ hon hoff
          refine ⟨_, rfl, fun K hK => ?_⟩
          have e34 : a.tmps[34]? = some (.string (a0.extract 0 (t248 : Int).toNat)) := by rw [ha]; exact putSel_on (e := (7, 34, .string (a0.extract 0 (t248 : Int).toNat))) 3 rfl rfl (hon 7 (by kernel_rfl)) rfl
          have e38 : a.tmps[38]? = some (.string (a0.extract ((ji17) : Int).toNat a0.size)) := by rw [ha]; exact putSel_on (e := (11, 38, .string (a0.extract ((ji17) : Int).toNat a0.size))) 5 rfl rfl (hon 11 (by kernel_rfl)) rfl
          replace ha := Aside0.mk ha
          have HB := Aside0.mk Q_HB
          have HO251 := Aside0.mk (Q_HO251 (hon 3 (by kernel_rfl)))
          refine goes_ Try.func19 (by kernel_rfl) rfl #[.string (a0.extract 0 (t248 : Int).toNat), .string (a0.extract ((ji17) : Int).toNat a0.size)] (by rfl) rfl rfl (by first | (simp only [List.map_toArray, List.map_cons, List.map_nil, Act.eval, Array.getD_eq_getD_getElem?, Option.getD_some, e34, e38]; done) | (simp only [List.map_toArray, List.map_cons, List.map_nil, Act.eval, Array.getD_eq_getD_getElem?, Option.getD_some, e34, e38]; rfl)) ?_
          with_reducible refine (line_Text.calls (a0.extract 0 (t248 : Int).toNat) (a0.extract ((ji17) : Int).toNat a0.size) t255 t256 t257 _ A20.out).mono ?_
          rintro e w28 ⟨rfl, hb⟩; refine ⟨_, rfl, ?_⟩; have n0_ := Aside0.mk (Kd.R_below (by (with_reducible repeat (first | apply Kd.R_alloc | apply Kd.R_drewN | apply Kd.R_drew)); exact HO251.out) hb); have n1_ := Aside0.mk (below_step (by repeat (first | (with_reducible first | exact HB.out | apply below_alloc | apply pw_below_drewN | apply below_drew1) | exact HB.out)) hb)
          have z_HO260 := fun (h0_ : b 13 = true) => (show Kd.R Kd.string 9 w28 w.heap.size (fun _ => True) v259 y258 from by first | exact (Kd.R_below (by (with_reducible repeat (first | apply Kd.R_alloc | apply Kd.R_drewN | apply Kd.R_drew)); exact (Q_HO260 h0_)) hb) | exact Kd.R_mono (Kd.R_below (by (with_reducible repeat (first | apply Kd.R_alloc | apply Kd.R_drewN | apply Kd.R_drew)); exact (Q_HO260 h0_)) hb) (fun _ h_ => by first | trivial | exact h_ | exact h_.1))
          clear HO251; clear HB; have HO251 := n0_; have HB := n1_; clear n0_ n1_; (try clear hb); (try clear hb2); (try clear hk); (try clear hi)
          refine hK.out _ _ ⟨v250, v259, v265, m16_, (by rw [ha.out]; exact putSel_upk 6 hb_ rfl rfl rfl), (by repeat (first | (with_reducible first | exact HB.out | apply below_alloc | apply pw_below_drewN | apply below_drew1) | exact HB.out)), fun _ => (by (with_reducible repeat (first | apply Kd.R_alloc | apply Kd.R_drewN | apply Kd.R_drew)); exact HO251.out), z_HO260, fun h0_ => absurd ((hoff 15 (by kernel_rfl)).symm.trans h0_) (by decide), fun h0_ => absurd ((hoff 16 (by kernel_rfl)).symm.trans h0_) (by decide)⟩
         refine steps_cons ?_ ?_
         ·
          rintro b a w' ⟨v250, v259, v265, m16_, ha, Q_HB, Q_HO251, Q_HO260, Q_HO266, Q_X16_⟩ hb_ hon hoff
          refine ⟨_, rfl, fun K hK => ?_⟩
          replace ha := Aside0.mk ha
          have HB := Aside0.mk Q_HB
          refine Kd.R_lit_step Kd.string _ 9 ?hg (N := 40) ?hd (xs := ([(⟨#[93]⟩ : ByteArray)] : List ByteArray)) (inner := [.string (⟨#[93]⟩ : ByteArray)]) (ok := fun _ => True) (okp := fun _ => True) ?hr ?hp (fun _ hk => hk) trivial (Below.refl _ _) (Nat.le_refl _) (by simp) ?_; (case hd => rfl); (case hg => rfl); (case hr => first | (go_simp; done) | (go_simp; rfl)); (case hp => exact (Reps.one (show Kd.M Kd.string _ _ _ (⟨#[93]⟩ : ByteArray) [.string (⟨#[93]⟩ : ByteArray)] from rfl) (Reps.none _ _)))
          intro v259 w23 ho24 hb hg_ hnew_
          clear hg_ hnew_
          (first | rw [← Ny258.out] at ho24 | (simp only [Int.reduceToNat] at ho24; rw [← Ny258.out] at ho24))
          have n0_ := Aside0.mk (Kd.R_lower ho24 (below_size (by repeat (first | (with_reducible first | exact HB.out | apply below_alloc | apply pw_below_drewN | apply below_drew1) | exact HB.out)))); have n1_ := Aside0.mk (below_step (by repeat (first | (with_reducible first | exact HB.out | apply below_alloc | apply pw_below_drewN | apply below_drew1) | exact HB.out)) hb)
          have z_HO251 := fun (h0_ : b 3 = true) => (show Kd.R Kd.string 9 w23 w.heap.size (fun _ => True) v250 y249 from by first | exact (Kd.R_elder' (by (with_reducible repeat (first | apply Kd.R_alloc | apply Kd.R_drewN | apply Kd.R_drew)); exact (Q_HO251 h0_)) (Kd.R_base ho24) hb) | exact Kd.R_mono (Kd.R_elder' (by (with_reducible repeat (first | apply Kd.R_alloc | apply Kd.R_drewN | apply Kd.R_drew)); exact (Q_HO251 h0_)) (Kd.R_base ho24) hb) (fun _ h_ => by first | trivial | exact h_ | exact h_.1))
          clear HB; have HO260 := n0_; have HB := n1_; clear n0_ n1_; clear hb ho24
          refine hK.out _ _ ⟨v250, v259, v265, m16_, (by rw [ha.out]; exact putSel_upk 7 hb_ rfl rfl rfl), (by repeat (first | (with_reducible first | exact HB.out | apply below_alloc | apply pw_below_drewN | apply below_drew1) | exact HB.out)), z_HO251, fun _ => (by (with_reducible repeat (first | apply Kd.R_alloc | apply Kd.R_drewN | apply Kd.R_drew)); exact HO260.out), fun h0_ => absurd ((hoff 15 (by kernel_rfl)).symm.trans h0_) (by decide), fun h0_ => absurd ((hoff 16 (by kernel_rfl)).symm.trans h0_) (by decide)⟩
         refine steps_cons ?_ ?_
         ·
          rintro b a w' ⟨v250, v259, v265, m16_, ha, Q_HB, Q_HO251, Q_HO260, Q_HO266, Q_X16_⟩ hb_ hon hoff
          refine ⟨_, rfl, fun K hK => ?_⟩
          have e40 : a.tmps[40]? = some (v259) := by rw [ha]; exact putSel_on (e := (13, 40, v259)) 7 rfl rfl (hon 13 (by kernel_rfl)) rfl
          replace ha := Aside0.mk ha
          have HB := Aside0.mk Q_HB
          have HO251 := Aside0.mk (Q_HO251 (hon 3 (by kernel_rfl)))
          have HO260 := Aside0.mk (Q_HO260 (hon 13 (by kernel_rfl)))
          obtain ⟨Ao31, co31, eo31⟩ := Kd.R_slice HO260.out
          (first | subst eo31 | (injection eo31 with f1_ f2_ f3_; have f4_ := f1_.symm; have f5_ := f3_.symm; clear f1_ f2_ f3_; subst f4_; subst f5_))
          refine goes_ Try.func18 (by kernel_rfl) rfl #[.slice Ao31 y258.length co31] (by rfl) rfl rfl (by first | (simp only [List.map_toArray, List.map_cons, List.map_nil, Act.eval, Array.getD_eq_getD_getElem?, Option.getD_some, e40]; done) | (simp only [List.map_toArray, List.map_cons, List.map_nil, Act.eval, Array.getD_eq_getD_getElem?, Option.getD_some, e40]; rfl)) ?_
          with_reducible refine (line_Mark.calls _ _ y258 t261 t262 t263 _ ?side1 ?side2 A21.out).mono ?_
          (case side1 => repeat (first | exact (Kd.R_reads' HO260.out).2.2 | (with_reducible refine Kd.C_alloc ?_ _) | (with_reducible refine Kd.C_drewN ?_ _) | (with_reducible refine Kd.C_drew ?_)))
          (case side2 => exact (Kd.R_reads' HO260.out).2.1)
          rintro e w32 ⟨rfl, hb⟩; refine ⟨_, rfl, ?_⟩; have n0_ := Aside0.mk (Kd.R_below (by (with_reducible repeat (first | apply Kd.R_alloc | apply Kd.R_drewN | apply Kd.R_drew)); exact HO251.out) hb); have n1_ := Aside0.mk (Kd.R_below (by (with_reducible repeat (first | apply Kd.R_alloc | apply Kd.R_drewN | apply Kd.R_drew)); exact HO260.out) hb); have n2_ := Aside0.mk (below_step (by repeat (first | (with_reducible first | exact HB.out | apply below_alloc | apply pw_below_drewN | apply below_drew1) | exact HB.out)) hb); clear HO251; clear HO260; clear HB; have HO251 := n0_; have HO260 := n1_; have HB := n2_; clear n0_ n1_ n2_; (try clear hb); (try clear hb2); (try clear hk); (try clear hi)
          refine hK.out _ _ ⟨v250, .slice Ao31 y258.length co31, v265, m16_, (by rw [ha.out]; exact putSel_upk 8 hb_ rfl rfl rfl), (by repeat (first | (with_reducible first | exact HB.out | apply below_alloc | apply pw_below_drewN | apply below_drew1) | exact HB.out)), fun _ => (by (with_reducible repeat (first | apply Kd.R_alloc | apply Kd.R_drewN | apply Kd.R_drew)); exact HO251.out), fun _ => (by (with_reducible repeat (first | apply Kd.R_alloc | apply Kd.R_drewN | apply Kd.R_drew)); exact HO260.out), fun h0_ => absurd ((hoff 15 (by kernel_rfl)).symm.trans h0_) (by decide), fun h0_ => absurd ((hoff 16 (by kernel_rfl)).symm.trans h0_) (by decide)⟩
         refine steps_cons ?_ ?_
         ·
          rintro b a w' ⟨v250, v259, v265, m16_, ha, Q_HB, Q_HO251, Q_HO260, Q_HO266, Q_X16_⟩ hb_ hon hoff
          refine ⟨_, rfl, fun K hK => ?_⟩
          have e31 : a.tmps[31]? = some (.agg #[.bool t252, .string t253, .string t254]) := by rw [ha]; exact putSel_on (e := (4, 31, .agg #[.bool t252, .string t253, .string t254])) 2 rfl rfl (hon 4 (by kernel_rfl)) rfl
          have e39 : a.tmps[39]? = some (.agg #[.bool t255, .string t256, .string t257]) := by rw [ha]; exact putSel_on (e := (12, 39, .agg #[.bool t255, .string t256, .string t257])) 6 rfl rfl (hon 12 (by kernel_rfl)) rfl
          have e41 : a.tmps[41]? = some (.agg #[.bool t261, .string t262, .string t263]) := by rw [ha]; exact putSel_on (e := (14, 41, .agg #[.bool t261, .string t262, .string t263])) 8 rfl rfl (hon 14 (by kernel_rfl)) rfl
          replace ha := Aside0.mk ha
          have HB := Aside0.mk Q_HB
          have HO251 := Aside0.mk (Q_HO251 (hon 3 (by kernel_rfl)))
          have HO260 := Aside0.mk (Q_HO260 (hon 13 (by kernel_rfl)))
          refine Kd.R_lit_step k34 _ 34 ?hg (N := 42) ?hd (xs := ([(⟨t252, t253, t254⟩ : S34), (⟨t255, t256, t257⟩ : S34), (⟨t261, t262, t263⟩ : S34)] : List (S34))) (inner := [.bool t252, .string t253, .string t254, .bool t255, .string t256, .string t257, .bool t261, .string t262, .string t263]) (ok := fun _ => True) (okp := fun _ => True) ?hr ?hp (fun _ hk => hk) trivial (Below.refl _ _) (Nat.le_refl _) (by simp) ?_; (case hd => rfl); (case hg => rfl); (case hr => first | (go_simp; done) | (go_simp; rfl)); (case hp => exact (Reps.c3 (show Kd.M k34 _ _ _ (⟨t252, t253, t254⟩ : S34) [.bool t252, .string t253, .string t254] from (k34_mkM _ _ _ (⟨t252, t253, t254⟩ : S34) )) (Reps.c3 (show Kd.M k34 _ _ _ (⟨t255, t256, t257⟩ : S34) [.bool t255, .string t256, .string t257] from (k34_mkM _ _ _ (⟨t255, t256, t257⟩ : S34) )) (Reps.c3 (show Kd.M k34 _ _ _ (⟨t261, t262, t263⟩ : S34) [.bool t261, .string t262, .string t263] from (k34_mkM _ _ _ (⟨t261, t262, t263⟩ : S34) )) (Reps.none _ _)))))
          intro v265 w33 ho34 hb hg_ hnew_
          clear hg_ hnew_
          (first | rw [← Ny264.out] at ho34 | (simp only [Int.reduceToNat] at ho34; rw [← Ny264.out] at ho34))
          have n0_ := Aside0.mk (Kd.R_below (by (with_reducible repeat (first | apply Kd.R_alloc | apply Kd.R_drewN | apply Kd.R_drew)); exact HO251.out) hb); have n1_ := Aside0.mk (Kd.R_below (by (with_reducible repeat (first | apply Kd.R_alloc | apply Kd.R_drewN | apply Kd.R_drew)); exact HO260.out) hb); have n2_ := Aside0.mk (Kd.R_lower ho34 (below_size (by repeat (first | (with_reducible first | exact HB.out | apply below_alloc | apply pw_below_drewN | apply below_drew1) | exact HB.out)))); have n3_ := Aside0.mk (below_step (by repeat (first | (with_reducible first | exact HB.out | apply below_alloc | apply pw_below_drewN | apply below_drew1) | exact HB.out)) hb); clear HO251; clear HO260; clear HB; have HO251 := n0_; have HO260 := n1_; have HO266 := n2_; have HB := n3_; clear n0_ n1_ n2_ n3_; clear hb ho34
          refine hK.out _ _ ⟨v250, v259, v265, m16_, (by rw [ha.out]; exact putSel_upk 9 hb_ rfl rfl rfl), (by repeat (first | (with_reducible first | exact HB.out | apply below_alloc | apply pw_below_drewN | apply below_drew1) | exact HB.out)), fun _ => (by (with_reducible repeat (first | apply Kd.R_alloc | apply Kd.R_drewN | apply Kd.R_drew)); exact HO251.out), fun _ => (by (with_reducible repeat (first | apply Kd.R_alloc | apply Kd.R_drewN | apply Kd.R_drew)); exact HO260.out), fun _ => (by (with_reducible repeat (first | apply Kd.R_alloc | apply Kd.R_drewN | apply Kd.R_drew)); exact HO266.out), fun h0_ => absurd ((hoff 16 (by kernel_rfl)).symm.trans h0_) (by decide)⟩
         refine steps_cons ?_ ?_
         ·
          rintro b a w' ⟨v250, v259, v265, m16_, ha, Q_HB, Q_HO251, Q_HO260, Q_HO266, Q_X16_⟩ hb_ hon hoff
          refine ⟨_, rfl, fun K hK => ?_⟩
          have e42 : a.tmps[42]? = some (v265) := by rw [ha]; exact putSel_on (e := (15, 42, v265)) 9 rfl rfl (hon 15 (by kernel_rfl)) rfl
          replace ha := Aside0.mk ha
          have HB := Aside0.mk Q_HB
          have HO251 := Aside0.mk (Q_HO251 (hon 3 (by kernel_rfl)))
          have HO260 := Aside0.mk (Q_HO260 (hon 13 (by kernel_rfl)))
          have HO266 := Aside0.mk (Q_HO266 (hon 15 (by kernel_rfl)))
          refine value_ (w1 := w') (v := v265) (by rfl) rfl ?_ ?_
          ·
           go_simp
           (try simp only [i64_w])
           try rfl
          refine hK.out _ _ ⟨v250, v259, v265, (v265), (by rw [ha.out]; exact putSel_upk 10 hb_ rfl rfl rfl), Q_HB, Q_HO251, Q_HO260, Q_HO266, fun _ => rfl⟩
         refine steps_cons ?_ ?_
         ·
          rintro b a w' ⟨v250, v259, v265, m16_, ha, Q_HB, Q_HO251, Q_HO260, Q_HO266, Q_X16_⟩ hb_ hon hoff
          refine ⟨_, rfl, fun K hK => ?_⟩
          replace ha := Aside0.mk ha
          have HB := Aside0.mk Q_HB
          have HO251 := Aside0.mk (Q_HO251 (hon 3 (by kernel_rfl)))
          have HO260 := Aside0.mk (Q_HO260 (hon 13 (by kernel_rfl)))
          have HO266 := Aside0.mk (Q_HO266 (hon 15 (by kernel_rfl)))
          refine value_ (w1 := w') (v := .bool true) (by rfl) rfl ?_ ?_
          ·
           go_simp
           (try simp only [i64_w])
           try rfl
          refine hK.out _ _ ⟨v250, v259, v265, m16_, (by rw [ha.out]; exact putSel_upk 11 hb_ rfl rfl rfl), Q_HB, Q_HO251, Q_HO260, Q_HO266, Q_X16_⟩
         exact steps_nil
        rintro b a w34 hall ⟨v250, v259, v265, m16_, ha, Q_HB, Q_HO251, Q_HO260, Q_HO266, Q_X16_⟩
        clear HB
        have hb2_ := hall 2 (by kernel_rfl)
        have hb3_ := hall 3 (by kernel_rfl)
        have hb4_ := hall 4 (by kernel_rfl)
        have hb7_ := hall 7 (by kernel_rfl)
        have hb10_ := hall 10 (by kernel_rfl)
        have hb11_ := hall 11 (by kernel_rfl)
        have hb12_ := hall 12 (by kernel_rfl)
        have hb13_ := hall 13 (by kernel_rfl)
        have hb14_ := hall 14 (by kernel_rfl)
        have hb15_ := hall 15 (by kernel_rfl)
        have hb16_ := hall 16 (by kernel_rfl)
        have hb17_ := hall 17 (by kernel_rfl)
        subst ha
        obtain rfl := Q_X16_ hb16_
        simp only [putSel, hb2_, hb3_, hb4_, hb7_, hb10_, hb11_, hb12_, hb13_, hb14_, hb15_, hb16_, hb17_, if_true, Act.put, List.setIfInBounds_toArray, List.set_cons_zero, List.set_cons_succ]
        have HB := Aside0.mk Q_HB; clear Q_HB
        have HO251 := Aside0.mk (Q_HO251 hb3_)
        clear Q_HO251
        have HO260 := Aside0.mk (Q_HO260 hb13_)
        clear Q_HO260
        have HO266 := Aside0.mk (Q_HO266 hb15_)
        clear Q_HO266; clear hall hb2_ hb3_ hb4_ hb7_ hb10_ hb11_ hb12_ hb13_ hb14_ hb15_ hb16_ hb17_
        try go_wp2
        go_ret2
        exact ⟨_, by first | rfl | (simp [errW_none, errW_some] <;> rfl) | (simp only [← hji17]; first | rfl | (simp [errW_none, errW_some] <;> rfl)) | (simp [*, errW_none, errW_some] <;> rfl), by (with_reducible repeat (first | apply Kd.R_alloc | apply Kd.R_drewN | apply Kd.R_drew)); exact HO266.out, by repeat (first | (with_reducible first | exact HB.out | apply below_alloc | apply pw_below_drewN | apply below_drew1) | exact HB.out)⟩
       ·
        rw [if_neg c19] at H
        exact absurd H (by simp)
      ·
       rw [if_neg c18] at H
       exact absurd H (by simp)
     ·
      rw [if_neg c13] at H
      exact absurd H (by simp)
    ·
     rw [if_neg c12] at H
     exact absurd H (by simp)

end Go.Proofs.Ytbndilnbfclmbaa.PAll
