/- Written by a program of this session: functions of the Go program as Lean functions, and the walks that tie them to it. -/
import Derived.Test.YtkhiiilfokijgaaDoorPAllx0
import Derived.Test.YtkhiiilfokijgaaDoorPAllx5
import Derived.Test.YtkhiiilfokijgaaDoorPAllx6
import Derived.Test.YtkhiiilfokijgaaDoorPAllx7
import Derived.Test.YtkhiiilfokijgaaDoorPAllx8
import Derived.Test.YtkhiiilfokijgaaDoorPAllx9
import Derived.Test.YtkhiiilfokijgaaDoorPAllx11
namespace Go.Proofs.YtkhiiilfokijgaaDoor.PAll
open Go.RowKit Go.Proofs.YtkhiiilfokijgaaDoorW.PrintWords Go.Proofs.YtkhiiilfokijgaaDoorW.PrintLast Go.Proofs.YtkhiiilfokijgaaDoorW.PrintMore
attribute [local go_sem] max2_int min2_int max_two min_two max_three min_three max_four min_four   -- for this text's walks alone
set_option linter.unusedVariables false
set_option linter.unusedSimpArgs false

/-! ### cue_Pieces: function 27 -/
mutual
def cue_Pieces.j0 : Nat → ByteArray → Bool → ByteArray → ByteArray → ByteArray → Option ((List (S30)) × Bool)
  | 0, _, _, _, _, _ => none
  | k + 1, x0, x18, x192000, x192001, x192002 => if x18 = true then (some (([] : List (S30)), false)) else (if x192001.toList = ([82, 69, 77] : List UInt8) then ((cue_row_remark.f x192000 x192001 x192002).bind fun bt195 => (some (bt195.1, bt195.2))) else (if x192002.toList = ([] : List UInt8) then (some (([] : List (S30)), false)) else (if 1 ≤ (x192002.size : Int) then (if x192001.toList = ([84, 73, 84, 76, 69] : List UInt8) then (cue_Pieces.j1 k x0 (x192002.extract 1 x192002.size) x192001 (x192001.toList == ([84, 73, 84, 76, 69] : List UInt8)) x192000 x192001 x192002) else (if x192001.toList = ([80, 69, 82, 70, 79, 82, 77, 69, 82] : List UInt8) then (cue_Pieces.j1 k x0 (x192002.extract 1 x192002.size) x192001 (x192001.toList == ([80, 69, 82, 70, 79, 82, 77, 69, 82] : List UInt8)) x192000 x192001 x192002) else (cue_Pieces.j1 k x0 (x192002.extract 1 x192002.size) x192001 (x192001.toList == ([83, 79, 78, 71, 87, 82, 73, 84, 69, 82] : List UInt8)) x192000 x192001 x192002))) else (none))))
def cue_Pieces.j1 : Nat → ByteArray → ByteArray → ByteArray → Bool → ByteArray → ByteArray → ByteArray → Option ((List (S30)) × Bool)
  | 0, _, _, _, _, _, _, _ => none
  | k + 1, x0, x5, x44, x45, x192000, x192001, x192002 => if x45 = true then ((cue_small.f x192001).bind fun t199 => ((cue_row_value.f k x192000 x192001 x192002 t199 x5 (⟨#[]⟩ : ByteArray)).bind fun bt200 => (some (bt200.1, bt200.2)))) else (if x44.toList = ([70, 73, 76, 69] : List UInt8) then ((cue_row_file.f k x192000 x192001 x192002 x5).bind fun bt204 => (some (bt204.1, bt204.2))) else (if x5.toList = ([] : List UInt8) then (some (([] : List (S30)), false)) else ((cue_plain.f k x192001 x5).bind fun t208 => (if t208 = true then ((cue_marks.f x0).bind fun t209 => (some (t209, true))) else (some (([] : List (S30)), false))))))
end
def cue_Pieces.f (k : Nat) (a0 : ByteArray) : Option ((List (S30)) × Bool) := (cue_cut.f k a0).bind fun bt188 => (if bt188.2.1.toList = ([] : List UInt8) then (if bt188.2.2.toList = ([] : List UInt8) then ((cue_marks.f bt188.1).bind fun t192 => (some (t192, true))) else (some (([] : List (S30)), false))) else (if bt188.2.2.toList = ([] : List UInt8) then (cue_Pieces.j0 k a0 false bt188.1 bt188.2.1 bt188.2.2) else (if 0 < (bt188.2.2.size : Int) then (cue_Pieces.j0 k a0 ((bt bt188.2.2 0) != 32) bt188.1 bt188.2.1 bt188.2.2) else (none))))
theorem cue_Pieces.mono_l : ∀ k, (∀ y0 y1 y2 y3 y4, LeO (cue_Pieces.j0 k y0 y1 y2 y3 y4) (cue_Pieces.j0 (k + 1) y0 y1 y2 y3 y4)) ∧ (∀ y0 y1 y2 y3 y4 y5 y6, LeO (cue_Pieces.j1 k y0 y1 y2 y3 y4 y5 y6) (cue_Pieces.j1 (k + 1) y0 y1 y2 y3 y4 y5 y6))
  | 0 => ⟨fun _ _ _ _ _ r h => by simp [cue_Pieces.j0] at h, fun _ _ _ _ _ _ _ r h => by simp [cue_Pieces.j1] at h⟩
  | k + 1 => by
    obtain ⟨ih0, ih1⟩ := cue_Pieces.mono_l k
    refine ⟨?_, ?_⟩
    · intro y0 y1 y2 y3 y4
      unfold cue_Pieces.j0
      repeat' first
      | (with_reducible exact ih0 _ _ _ _ _)
      | (with_reducible exact ih1 _ _ _ _ _ _ _)
      | (with_reducible exact cue_cut.mono _ _)
      | (with_reducible exact cue_plain.mono _ _ _)
      | (with_reducible exact cue_row_file.mono _ _ _ _ _)
      | (with_reducible exact cue_row_value.mono _ _ _ _ _ _ _)
      | (with_reducible exact LeO.refl _)
      | (with_reducible exact LeO.none _)
      | (with_reducible refine LeO.ite ?_ ?_)
      | (with_reducible refine LeO.bind ?_ (fun _ => ?_))
      | exact ih0 _ _ _ _ _
      | exact ih1 _ _ _ _ _ _ _
      | exact cue_cut.mono _ _
      | exact cue_plain.mono _ _ _
      | exact cue_row_file.mono _ _ _ _ _
      | exact cue_row_value.mono _ _ _ _ _ _ _
      | exact LeO.none _
      | refine LeO.ite ?_ ?_
      | refine LeO.bind ?_ (fun _ => ?_)
    · intro y0 y1 y2 y3 y4 y5 y6
      unfold cue_Pieces.j1
      repeat' first
      | (with_reducible exact ih0 _ _ _ _ _)
      | (with_reducible exact ih1 _ _ _ _ _ _ _)
      | (with_reducible exact cue_cut.mono _ _)
      | (with_reducible exact cue_plain.mono _ _ _)
      | (with_reducible exact cue_row_file.mono _ _ _ _ _)
      | (with_reducible exact cue_row_value.mono _ _ _ _ _ _ _)
      | (with_reducible exact LeO.refl _)
      | (with_reducible exact LeO.none _)
      | (with_reducible refine LeO.ite ?_ ?_)
      | (with_reducible refine LeO.bind ?_ (fun _ => ?_))
      | exact ih0 _ _ _ _ _
      | exact ih1 _ _ _ _ _ _ _
      | exact cue_cut.mono _ _
      | exact cue_plain.mono _ _ _
      | exact cue_row_file.mono _ _ _ _ _
      | exact cue_row_value.mono _ _ _ _ _ _ _
      | exact LeO.none _
      | refine LeO.ite ?_ ?_
      | refine LeO.bind ?_ (fun _ => ?_)
theorem cue_Pieces.mono : ∀ a0 k, LeO (cue_Pieces.f k a0) (cue_Pieces.f (k + 1) a0) := by
  intro a0 k
  obtain ⟨ih0, ih1⟩ := cue_Pieces.mono_l k
  unfold cue_Pieces.f
  repeat' first
      | (with_reducible exact ih0 _ _ _ _ _)
      | (with_reducible exact ih1 _ _ _ _ _ _ _)
      | (with_reducible exact cue_cut.mono _ _)
      | (with_reducible exact cue_plain.mono _ _ _)
      | (with_reducible exact cue_row_file.mono _ _ _ _ _)
      | (with_reducible exact cue_row_value.mono _ _ _ _ _ _ _)
      | (with_reducible exact LeO.refl _)
      | (with_reducible exact LeO.none _)
      | (with_reducible refine LeO.ite ?_ ?_)
      | (with_reducible refine LeO.bind ?_ (fun _ => ?_))
      | exact ih0 _ _ _ _ _
      | exact ih1 _ _ _ _ _ _ _
      | exact cue_cut.mono _ _
      | exact cue_plain.mono _ _ _
      | exact cue_row_file.mono _ _ _ _ _
      | exact cue_row_value.mono _ _ _ _ _ _ _
      | exact LeO.none _
      | refine LeO.ite ?_ ?_
      | refine LeO.bind ?_ (fun _ => ?_)
def cue_Pieces.T17 : Bool × List (List Nat × List Nat) := (true, [([], []), ([], []), ([1], [1]), ([2], [2]), ([], []), ([0, 3, 4, 3], [0, 3, 4]), ([5], [5]), ([5], [5]), ([6, 5, 0, 1, 2, 3, 4, 5, 6, 7], [6]), ([7, 8, 0, 1, 2, 3, 4, 5, 6, 7, 8], [7])])
def cue_Pieces.B17 : List Nat := [0, 0, 2, 6, 0, 31, 63, 63, 255, 511]
theorem cue_Pieces.tab17 : rtab .any (opsOf Tryd.f27 17) = cue_Pieces.T17 := by kernel_rfl
theorem cue_Pieces.bits17 : waitsOk cue_Pieces.T17.2 cue_Pieces.B17 = true := by kernel_rfl
set_option maxHeartbeats 8000000 in
set_option maxRecDepth 100000 in
theorem cue_Pieces.calls (k : Nat) (a0 : ByteArray) (r1 : List (S30)) (r2 : Bool) (w : World) (hG : GM w) (h : cue_Pieces.f k a0 = some (r1, r2)) :
    Calls Tryd.prog 27 #[.string a0] w fun e w' => ∃ v0_ : Value, e = .returned (.tuple #[v0_, .bool r2]) ∧ Kd.R k30 30 w' w.heap.size (fun _ => True) v0_ r1 ∧ Below w.heap.size w w' := by
  have hu67 := Tryd.underlying67
  have HB := Aside0.mk (Below.refl w.heap.size w)
  have HG := Aside0.mk hG
  clear hG
  have H : ((cue_cut.f k a0).bind fun bt188 => (if bt188.2.1.toList = ([] : List UInt8) then (if bt188.2.2.toList = ([] : List UInt8) then ((cue_marks.f bt188.1).bind fun t192 => (some (t192, true))) else (some (([] : List (S30)), false))) else (if bt188.2.2.toList = ([] : List UInt8) then (cue_Pieces.j0 k a0 false bt188.1 bt188.2.1 bt188.2.2) else (if 0 < (bt188.2.2.size : Int) then (cue_Pieces.j0 k a0 ((bt bt188.2.2 0) != 32) bt188.1 bt188.2.1 bt188.2.2) else (none))))) = some (r1, r2) := h
  clear h
  replace H := Option.bind_eq_some_iff.mp H
  obtain ⟨⟨t188, t189, t190⟩, A20, H⟩ := H
  replace H : (if t189.toList = ([] : List UInt8) then (if t190.toList = ([] : List UInt8) then ((cue_marks.f t188).bind fun t192 => (some (t192, true))) else (some (([] : List (S30)), false))) else (if t190.toList = ([] : List UInt8) then (cue_Pieces.j0 k a0 false t188 t189 t190) else (if 0 < (t190.size : Int) then (cue_Pieces.j0 k a0 ((bt t190 0) != 32) t188 t189 t190) else (none)))) = some (r1, r2) := H
  have A2 := Aside0.mk A20
  clear A20
  by_cases c3 : t189.toList = ([] : List UInt8)
  · rw [if_pos c3] at H
    have c3b0 : (t189.toList == ([] : List UInt8)) = true := beq_iff_eq.mpr c3
    have c3b1 : (t189.toList != ([] : List UInt8)) = false := bne_eq_false_iff_eq.mpr c3
    clear c3
    by_cases c4 : t190.toList = ([] : List UInt8)
    · rw [if_pos c4] at H
      have c4b0 : (t190.toList == ([] : List UInt8)) = true := beq_iff_eq.mpr c4
      have c4b1 : (t190.toList != ([] : List UInt8)) = false := bne_eq_false_iff_eq.mpr c4
      clear c4
      replace H := Option.bind_eq_some_iff.mp H
      obtain ⟨t192, A50, H⟩ := H
      replace H : (some (t192, true)) = some (r1, r2) := H
      have A5 := Aside0.mk A50
      clear A50
      simp only [Option.some.injEq, Prod.mk.injEq] at H
      obtain ⟨rfl, rfl⟩ := H
      go_enter Tryd.func27, Tryd.ntmps27
      go_wp2_with (first | ((with_reducible refine gate_callee (f := 41) rfl ?_); refine goesL_ (some 7) rfl rfl Tryd.func41 (by kernel_rfl) rfl #[.string a0] rfl q_2 ?_; (with_reducible refine (cue_cut.calls k a0 t188 t189 t190 _ A2.out).mono ?_); rintro e w6 ⟨rfl, hb⟩; refine ⟨_, rfl, ?_⟩; have n0_ := Aside0.mk (below_step q_1 hb); clear HB; have HB := n0_; clear n0_; (try clear hb); (try clear hb2); (try clear hk); (try clear hi)) | ((with_reducible refine gate_dst (N := 4) rfl ?_); refine box_event ?hg (N := 4) ?hd (cs := #[.string (⟨#[]⟩ : ByteArray), .string (⟨#[]⟩ : ByteArray), .string (⟨#[]⟩ : ByteArray)]) (t := 67) ?hr ?_; (case hd => rfl); (case hg => rfl); (case hr => first | (go_simp; done) | (go_simp; rfl)); intro gb191 hg w7 hbox hb; have n0_ := Aside0.mk (below_step q_1 hb); have n1_ := Aside0.mk (hbox); have n2_ := Aside0.mk ((by rw [hg]; exact (below_size q_1) : w.heap.size ≤ gb191)); have n3_ := Aside0.mk ((by rw [hg]; exact (below_size q_1) : w.heap.size ≤ gb191)); clear HB; have HB := n0_; have BK191 := n1_; have GW191 := n2_; have GE191 := n3_; clear n0_ n1_ n2_ n3_; clear hb hbox hg; obtain ⟨hcz8_0, hcz8_1, hcz8_2, hfz8_0, hfz8_1, hfz8_2⟩ := cells3_ BK191.out) | ((with_reducible refine gate_callee (f := 42) rfl ?_); refine goesL_ (some 17) rfl rfl Tryd.func42 (by kernel_rfl) rfl #[.string t188] rfl q_2 ?_; (with_reducible refine (cue_marks.calls t188 t192 _ A5.out).mono ?_); rintro e w9 ⟨v193, rfl, ho0, hb⟩; refine ⟨_, rfl, ?_⟩; have n0_ := Aside0.mk (Kd.R_lower ho0 (below_size q_27)); have n1_ := Aside0.mk (blk_below (g := gb191) (o := .cells #[.string t188, .string t189, .string t190] 67 (0, 0)) q_28 hb); have n2_ := Aside0.mk (below_step q_27 hb); clear BK191; clear HB; have HO194 := n0_; have BK191 := n1_; have HB := n2_; clear n0_ n1_ n2_; (try clear hb); (try clear hb2); (try clear hk); (try clear hi); (try clear ho0)))
      go_ret2
      exact ⟨_, q_10, by (with_reducible repeat (first | apply Kd.R_alloc | apply Kd.R_drewN | apply Kd.R_drew)); exact HO194.out, q_27⟩
    · rw [if_neg c4] at H
      have c4b0 : (t190.toList == ([] : List UInt8)) = false := beq_eq_false_iff_ne.mpr c4
      have c4b1 : (t190.toList != ([] : List UInt8)) = true := bne_iff_ne.mpr c4
      simp only [Option.some.injEq, Prod.mk.injEq] at H
      obtain ⟨rfl, rfl⟩ := H
      go_enter Tryd.func27, Tryd.ntmps27
      go_wp2_with (first | ((with_reducible refine gate_callee (f := 41) rfl ?_); refine goesL_ (some 7) rfl rfl Tryd.func41 (by kernel_rfl) rfl #[.string a0] rfl q_2 ?_; (with_reducible refine (cue_cut.calls k a0 t188 t189 t190 _ A2.out).mono ?_); rintro e w10 ⟨rfl, hb⟩; refine ⟨_, rfl, ?_⟩; have n0_ := Aside0.mk (below_step q_1 hb); clear HB; have HB := n0_; clear n0_; (try clear hb); (try clear hb2); (try clear hk); (try clear hi)) | ((with_reducible refine gate_dst (N := 4) rfl ?_); refine box_event ?hg (N := 4) ?hd (cs := #[.string (⟨#[]⟩ : ByteArray), .string (⟨#[]⟩ : ByteArray), .string (⟨#[]⟩ : ByteArray)]) (t := 67) ?hr ?_; (case hd => rfl); (case hg => rfl); (case hr => first | (go_simp; done) | (go_simp; rfl)); intro gb191 hg w11 hbox hb; have n0_ := Aside0.mk (below_step q_1 hb); have n1_ := Aside0.mk (hbox); have n2_ := Aside0.mk ((by rw [hg]; exact (below_size q_1) : w.heap.size ≤ gb191)); have n3_ := Aside0.mk ((by rw [hg]; exact (below_size q_1) : w.heap.size ≤ gb191)); clear HB; have HB := n0_; have BK191 := n1_; have GW191 := n2_; have GE191 := n3_; clear n0_ n1_ n2_ n3_; clear hb hbox hg; obtain ⟨hcz12_0, hcz12_1, hcz12_2, hfz12_0, hfz12_1, hfz12_2⟩ := cells3_ BK191.out))
      go_ret2
      exact ⟨_, q_10, q_11, q_27⟩
  · rw [if_neg c3] at H
    have c3b0 : (t189.toList == ([] : List UInt8)) = false := beq_eq_false_iff_ne.mpr c3
    have c3b1 : (t189.toList != ([] : List UInt8)) = true := bne_iff_ne.mpr c3
    have HC13 := Aside0.mk H
    clear H
    go_enter Tryd.func27, Tryd.ntmps27
    go_upto_region 6 with (first | ((with_reducible refine gate_callee (f := 41) rfl ?_); refine goesL_ (some 7) rfl rfl Tryd.func41 (by kernel_rfl) rfl #[.string a0] rfl q_2 ?_; (with_reducible refine (cue_cut.calls k a0 t188 t189 t190 _ A2.out).mono ?_); rintro e w14 ⟨rfl, hb⟩; refine ⟨_, rfl, ?_⟩; have n0_ := Aside0.mk (below_step q_1 hb); clear HB; have HB := n0_; clear n0_; (try clear hb); (try clear hb2); (try clear hk); (try clear hi)) | ((with_reducible refine gate_dst (N := 4) rfl ?_); refine box_event ?hg (N := 4) ?hd (cs := #[.string (⟨#[]⟩ : ByteArray), .string (⟨#[]⟩ : ByteArray), .string (⟨#[]⟩ : ByteArray)]) (t := 67) ?hr ?_; (case hd => rfl); (case hg => rfl); (case hr => first | (go_simp; done) | (go_simp; rfl)); intro gb191 hg w15 hbox hb; have n0_ := Aside0.mk (below_step q_1 hb); have n1_ := Aside0.mk (hbox); have n2_ := Aside0.mk ((by rw [hg]; exact (below_size q_1) : w.heap.size ≤ gb191)); have n3_ := Aside0.mk ((by rw [hg]; exact (below_size q_1) : w.heap.size ≤ gb191)); clear HB; have HB := n0_; have BK191 := n1_; have GW191 := n2_; have GE191 := n3_; clear n0_ n1_ n2_ n3_; clear hb hbox hg; obtain ⟨hcz16_0, hcz16_1, hcz16_2, hfz16_0, hfz16_1, hfz16_2⟩ := cells3_ BK191.out))
    (try simp only [Act.put, List.setIfInBounds_toArray, List.set_cons_zero, List.set_cons_succ])
    go_cut [18] (fun v18 wc => ∃ (kq : Nat) (x18_12 : Bool), v18 = .bool x18_12 ∧ Aside0 (cue_Pieces.j0 kq a0 x18_12 t188 t189 t190 = some (r1, r2)) ∧ Aside0 (kq ≤ k) ∧ Aside0 (wc.heap[gb191]? = some (.cells #[.string t188, .string t189, .string t190] 67 (0, 0))) ∧ Aside0 (Below w.heap.size w wc))
    case first =>
      have H := HC13.out
      clear HC13
      by_cases c17 : t190.toList = ([] : List UInt8)
      · rw [if_pos c17] at H
        have c17b0 : (t190.toList == ([] : List UInt8)) = true := beq_iff_eq.mpr c17
        have c17b1 : (t190.toList != ([] : List UInt8)) = false := bne_eq_false_iff_eq.mpr c17
        clear c17
        (first | rw [c17b0] | (simp only [i64_w, i32_w]; rw [c17b0]) | skip)
        have H' := Aside0.mk H
        clear H
        obtain ⟨hcz18_0, hcz18_1, hcz18_2, hfz18_0, hfz18_1, hfz18_2⟩ := cells3_ BK191.out
        go_wp2
        go_meet
        case rel => exact ⟨_, (false), q_5, H', ⟨by first | omega | exact Nat.le_refl _⟩, ⟨q_28⟩, ⟨q_27⟩⟩
      · rw [if_neg c17] at H
        have c17b0 : (t190.toList == ([] : List UInt8)) = false := beq_eq_false_iff_ne.mpr c17
        have c17b1 : (t190.toList != ([] : List UInt8)) = true := bne_iff_ne.mpr c17
        (first | rw [c17b0] | (simp only [i64_w, i32_w]; rw [c17b0]) | skip)
        by_cases c19 : 0 < (t190.size : Int)
        · rw [if_pos c19] at H
          have c19b0 : decide (0 < (t190.size : Int)) = true := decide_eq_true c19
          have c19b1 : decide (0 < t190.size) = true := decide_eq_true (by omega)
          clear c19
          have H' := Aside0.mk H
          clear H
          obtain ⟨hcz21_0, hcz21_1, hcz21_2, hfz21_0, hfz21_1, hfz21_2⟩ := cells3_ BK191.out
          have p20 : 0 ≤ (0 : Int) := (by omega)
          have q20 : 0 < t190.size := (by have : (0 : Int) < (t190.size : Int) := of_decide_eq_true q_6; omega)
          have hx20 : ∀ h : 0 < t190.size, ((t190[0]'h).toNat : Int) = bt t190 0 := bt_at t190 0
          clear p20
          have qi20 : (0 < (t190.size : Int)) = True := eq_true (of_decide_eq_true q_6)
          replace q20 := eq_true q20
          go_wp2
          go_meet
          case rel => exact ⟨_, (((bt t190 0) != 32)), q_5, H', ⟨by first | omega | exact Nat.le_refl _⟩, ⟨q_28⟩, ⟨q_27⟩⟩
        · rw [if_neg c19] at H
          exact absurd H (by simp)
    case rest =>
      clear HC13
      try clear c1; try clear c2; try clear p2; try clear q2; try clear hx2; try clear qi2; try clear c3; try clear c3b0; try clear c3b1; try clear c4; try clear c4b0; try clear c4b1; try clear c17; try clear c17b0; try clear c17b1; try clear c19; try clear c19b0; try clear c19b1; try clear p20; try clear q20; try clear hx20; try clear qi20; try clear hcz12_0; try clear hcz12_1; try clear hcz12_2; try clear hcz16_0; try clear hcz16_1; try clear hcz16_2; try clear hcz18_0; try clear hcz18_1; try clear hcz18_2; try clear hcz21_0; try clear hcz21_1; try clear hcz21_2; try clear hcz8_0; try clear hcz8_1; try clear hcz8_2; try clear hfz12_0; try clear hfz12_1; try clear hfz12_2; try clear hfz16_0; try clear hfz16_1; try clear hfz16_2; try clear hfz18_0; try clear hfz18_1; try clear hfz18_2; try clear hfz21_0; try clear hfz21_1; try clear hfz21_2; try clear hfz8_0; try clear hfz8_1; try clear hfz8_2; try clear p20; try clear q20
      obtain ⟨kq, x18_12, rfl, HA, HJ12, BK191, HB⟩ := hcut
      cases kq with
      | zero => exact absurd HA.out (by simp [cue_Pieces.j0])
      | succ kj12 =>
        have H := HA.out
        clear HA
        simp only [cue_Pieces.j0] at H
        by_cases c22 : x18_12 = true
        · subst c22
          have H1 : (some (([] : List (S30)), false)) = some (r1, r2) := by rw [if_pos rfl] at H; exact H
          clear H
          have H := H1
          clear H1
          simp only [Option.some.injEq, Prod.mk.injEq] at H
          obtain ⟨rfl, rfl⟩ := H
          go_wp2
          go_ret2
          exact ⟨_, q_10, q_11, q_27⟩
        · replace c22 := Bool.eq_false_iff.mpr c22
          subst c22
          have H1 : (if t189.toList = ([82, 69, 77] : List UInt8) then ((cue_row_remark.f t188 t189 t190).bind fun bt195 => (some (bt195.1, bt195.2))) else (if t190.toList = ([] : List UInt8) then (some (([] : List (S30)), false)) else (if 1 ≤ (t190.size : Int) then (if t189.toList = ([84, 73, 84, 76, 69] : List UInt8) then (cue_Pieces.j1 kj12 a0 (t190.extract 1 t190.size) t189 (t189.toList == ([84, 73, 84, 76, 69] : List UInt8)) t188 t189 t190) else (if t189.toList = ([80, 69, 82, 70, 79, 82, 77, 69, 82] : List UInt8) then (cue_Pieces.j1 kj12 a0 (t190.extract 1 t190.size) t189 (t189.toList == ([80, 69, 82, 70, 79, 82, 77, 69, 82] : List UInt8)) t188 t189 t190) else (cue_Pieces.j1 kj12 a0 (t190.extract 1 t190.size) t189 (t189.toList == ([83, 79, 78, 71, 87, 82, 73, 84, 69, 82] : List UInt8)) t188 t189 t190))) else (none)))) = some (r1, r2) := by rw [if_neg (show ¬ (false = true) by decide)] at H; exact H
          clear H
          have H := H1
          clear H1
          by_cases c23 : t189.toList = ([82, 69, 77] : List UInt8)
          · rw [if_pos c23] at H
            have c23b0 : (t189.toList == ([82, 69, 77] : List UInt8)) = true := beq_iff_eq.mpr c23
            have c23b1 : (t189.toList != ([82, 69, 77] : List UInt8)) = false := bne_eq_false_iff_eq.mpr c23
            clear c23
            replace H := Option.bind_eq_some_iff.mp H
            obtain ⟨⟨t195, t198⟩, A240, H⟩ := H
            replace H : (some (t195, t198)) = some (r1, r2) := H
            have A24 := Aside0.mk A240
            clear A240
            simp only [Option.some.injEq, Prod.mk.injEq] at H
            obtain ⟨rfl, rfl⟩ := H
            obtain ⟨hcz25_0, hcz25_1, hcz25_2, hfz25_0, hfz25_1, hfz25_2⟩ := cells3_ BK191.out
            go_wp2_with (first | ((with_reducible refine gate_callee (f := 43) rfl ?_); refine goesL_ (some 33) rfl rfl Tryd.func43 (by kernel_rfl) rfl #[.agg #[.string t188, .string t189, .string t190]] rfl q_2 ?_; (with_reducible refine (cue_row_remark.calls t188 t189 t190 t195 t198 _ A24.out).mono ?_); rintro e w26 ⟨v196, rfl, ho0, hb⟩; refine ⟨_, rfl, ?_⟩; have n0_ := Aside0.mk (Kd.R_lower ho0 (below_size q_27)); have n1_ := Aside0.mk (blk_below (g := gb191) (o := .cells #[.string t188, .string t189, .string t190] 67 (0, 0)) q_29 hb); have n2_ := Aside0.mk (below_step q_27 hb); clear BK191; clear HB; have HO197 := n0_; have BK191 := n1_; have HB := n2_; clear n0_ n1_ n2_; (try clear hb); (try clear hb2); (try clear hk); (try clear hi); (try clear ho0)))
            go_ret2
            exact ⟨_, q_10, by (with_reducible repeat (first | apply Kd.R_alloc | apply Kd.R_drewN | apply Kd.R_drew)); exact HO197.out, q_27⟩
          · rw [if_neg c23] at H
            have c23b0 : (t189.toList == ([82, 69, 77] : List UInt8)) = false := beq_eq_false_iff_ne.mpr c23
            have c23b1 : (t189.toList != ([82, 69, 77] : List UInt8)) = true := bne_iff_ne.mpr c23
            by_cases c27 : t190.toList = ([] : List UInt8)
            · rw [if_pos c27] at H
              have c27b0 : (t190.toList == ([] : List UInt8)) = true := beq_iff_eq.mpr c27
              have c27b1 : (t190.toList != ([] : List UInt8)) = false := bne_eq_false_iff_eq.mpr c27
              clear c27
              simp only [Option.some.injEq, Prod.mk.injEq] at H
              obtain ⟨rfl, rfl⟩ := H
              obtain ⟨hcz28_0, hcz28_1, hcz28_2, hfz28_0, hfz28_1, hfz28_2⟩ := cells3_ BK191.out
              go_wp2
              go_ret2
              exact ⟨_, q_10, q_11, q_27⟩
            · rw [if_neg c27] at H
              have c27b0 : (t190.toList == ([] : List UInt8)) = false := beq_eq_false_iff_ne.mpr c27
              have c27b1 : (t190.toList != ([] : List UInt8)) = true := bne_iff_ne.mpr c27
              by_cases c29 : 1 ≤ (t190.size : Int)
              · rw [if_pos c29] at H
                have c29b0 := eq_true c29
                have c29b1 : decide (1 ≤ (t190.size : Int)) = true := decide_eq_true c29
                clear c29
                have HC30 := Aside0.mk H
                clear H
                obtain ⟨hcz31_0, hcz31_1, hcz31_2, hfz31_0, hfz31_1, hfz31_2⟩ := cells3_ BK191.out
                go_upto_if 45 with (fail)
                go_cut [45] (fun v45 wc => ∃ (kq : Nat) (x45_29 : Bool), v45 = .bool x45_29 ∧ Aside0 (cue_Pieces.j1 kq a0 (t190.extract 1 t190.size) t189 x45_29 t188 t189 t190 = some (r1, r2)) ∧ Aside0 (kq ≤ kj12) ∧ Aside0 (wc.heap[gb191]? = some (.cells #[.string t188, .string t189, .string t190] 67 (0, 0))) ∧ Aside0 (Below w.heap.size w wc))
                case first =>
                  have H := HC30.out
                  clear HC30
                  by_cases c32 : t189.toList = ([84, 73, 84, 76, 69] : List UInt8)
                  · rw [if_pos c32] at H
                    have c32b0 : (t189.toList == ([84, 73, 84, 76, 69] : List UInt8)) = true := beq_iff_eq.mpr c32
                    have c32b1 : (t189.toList != ([84, 73, 84, 76, 69] : List UInt8)) = false := bne_eq_false_iff_eq.mpr c32
                    clear c32
                    (first | rw [c32b0] | (simp only [i64_w, i32_w]; rw [c32b0]) | skip)
                    have H' := Aside0.mk H
                    clear H
                    go_wp2
                    go_meet
                    case rel => exact ⟨_, ((t189.toList == ([84, 73, 84, 76, 69] : List UInt8))), q_5, H', ⟨q_30⟩, ⟨q_29⟩, ⟨q_27⟩⟩
                  · rw [if_neg c32] at H
                    have c32b0 : (t189.toList == ([84, 73, 84, 76, 69] : List UInt8)) = false := beq_eq_false_iff_ne.mpr c32
                    have c32b1 : (t189.toList != ([84, 73, 84, 76, 69] : List UInt8)) = true := bne_iff_ne.mpr c32
                    (first | rw [c32b0] | (simp only [i64_w, i32_w]; rw [c32b0]) | skip)
                    by_cases c33 : t189.toList = ([80, 69, 82, 70, 79, 82, 77, 69, 82] : List UInt8)
                    · rw [if_pos c33] at H
                      have c33b0 : (t189.toList == ([80, 69, 82, 70, 79, 82, 77, 69, 82] : List UInt8)) = true := beq_iff_eq.mpr c33
                      have c33b1 : (t189.toList != ([80, 69, 82, 70, 79, 82, 77, 69, 82] : List UInt8)) = false := bne_eq_false_iff_eq.mpr c33
                      clear c33
                      have H' := Aside0.mk H
                      clear H
                      go_wp2
                      go_meet
                      case rel => exact ⟨_, ((t189.toList == ([80, 69, 82, 70, 79, 82, 77, 69, 82] : List UInt8))), q_5, H', ⟨q_30⟩, ⟨q_29⟩, ⟨q_27⟩⟩
                    · rw [if_neg c33] at H
                      have c33b0 : (t189.toList == ([80, 69, 82, 70, 79, 82, 77, 69, 82] : List UInt8)) = false := beq_eq_false_iff_ne.mpr c33
                      have c33b1 : (t189.toList != ([80, 69, 82, 70, 79, 82, 77, 69, 82] : List UInt8)) = true := bne_iff_ne.mpr c33
                      have H' := Aside0.mk H
                      clear H
                      go_wp2
                      go_meet
                      case rel => exact ⟨_, ((t189.toList == ([83, 79, 78, 71, 87, 82, 73, 84, 69, 82] : List UInt8))), q_5, H', ⟨q_30⟩, ⟨q_29⟩, ⟨q_27⟩⟩
                case rest =>
                  clear HC30
                  try clear c1; try clear c2; try clear p2; try clear q2; try clear hx2; try clear qi2; try clear c3; try clear c3b0; try clear c3b1; try clear c4; try clear c4b0; try clear c4b1; try clear c17; try clear c17b0; try clear c17b1; try clear c19; try clear c19b0; try clear c19b1; try clear p20; try clear q20; try clear hx20; try clear qi20; try clear c22; try clear c23; try clear c23b0; try clear c23b1; try clear c27; try clear c27b0; try clear c27b1; try clear c29; try clear c29b0; try clear c29b1; try clear c32; try clear c32b0; try clear c32b1; try clear c33; try clear c33b0; try clear c33b1; try clear hcz12_0; try clear hcz12_1; try clear hcz12_2; try clear hcz16_0; try clear hcz16_1; try clear hcz16_2; try clear hcz18_0; try clear hcz18_1; try clear hcz18_2; try clear hcz21_0; try clear hcz21_1; try clear hcz21_2; try clear hcz25_0; try clear hcz25_1; try clear hcz25_2; try clear hcz28_0; try clear hcz28_1; try clear hcz28_2; try clear hcz31_0; try clear hcz31_1; try clear hcz31_2; try clear hcz8_0; try clear hcz8_1; try clear hcz8_2; try clear hfz12_0; try clear hfz12_1; try clear hfz12_2; try clear hfz16_0; try clear hfz16_1; try clear hfz16_2; try clear hfz18_0; try clear hfz18_1; try clear hfz18_2; try clear hfz21_0; try clear hfz21_1; try clear hfz21_2; try clear hfz25_0; try clear hfz25_1; try clear hfz25_2; try clear hfz28_0; try clear hfz28_1; try clear hfz28_2; try clear hfz31_0; try clear hfz31_1; try clear hfz31_2; try clear hfz8_0; try clear hfz8_1; try clear hfz8_2; try clear p2; try clear p20; try clear q2; try clear q20
                  obtain ⟨kq, x45_29, rfl, HA, HJ29, BK191, HB⟩ := hcut
                  cases kq with
                  | zero => exact absurd HA.out (by simp [cue_Pieces.j1])
                  | succ kj29 =>
                    have H := HA.out
                    clear HA
                    simp only [cue_Pieces.j1] at H
                    by_cases c34 : x45_29 = true
                    · subst c34
                      have H1 : ((cue_small.f t189).bind fun t199 => ((cue_row_value.f kj29 t188 t189 t190 t199 (t190.extract 1 t190.size) (⟨#[]⟩ : ByteArray)).bind fun bt200 => (some (bt200.1, bt200.2)))) = some (r1, r2) := by rw [if_pos rfl] at H; exact H
                      clear H
                      have H := H1
                      clear H1
                      replace H := Option.bind_eq_some_iff.mp H
                      obtain ⟨t199, A350, H⟩ := H
                      replace H : ((cue_row_value.f kj29 t188 t189 t190 t199 (t190.extract 1 t190.size) (⟨#[]⟩ : ByteArray)).bind fun bt200 => (some (bt200.1, bt200.2))) = some (r1, r2) := H
                      have A35 := Aside0.mk A350
                      clear A350
                      replace H := Option.bind_eq_some_iff.mp H
                      obtain ⟨⟨t200, t203⟩, A360, H⟩ := H
                      replace H : (some (t200, t203)) = some (r1, r2) := H
                      have A36 := Aside0.mk A360
                      clear A360
                      simp only [Option.some.injEq, Prod.mk.injEq] at H
                      obtain ⟨rfl, rfl⟩ := H
                      try go_wp2
                      have n0_ := Aside0.mk (blk_drew BK191.out)
                      have n1_ := Aside0.mk (below_drew1 HB.out)
                      clear BK191
                      clear HB
                      have BK191 := n0_
                      have HB := n1_
                      clear n0_ n1_
                      refine start_ (n := 10) (S := fun w' => w'.cell? ⟨gb191, 0, none⟩ = some (.string t188) ∧ w'.cell? ⟨gb191, 1, none⟩ = some (.string t189) ∧ w'.cell? ⟨gb191, 2, none⟩ = some (.string t190)) (ds := []) #[false, false, false, false, false, false, false, false, false, false] (by kernel_rfl) rfl rfl ⟨(blk_cell BK191.out 0).trans rfl, (blk_cell BK191.out 1).trans rfl, (blk_cell BK191.out 2).trans rfl⟩ (fun hHeld => ?_); refine with_tabW cue_Pieces.tab17 cue_Pieces.bits17 (fun HT_ HW_ => ?_)
                      generalize wc.drew = w37 at BK191 HB hHeld ⊢
                      refine pure_ (i := 1) (N := some 50) (v := ?_) (a' := ?_) #[false, true, false, false, false, false, false, false, false, false] rfl rfl (any_of HT_.out (by kernel_rfl)) (fun _ _ _ h => h) (Or.inl ⟨by rfl, ?_⟩) ?_ ?_
                      rotate_left
                      · intro w'
                        go_simp
                        with_reducible rfl
                      rotate_left
                      · simp only [Act.put, List.setIfInBounds_toArray, List.set_cons_zero, List.set_cons_succ, i64_w, i32_w]
                        rfl
                      refine pure_ (i := 4) (N := some 53) (v := ?_) (a' := ?_) #[false, true, false, false, true, false, false, false, false, false] rfl rfl (any_of HT_.out (by kernel_rfl)) (fun _ _ _ h => h) (Or.inl ⟨by rfl, ?_⟩) ?_ ?_
                      rotate_left
                      · intro w'
                        go_simp
                        with_reducible rfl
                      rotate_left
                      · simp only [Act.put, List.setIfInBounds_toArray, List.set_cons_zero, List.set_cons_succ, i64_w, i32_w]
                        rfl
                      refine take_ (i := 0) (N := some 49) (v := ?_) (a' := ?_) #[true, true, false, false, true, false, false, false, false, false] rfl rfl (take_ofW HT_.out HW_.out (by kernel_rfl)) (fun _ _ _ h => h) (Or.inl ⟨by rfl, ?_⟩) hHeld ?_ ?_
                      rotate_left
                      · rintro w' ⟨s0, s1, s2⟩
                        go_simp
                        with_reducible rfl
                      rotate_left
                      · simp only [Act.put, List.setIfInBounds_toArray, List.set_cons_zero, List.set_cons_succ, i64_w, i32_w]
                        rfl
                      refine take_ (i := 2) (N := some 51) (v := ?_) (a' := ?_) #[true, true, true, false, true, false, false, false, false, false] rfl rfl (take_ofW HT_.out HW_.out (by kernel_rfl)) (fun _ _ _ h => h) (Or.inl ⟨by rfl, ?_⟩) hHeld ?_ ?_
                      rotate_left
                      · rintro w' ⟨s0, s1, s2⟩
                        go_simp
                        with_reducible rfl
                      rotate_left
                      · simp only [Act.put, List.setIfInBounds_toArray, List.set_cons_zero, List.set_cons_succ, i64_w, i32_w]
                        rfl
                      refine one_ (i := 3) (N := some 52) #[true, true, true, true, true, false, false, false, false, false] rfl rfl (one_of HT_.out (by kernel_rfl)) (by decide) (fun K hK => ?_)
                      refine goes_ Tryd.func45 (by kernel_rfl) rfl #[.string t189] (by rfl) rfl rfl q_2 ?_
                      with_reducible refine (cue_small.calls t189 t199 _ A35.out).mono ?_
                      rintro e w38 ⟨rfl, hb⟩
                      refine ⟨_, rfl, ?_⟩
                      have n0_ := Aside0.mk (blk_below (g := gb191) (o := .cells #[.string t188, .string t189, .string t190] 67 (0, 0)) q_29 hb)
                      have n1_ := Aside0.mk (below_step q_27 hb)
                      clear BK191
                      clear HB
                      have BK191 := n0_
                      have HB := n1_
                      clear n0_ n1_
                      (try clear hb)
                      (try clear hb2)
                      (try clear hk)
                      (try clear hi)
                      refine hK.out _ _ ⟨(blk_cell BK191.out 0).trans rfl, (blk_cell BK191.out 1).trans rfl, (blk_cell BK191.out 2).trans rfl⟩ (fun hHeld => ?_)
                      clear hK K
                      refine norm_ (a' := ?_) ?_ ?_
                      rotate_left
                      · show Act.put _ (some 52) _ = _
                        simp only [Act.put, List.setIfInBounds_toArray, List.set_cons_zero, List.set_cons_succ, i64_w, i32_w]
                        rfl
                      refine one_ (i := 5) (N := some 54) #[true, true, true, true, true, true, false, false, false, false] rfl rfl (one_of HT_.out (by kernel_rfl)) (by decide) (fun K hK => ?_)
                      refine goes_ Tryd.func44 (by kernel_rfl) rfl #[.agg #[.string t188, .string t189, .string t190], .string t199, .string (t190.extract 1 t190.size), .string (⟨#[]⟩ : ByteArray)] (by rfl) rfl rfl q_2 ?_
                      with_reducible refine (cue_row_value.calls kj29 t188 t189 t190 t199 (t190.extract 1 t190.size) (⟨#[]⟩ : ByteArray) t200 t203 _ A36.out).mono ?_
                      rintro e w39 ⟨v201, rfl, ho0, hb⟩
                      refine ⟨_, rfl, ?_⟩
                      have n0_ := Aside0.mk (Kd.R_lower ho0 (below_size q_27))
                      have n1_ := Aside0.mk (blk_below (g := gb191) (o := .cells #[.string t188, .string t189, .string t190] 67 (0, 0)) q_29 hb)
                      have n2_ := Aside0.mk (below_step q_27 hb)
                      clear BK191
                      clear HB
                      have HO202 := n0_
                      have BK191 := n1_
                      have HB := n2_
                      clear n0_ n1_ n2_
                      (try clear hb)
                      (try clear hb2)
                      (try clear hk)
                      (try clear hi)
                      (try clear ho0)
                      refine hK.out _ _ ⟨(blk_cell BK191.out 0).trans rfl, (blk_cell BK191.out 1).trans rfl, (blk_cell BK191.out 2).trans rfl⟩ (fun hHeld => ?_)
                      clear hK K
                      refine norm_ (a' := ?_) ?_ ?_
                      rotate_left
                      · show Act.put _ (some 54) _ = _
                        simp only [Act.put, List.setIfInBounds_toArray, List.set_cons_zero, List.set_cons_succ, i64_w, i32_w]
                        rfl
                      refine pure_ (i := 6) (N := some 55) (v := ?_) (a' := ?_) #[true, true, true, true, true, true, true, false, false, false] rfl rfl (any_of HT_.out (by kernel_rfl)) (fun _ _ _ h => h) (Or.inl ⟨by rfl, ?_⟩) ?_ ?_
                      rotate_left
                      · intro w'
                        go_simp
                        with_reducible rfl
                      rotate_left
                      · simp only [Act.put, List.setIfInBounds_toArray, List.set_cons_zero, List.set_cons_succ, i64_w, i32_w]
                        rfl
                      refine pure_ (i := 7) (N := some 56) (v := ?_) (a' := ?_) #[true, true, true, true, true, true, true, true, false, false] rfl rfl (any_of HT_.out (by kernel_rfl)) (fun _ _ _ h => h) (Or.inl ⟨by rfl, ?_⟩) ?_ ?_
                      rotate_left
                      · intro w'
                        go_simp
                        with_reducible rfl
                      rotate_left
                      · simp only [Act.put, List.setIfInBounds_toArray, List.set_cons_zero, List.set_cons_succ, i64_w, i32_w]
                        rfl
                      refine pure_ (i := 8) (N := some 2) (v := ?_) (a' := ?_) #[true, true, true, true, true, true, true, true, true, false] rfl rfl (any_of HT_.out (by kernel_rfl)) (fun _ _ _ h => h) (Or.inl ⟨by rfl, ?_⟩) ?_ ?_
                      rotate_left
                      · intro w'
                        go_simp
                        with_reducible rfl
                      rotate_left
                      · simp only [Act.put, List.setIfInBounds_toArray, List.set_cons_zero, List.set_cons_succ, i64_w, i32_w]
                        rfl
                      refine pure_ (i := 9) (N := some 3) (v := ?_) (a' := ?_) #[true, true, true, true, true, true, true, true, true, true] rfl rfl (any_of HT_.out (by kernel_rfl)) (fun _ _ _ h => h) (Or.inl ⟨by rfl, ?_⟩) ?_ ?_
                      rotate_left
                      · intro w'
                        go_simp
                        with_reducible rfl
                      rotate_left
                      · simp only [Act.put, List.setIfInBounds_toArray, List.set_cons_zero, List.set_cons_succ, i64_w, i32_w]
                        rfl
                      refine done_ (done_of HT_.out (by kernel_rfl)) ?_
                      try go_wp2
                      go_ret2
                      exact ⟨_, q_10, by (with_reducible repeat (first | apply Kd.R_alloc | apply Kd.R_drewN | apply Kd.R_drew)); exact HO202.out, q_27⟩
                    · replace c34 := Bool.eq_false_iff.mpr c34
                      subst c34
                      have H1 : (if t189.toList = ([70, 73, 76, 69] : List UInt8) then ((cue_row_file.f kj29 t188 t189 t190 (t190.extract 1 t190.size)).bind fun bt204 => (some (bt204.1, bt204.2))) else (if (t190.extract 1 t190.size).toList = ([] : List UInt8) then (some (([] : List (S30)), false)) else ((cue_plain.f kj29 t189 (t190.extract 1 t190.size)).bind fun t208 => (if t208 = true then ((cue_marks.f a0).bind fun t209 => (some (t209, true))) else (some (([] : List (S30)), false)))))) = some (r1, r2) := by rw [if_neg (show ¬ (false = true) by decide)] at H; exact H
                      clear H
                      have H := H1
                      clear H1
                      by_cases c40 : t189.toList = ([70, 73, 76, 69] : List UInt8)
                      · rw [if_pos c40] at H
                        have c40b0 : (t189.toList == ([70, 73, 76, 69] : List UInt8)) = true := beq_iff_eq.mpr c40
                        have c40b1 : (t189.toList != ([70, 73, 76, 69] : List UInt8)) = false := bne_eq_false_iff_eq.mpr c40
                        clear c40
                        replace H := Option.bind_eq_some_iff.mp H
                        obtain ⟨⟨t204, t207⟩, A410, H⟩ := H
                        replace H : (some (t204, t207)) = some (r1, r2) := H
                        have A41 := Aside0.mk A410
                        clear A410
                        simp only [Option.some.injEq, Prod.mk.injEq] at H
                        obtain ⟨rfl, rfl⟩ := H
                        obtain ⟨hcz42_0, hcz42_1, hcz42_2, hfz42_0, hfz42_1, hfz42_2⟩ := cells3_ BK191.out
                        go_wp2_with (first | ((with_reducible refine gate_callee (f := 46) rfl ?_); refine goesL_ (some 61) rfl rfl Tryd.func46 (by kernel_rfl) rfl #[.agg #[.string t188, .string t189, .string t190], .string (t190.extract 1 t190.size)] rfl q_2 ?_; (with_reducible refine (cue_row_file.calls kj29 t188 t189 t190 (t190.extract 1 t190.size) t204 t207 _ A41.out).mono ?_); rintro e w43 ⟨v205, rfl, ho0, hb⟩; refine ⟨_, rfl, ?_⟩; have n0_ := Aside0.mk (Kd.R_lower ho0 (below_size q_27)); have n1_ := Aside0.mk (blk_below (g := gb191) (o := .cells #[.string t188, .string t189, .string t190] 67 (0, 0)) q_29 hb); have n2_ := Aside0.mk (below_step q_27 hb); clear BK191; clear HB; have HO206 := n0_; have BK191 := n1_; have HB := n2_; clear n0_ n1_ n2_; (try clear hb); (try clear hb2); (try clear hk); (try clear hi); (try clear ho0)))
                        go_ret2
                        exact ⟨_, q_10, by (with_reducible repeat (first | apply Kd.R_alloc | apply Kd.R_drewN | apply Kd.R_drew)); exact HO206.out, q_27⟩
                      · rw [if_neg c40] at H
                        have c40b0 : (t189.toList == ([70, 73, 76, 69] : List UInt8)) = false := beq_eq_false_iff_ne.mpr c40
                        have c40b1 : (t189.toList != ([70, 73, 76, 69] : List UInt8)) = true := bne_iff_ne.mpr c40
                        by_cases c44 : (t190.extract 1 t190.size).toList = ([] : List UInt8)
                        · rw [if_pos c44] at H
                          have c44b0 : ((t190.extract 1 t190.size).toList == ([] : List UInt8)) = true := beq_iff_eq.mpr c44
                          have c44b1 : ((t190.extract 1 t190.size).toList != ([] : List UInt8)) = false := bne_eq_false_iff_eq.mpr c44
                          clear c44
                          simp only [Option.some.injEq, Prod.mk.injEq] at H
                          obtain ⟨rfl, rfl⟩ := H
                          go_wp2
                          go_ret2
                          exact ⟨_, q_10, q_11, q_27⟩
                        · rw [if_neg c44] at H
                          have c44b0 : ((t190.extract 1 t190.size).toList == ([] : List UInt8)) = false := beq_eq_false_iff_ne.mpr c44
                          have c44b1 : ((t190.extract 1 t190.size).toList != ([] : List UInt8)) = true := bne_iff_ne.mpr c44
                          replace H := Option.bind_eq_some_iff.mp H
                          obtain ⟨t208, A450, H⟩ := H
                          replace H : (if t208 = true then ((cue_marks.f a0).bind fun t209 => (some (t209, true))) else (some (([] : List (S30)), false))) = some (r1, r2) := H
                          have A45 := Aside0.mk A450
                          clear A450
                          by_cases c46 : t208 = true
                          · subst c46
                            have H1 : ((cue_marks.f a0).bind fun t209 => (some (t209, true))) = some (r1, r2) := by rw [if_pos rfl] at H; exact H
                            clear H
                            have H := H1
                            clear H1
                            replace H := Option.bind_eq_some_iff.mp H
                            obtain ⟨t209, A470, H⟩ := H
                            replace H : (some (t209, true)) = some (r1, r2) := H
                            have A47 := Aside0.mk A470
                            clear A470
                            simp only [Option.some.injEq, Prod.mk.injEq] at H
                            obtain ⟨rfl, rfl⟩ := H
                            obtain ⟨hcz48_0, hcz48_1, hcz48_2, hfz48_0, hfz48_1, hfz48_2⟩ := cells3_ BK191.out
                            go_wp2_with (first | (go_at_call 47; (with_reducible refine (cue_plain.calls kj29 t189 (t190.extract 1 t190.size) true _ (GM.below HG.out q_27) A45.out).mono ?_); rintro e w49 ⟨rfl, hb⟩; have n0_ := Aside0.mk (blk_below (g := gb191) (o := .cells #[.string t188, .string t189, .string t190] 67 (0, 0)) q_29 hb); have n1_ := Aside0.mk (below_step q_27 hb); clear BK191; clear HB; have BK191 := n0_; have HB := n1_; clear n0_ n1_; (try clear hb); (try clear hb2); (try clear hk); (try clear hi)) | ((with_reducible refine gate_callee (f := 42) rfl ?_); refine goesL_ (some 74) rfl rfl Tryd.func42 (by kernel_rfl) rfl #[.string a0] rfl q_2 ?_; (with_reducible refine (cue_marks.calls a0 t209 _ A47.out).mono ?_); rintro e w50 ⟨v210, rfl, ho0, hb⟩; refine ⟨_, rfl, ?_⟩; have n0_ := Aside0.mk (Kd.R_lower ho0 (below_size q_27)); have n1_ := Aside0.mk (blk_below (g := gb191) (o := .cells #[.string t188, .string t189, .string t190] 67 (0, 0)) q_29 hb); have n2_ := Aside0.mk (below_step q_27 hb); clear BK191; clear HB; have HO211 := n0_; have BK191 := n1_; have HB := n2_; clear n0_ n1_ n2_; (try clear hb); (try clear hb2); (try clear hk); (try clear hi); (try clear ho0)))
                            go_ret2
                            exact ⟨_, q_10, by (with_reducible repeat (first | apply Kd.R_alloc | apply Kd.R_drewN | apply Kd.R_drew)); exact HO211.out, q_27⟩
                          · replace c46 := Bool.eq_false_iff.mpr c46
                            subst c46
                            have H1 : (some (([] : List (S30)), false)) = some (r1, r2) := by rw [if_neg (show ¬ (false = true) by decide)] at H; exact H
                            clear H
                            have H := H1
                            clear H1
                            simp only [Option.some.injEq, Prod.mk.injEq] at H
                            obtain ⟨rfl, rfl⟩ := H
                            obtain ⟨hcz51_0, hcz51_1, hcz51_2, hfz51_0, hfz51_1, hfz51_2⟩ := cells3_ BK191.out
                            go_wp2_with (first | (go_at_call 47; (with_reducible refine (cue_plain.calls kj29 t189 (t190.extract 1 t190.size) false _ (GM.below HG.out q_27) A45.out).mono ?_); rintro e w52 ⟨rfl, hb⟩; have n0_ := Aside0.mk (blk_below (g := gb191) (o := .cells #[.string t188, .string t189, .string t190] 67 (0, 0)) q_29 hb); have n1_ := Aside0.mk (below_step q_27 hb); clear BK191; clear HB; have BK191 := n0_; have HB := n1_; clear n0_ n1_; (try clear hb); (try clear hb2); (try clear hk); (try clear hi)))
                            go_ret2
                            exact ⟨_, q_10, q_11, q_27⟩
              · rw [if_neg c29] at H
                exact absurd H (by simp)

end Go.Proofs.YtkhiiilfokijgaaDoor.PAll
