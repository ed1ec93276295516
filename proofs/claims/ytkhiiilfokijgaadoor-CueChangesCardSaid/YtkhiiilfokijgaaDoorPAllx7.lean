/- Written by a program of this session: functions of the Go program as Lean functions, and the walks that tie them to it. -/
import Derived.Test.YtkhiiilfokijgaaDoorPAllx0
import Derived.Test.YtkhiiilfokijgaaDoorPAllx6
namespace Go.Proofs.YtkhiiilfokijgaaDoor.PAll
open Go.RowKit Go.Proofs.YtkhiiilfokijgaaDoorW.PrintWords Go.Proofs.YtkhiiilfokijgaaDoorW.PrintLast Go.Proofs.YtkhiiilfokijgaaDoorW.PrintMore
attribute [local go_sem] max2_int min2_int max_two min_two max_three min_three max_four min_four   -- for this text's walks alone
set_option linter.unusedVariables false
set_option linter.unusedSimpArgs false

/-! ### cue_row_value: function 44 -/
def cue_row_value.j0 : Nat → ByteArray → ByteArray → ByteArray → Bool → Bool → ByteArray → ByteArray → Option ((List (S30)) × Bool)
  | 0, _, _, _, _, _, _, _ => none
  | k + 1, x1, x2, x3, x33, x140000, x140001, x140002 => if x33 = true then (some (([] : List (S30)), false)) else (if x140002.size + 1 ≤ 9223372036854775807 then (if 1 ≤ (wrap64 ((x2.size : Int) - 1)) then (if (wrap64 ((x2.size : Int) - 1)) ≤ (x2.size : Int) then ((line_Text.f x1 (x2.extract 1 ((wrap64 ((x2.size : Int) - 1)) : Int).toNat)).bind fun bt153 => ((line_Mark.f (([(⟨#[34]⟩ : ByteArray), x3] : List ByteArray))).bind fun bt159 => (some ((([(⟨x140000, x140001, x140002 ++ (⟨#[34]⟩ : ByteArray)⟩ : S30), (⟨bt153.1, bt153.2.1, bt153.2.2⟩ : S30), (⟨bt159.1, bt159.2.1, bt159.2.2⟩ : S30)] : List (S30))), true)))) else (none)) else (none)) else (none))
def cue_row_value.f (k : Nat) (a0_0 : ByteArray) (a0_1 : ByteArray) (a0_2 : ByteArray) (a1 : ByteArray) (a2 : ByteArray) (a3 : ByteArray) : Option ((List (S30)) × Bool) := (line_Mark.f (([a0_0, a0_1, (⟨#[32]⟩ : ByteArray)] : List ByteArray))).bind fun bt136 => ((strings_Count.f a2 (⟨#[34]⟩ : ByteArray)).bind fun t140 => (if t140 = 0 then (if a2.toList = ([] : List UInt8) then (some (([] : List (S30)), false)) else ((line_Text.f a1 a2).bind fun bt141 => ((some (([(⟨bt136.1, bt136.2.1, bt136.2.2⟩ : S30), (⟨bt141.1, bt141.2.1, bt141.2.2⟩ : S30)] : List (S30)) : List (S30))).bind fun y144 => ((cue_marks.f a3).bind fun t147 => (if y144.length + t147.length < 3518437208883 then (some ((y144 ++ t147), true)) else (none)))))) else (if t140 = 2 then (if (a2.size : Int) < 2 then (cue_row_value.j0 k a1 a2 a3 true bt136.1 bt136.2.1 bt136.2.2) else (if 0 < (a2.size : Int) then (if (bt a2 0) = 34 then (if 0 ≤ (wrap64 ((a2.size : Int) - 1)) then (if (wrap64 ((a2.size : Int) - 1)) < (a2.size : Int) then (cue_row_value.j0 k a1 a2 a3 ((bt a2 (wrap64 ((a2.size : Int) - 1))) != 34) bt136.1 bt136.2.1 bt136.2.2) else (none)) else (none)) else (cue_row_value.j0 k a1 a2 a3 true bt136.1 bt136.2.1 bt136.2.2)) else (none))) else (cue_row_value.j0 k a1 a2 a3 true bt136.1 bt136.2.1 bt136.2.2))))
theorem cue_row_value.mono_l : ∀ k, (∀ y0 y1 y2 y3 y4 y5 y6, LeO (cue_row_value.j0 k y0 y1 y2 y3 y4 y5 y6) (cue_row_value.j0 (k + 1) y0 y1 y2 y3 y4 y5 y6))
  | 0 => fun _ _ _ _ _ _ _ r h => by simp [cue_row_value.j0] at h
  | k + 1 => by
    have ih0 := cue_row_value.mono_l k
    · intro y0 y1 y2 y3 y4 y5 y6
      unfold cue_row_value.j0
      repeat' first
      | (with_reducible exact ih0 _ _ _ _ _ _ _)
      | (with_reducible exact LeO.refl _)
      | (with_reducible exact LeO.none _)
      | (with_reducible refine LeO.ite ?_ ?_)
      | (with_reducible refine LeO.bind ?_ (fun _ => ?_))
      | exact ih0 _ _ _ _ _ _ _
      | exact LeO.none _
      | refine LeO.ite ?_ ?_
      | refine LeO.bind ?_ (fun _ => ?_)
theorem cue_row_value.mono : ∀ a0 a1 a2 a3 a4 a5 k, LeO (cue_row_value.f k a0 a1 a2 a3 a4 a5) (cue_row_value.f (k + 1) a0 a1 a2 a3 a4 a5) := by
  intro a0 a1 a2 a3 a4 a5 k
  have ih0 := cue_row_value.mono_l k
  unfold cue_row_value.f
  repeat' first
      | (with_reducible exact ih0 _ _ _ _ _ _ _)
      | (with_reducible exact LeO.refl _)
      | (with_reducible exact LeO.none _)
      | (with_reducible refine LeO.ite ?_ ?_)
      | (with_reducible refine LeO.bind ?_ (fun _ => ?_))
      | exact ih0 _ _ _ _ _ _ _
      | exact LeO.none _
      | refine LeO.ite ?_ ?_
      | refine LeO.bind ?_ (fun _ => ?_)
def cue_row_value.T6 : Bool × List (List Nat × List Nat) := (true, [([], []), ([], []), ([], []), ([1, 2], [1, 2]), ([0, 3], [0, 3]), ([], []), ([5, 3], [5]), ([4, 6, 6], [4, 6]), ([7, 7, 0, 1, 2, 3, 4, 5, 6, 7], [7]), ([8, 0, 1, 2, 3, 4, 5, 6, 7, 8], [])])
def cue_row_value.B6 : List Nat := [0, 0, 0, 6, 15, 0, 46, 127, 255, 511]
theorem cue_row_value.tab6 : rtab .any (opsOf Tryd.f44 6) = cue_row_value.T6 := by kernel_rfl
theorem cue_row_value.bits6 : waitsOk cue_row_value.T6.2 cue_row_value.B6 = true := by kernel_rfl
def cue_row_value.T10 : Bool × List (List Nat × List Nat) := (true, [([], []), ([], []), ([], []), ([], []), ([3], [3]), ([4], [4]), ([2, 5], [2, 5]), ([1, 6], [1, 6]), ([], []), ([8], [8]), ([9, 7], [9]), ([0, 7, 10], [0, 7, 10]), ([11, 10, 0, 1, 2, 3, 4, 5, 6, 7, 8, 9, 10, 11], [11]), ([12, 0, 1, 2, 3, 4, 5, 6, 7, 8, 9, 10, 11, 12], [])])
def cue_row_value.B10 : List Nat := [0, 0, 0, 0, 8, 24, 60, 126, 0, 256, 1022, 2047, 4095, 8191]
theorem cue_row_value.tab10 : rtab .any (opsOf Tryd.f44 10) = cue_row_value.T10 := by kernel_rfl
theorem cue_row_value.bits10 : waitsOk cue_row_value.T10.2 cue_row_value.B10 = true := by kernel_rfl
set_option maxHeartbeats 8000000 in
set_option maxRecDepth 100000 in
theorem cue_row_value.calls (k : Nat) (a0_0 : ByteArray) (a0_1 : ByteArray) (a0_2 : ByteArray) (a1 : ByteArray) (a2 : ByteArray) (a3 : ByteArray) (r1 : List (S30)) (r2 : Bool) (w : World) (h : cue_row_value.f k a0_0 a0_1 a0_2 a1 a2 a3 = some (r1, r2)) :
    Calls Tryd.prog 44 #[.agg #[.string a0_0, .string a0_1, .string a0_2], .string a1, .string a2, .string a3] w fun e w' => ∃ v0_ : Value, e = .returned (.tuple #[v0_, .bool r2]) ∧ Kd.R k30 30 w' w.heap.size (fun _ => True) v0_ r1 ∧ Below w.heap.size w w' := by
  have hu67 := Tryd.underlying67
  have hu30 := Tryd.underlying30
  have HB := Aside0.mk (Below.refl w.heap.size w)
  have H : ((line_Mark.f (([a0_0, a0_1, (⟨#[32]⟩ : ByteArray)] : List ByteArray))).bind fun bt136 => ((strings_Count.f a2 (⟨#[34]⟩ : ByteArray)).bind fun t140 => (if t140 = 0 then (if a2.toList = ([] : List UInt8) then (some (([] : List (S30)), false)) else ((line_Text.f a1 a2).bind fun bt141 => ((some (([(⟨bt136.1, bt136.2.1, bt136.2.2⟩ : S30), (⟨bt141.1, bt141.2.1, bt141.2.2⟩ : S30)] : List (S30)) : List (S30))).bind fun y144 => ((cue_marks.f a3).bind fun t147 => (if y144.length + t147.length < 3518437208883 then (some ((y144 ++ t147), true)) else (none)))))) else (if t140 = 2 then (if (a2.size : Int) < 2 then (cue_row_value.j0 k a1 a2 a3 true bt136.1 bt136.2.1 bt136.2.2) else (if 0 < (a2.size : Int) then (if (bt a2 0) = 34 then (if 0 ≤ (wrap64 ((a2.size : Int) - 1)) then (if (wrap64 ((a2.size : Int) - 1)) < (a2.size : Int) then (cue_row_value.j0 k a1 a2 a3 ((bt a2 (wrap64 ((a2.size : Int) - 1))) != 34) bt136.1 bt136.2.1 bt136.2.2) else (none)) else (none)) else (cue_row_value.j0 k a1 a2 a3 true bt136.1 bt136.2.1 bt136.2.2)) else (none))) else (cue_row_value.j0 k a1 a2 a3 true bt136.1 bt136.2.1 bt136.2.2))))) = some (r1, r2) := h
  clear h
  obtain ⟨y133, hy133⟩ : ∃ y_ : List ByteArray, y_ = (([a0_0, a0_1, (⟨#[32]⟩ : ByteArray)] : List ByteArray)) := ⟨_, rfl⟩
  replace H : ((line_Mark.f y133).bind fun bt136 => ((strings_Count.f a2 (⟨#[34]⟩ : ByteArray)).bind fun t140 => (if t140 = 0 then (if a2.toList = ([] : List UInt8) then (some (([] : List (S30)), false)) else ((line_Text.f a1 a2).bind fun bt141 => ((some (([(⟨bt136.1, bt136.2.1, bt136.2.2⟩ : S30), (⟨bt141.1, bt141.2.1, bt141.2.2⟩ : S30)] : List (S30)) : List (S30))).bind fun y144 => ((cue_marks.f a3).bind fun t147 => (if y144.length + t147.length < 3518437208883 then (some ((y144 ++ t147), true)) else (none)))))) else (if t140 = 2 then (if (a2.size : Int) < 2 then (cue_row_value.j0 k a1 a2 a3 true bt136.1 bt136.2.1 bt136.2.2) else (if 0 < (a2.size : Int) then (if (bt a2 0) = 34 then (if 0 ≤ (wrap64 ((a2.size : Int) - 1)) then (if (wrap64 ((a2.size : Int) - 1)) < (a2.size : Int) then (cue_row_value.j0 k a1 a2 a3 ((bt a2 (wrap64 ((a2.size : Int) - 1))) != 34) bt136.1 bt136.2.1 bt136.2.2) else (none)) else (none)) else (cue_row_value.j0 k a1 a2 a3 true bt136.1 bt136.2.1 bt136.2.2)) else (none))) else (cue_row_value.j0 k a1 a2 a3 true bt136.1 bt136.2.1 bt136.2.2))))) = some (r1, r2) := by first | (rw [hy133]; with_reducible exact H) | (have H2_ := (Option.bind_some _ _).symm.trans H; rw [hy133]; with_reducible exact H2_) | (have H2_ := (Option.bind_some _ _).symm.trans H; with_reducible exact H2_) | with_reducible exact H | (rw [hy133]; exact H) | exact H
  have Ny133 := Aside0.mk hy133
  clear hy133
  replace H := Option.bind_eq_some_iff.mp H
  obtain ⟨⟨t136, t137, t138⟩, A50, H⟩ := H
  replace H : ((strings_Count.f a2 (⟨#[34]⟩ : ByteArray)).bind fun t140 => (if t140 = 0 then (if a2.toList = ([] : List UInt8) then (some (([] : List (S30)), false)) else ((line_Text.f a1 a2).bind fun bt141 => ((some (([(⟨t136, t137, t138⟩ : S30), (⟨bt141.1, bt141.2.1, bt141.2.2⟩ : S30)] : List (S30)) : List (S30))).bind fun y144 => ((cue_marks.f a3).bind fun t147 => (if y144.length + t147.length < 3518437208883 then (some ((y144 ++ t147), true)) else (none)))))) else (if t140 = 2 then (if (a2.size : Int) < 2 then (cue_row_value.j0 k a1 a2 a3 true t136 t137 t138) else (if 0 < (a2.size : Int) then (if (bt a2 0) = 34 then (if 0 ≤ (wrap64 ((a2.size : Int) - 1)) then (if (wrap64 ((a2.size : Int) - 1)) < (a2.size : Int) then (cue_row_value.j0 k a1 a2 a3 ((bt a2 (wrap64 ((a2.size : Int) - 1))) != 34) t136 t137 t138) else (none)) else (none)) else (cue_row_value.j0 k a1 a2 a3 true t136 t137 t138)) else (none))) else (cue_row_value.j0 k a1 a2 a3 true t136 t137 t138)))) = some (r1, r2) := H
  have A5 := Aside0.mk A50
  clear A50
  replace H := Option.bind_eq_some_iff.mp H
  obtain ⟨t140, A60, H⟩ := H
  replace H : (if t140 = 0 then (if a2.toList = ([] : List UInt8) then (some (([] : List (S30)), false)) else ((line_Text.f a1 a2).bind fun bt141 => ((some (([(⟨t136, t137, t138⟩ : S30), (⟨bt141.1, bt141.2.1, bt141.2.2⟩ : S30)] : List (S30)) : List (S30))).bind fun y144 => ((cue_marks.f a3).bind fun t147 => (if y144.length + t147.length < 3518437208883 then (some ((y144 ++ t147), true)) else (none)))))) else (if t140 = 2 then (if (a2.size : Int) < 2 then (cue_row_value.j0 k a1 a2 a3 true t136 t137 t138) else (if 0 < (a2.size : Int) then (if (bt a2 0) = 34 then (if 0 ≤ (wrap64 ((a2.size : Int) - 1)) then (if (wrap64 ((a2.size : Int) - 1)) < (a2.size : Int) then (cue_row_value.j0 k a1 a2 a3 ((bt a2 (wrap64 ((a2.size : Int) - 1))) != 34) t136 t137 t138) else (none)) else (none)) else (cue_row_value.j0 k a1 a2 a3 true t136 t137 t138)) else (none))) else (cue_row_value.j0 k a1 a2 a3 true t136 t137 t138))) = some (r1, r2) := H
  have A6 := Aside0.mk A60
  clear A60
  by_cases c7 : t140 = 0
  · rw [if_pos c7] at H
    have c7b0 : (t140 == 0) = true := beq_iff_eq.mpr c7
    have c7b1 : (t140 != 0) = false := bne_eq_false_iff_eq.mpr c7
    clear c7
    by_cases c8 : a2.toList = ([] : List UInt8)
    · rw [if_pos c8] at H
      have c8b0 : (a2.toList == ([] : List UInt8)) = true := beq_iff_eq.mpr c8
      have c8b1 : (a2.toList != ([] : List UInt8)) = false := bne_eq_false_iff_eq.mpr c8
      clear c8
      simp only [Option.some.injEq, Prod.mk.injEq] at H
      obtain ⟨rfl, rfl⟩ := H
      go_enter Tryd.func44, Tryd.ntmps44
      go_wp2_with (first | ((with_reducible refine gate_dst (N := 4) rfl ?_); (try (refine gate_guard (by rfl) ?_; dsimp only)); refine box_event ?hg (N := 4) ?hd (cs := #[.string a0_0, .string a0_1, .string a0_2]) (t := 67) ?hr ?_; (case hd => rfl); (case hg => rfl); (case hr => first | (go_simp; done) | (go_simp; rfl)); intro gb132 hg w9 hbox hb; have n0_ := Aside0.mk (below_step q_1 hb); have n1_ := Aside0.mk (hbox); have n2_ := Aside0.mk ((by rw [hg]; exact (below_size q_1) : w.heap.size ≤ gb132)); have n3_ := Aside0.mk ((by rw [hg]; exact (below_size q_1) : w.heap.size ≤ gb132)); clear HB; have HB := n0_; have BK132 := n1_; have GW132 := n2_; have GE132 := n3_; clear n0_ n1_ n2_ n3_; clear hb hbox hg; obtain ⟨hcz10_0, hcz10_1, hcz10_2, hfz10_0, hfz10_1, hfz10_2⟩ := cells3_ BK132.out) | ((with_reducible refine gate_dst (N := 16) rfl ?_); (try (refine gate_guard (by rfl) ?_; dsimp only)); refine Kd.R_lit Kd.string _ 9 ?hg (N := 16) ?hd (xs := ([a0_0, a0_1, (⟨#[32]⟩ : ByteArray)] : List ByteArray)) (inner := [.string a0_0, .string a0_1, .string (⟨#[32]⟩ : ByteArray)]) (ok := fun _ => True) (okp := fun _ => True) ?hr ?hp (fun _ hk => hk) trivial (Below.refl _ _) (Nat.le_refl _) (by simp) ?_; (case hd => rfl); (case hg => rfl); (case hr => first | (go_simp; done) | (go_simp; rfl)); (case hp => exact (Reps.one (show Kd.M Kd.string _ _ _ a0_0 [.string a0_0] from rfl) (Reps.one (show Kd.M Kd.string _ _ _ a0_1 [.string a0_1] from rfl) (Reps.one (show Kd.M Kd.string _ _ _ (⟨#[32]⟩ : ByteArray) [.string (⟨#[32]⟩ : ByteArray)] from rfl) (Reps.none _ _))))); intro v134 w11 ho12 hb hg_ hnew_; clear hg_ hnew_; (first | rw [← Ny133.out] at ho12 | (simp only [Int.reduceToNat] at ho12; rw [← Ny133.out] at ho12)); have n0_ := Aside0.mk (Kd.R_lower ho12 (below_size q_12)); have n1_ := Aside0.mk (blk_below (g := gb132) (o := .cells #[.string a0_0, .string a0_1, .string a0_2] 67 (0, 0)) q_13 hb); have n2_ := Aside0.mk (below_step q_12 hb); clear BK132; clear HB; have HO135 := n0_; have BK132 := n1_; have HB := n2_; clear n0_ n1_ n2_; clear hb ho12; obtain ⟨Ao13, co13, eo13⟩ := Kd.R_slice HO135.out; subst eo13) | ((with_reducible refine gate_callee (f := 40) rfl ?_); refine goesL_ (some 17) rfl rfl Tryd.func40 (by kernel_rfl) rfl #[.slice Ao13 y133.length co13] rfl q_2 ?_; (with_reducible refine (line_Mark.calls _ _ y133 t136 t137 t138 _ ?side1 ?side2 A5.out).mono ?_); (case side1 => repeat (first | exact (Kd.R_reads' HO135.out).2.2 | (with_reducible refine Kd.C_alloc ?_ _) | (with_reducible refine Kd.C_drewN ?_ _) | (with_reducible refine Kd.C_drew ?_))); (case side2 => exact (Kd.R_reads' HO135.out).2.1); rintro e w14 ⟨rfl, hb⟩; refine ⟨_, rfl, ?_⟩; have n0_ := Aside0.mk (Kd.R_below q_14 hb); have n1_ := Aside0.mk (blk_below (g := gb132) (o := .cells #[.string a0_0, .string a0_1, .string a0_2] 67 (0, 0)) q_13 hb); have n2_ := Aside0.mk (below_step q_12 hb); clear HO135; clear BK132; clear HB; have HO135 := n0_; have BK132 := n1_; have HB := n2_; clear n0_ n1_ n2_; (try clear hb); (try clear hb2); (try clear hk); (try clear hi)) | ((with_reducible refine gate_dst (N := 10) rfl ?_); (try (refine gate_guard (by rfl) ?_; dsimp only)); refine box_event ?hg (N := 10) ?hd (cs := #[.bool false, .string (⟨#[]⟩ : ByteArray), .string (⟨#[]⟩ : ByteArray)]) (t := 30) ?hr ?_; (case hd => rfl); (case hg => rfl); (case hr => first | (go_simp; done) | (go_simp; rfl)); intro gb139 hg w15 hbox hb; have n0_ := Aside0.mk (Kd.R_below q_14 hb); have n1_ := Aside0.mk (blk_below (g := gb132) (o := .cells #[.string a0_0, .string a0_1, .string a0_2] 67 (0, 0)) q_13 hb); have n2_ := Aside0.mk (below_step q_12 hb); have n3_ := Aside0.mk (hbox); have n4_ := Aside0.mk ((by rw [hg]; exact (below_size q_12) : w.heap.size ≤ gb139)); have n5_ := Aside0.mk ((by rw [hg]; exact (below_size q_12) : w.heap.size ≤ gb139)); have n6_ := Aside0.mk ((q_104 : gb132 ≠ gb139)); have n7_ := Aside0.mk ((q_105 : gb139 ≠ gb132)); clear HO135; clear BK132; clear HB; have HO135 := n0_; have BK132 := n1_; have HB := n2_; have BK139 := n3_; have GW139 := n4_; have GE139 := n5_; have NB132_139 := n6_; have NB139_132 := n7_; clear n0_ n1_ n2_ n3_ n4_ n5_ n6_ n7_; clear hb hbox hg; have hnb16 := NB139_132.out; have hnc16 := NB132_139.out; obtain ⟨hcz17_0, hcz17_1, hcz17_2, hfz17_0, hfz17_1, hfz17_2⟩ := cells3_ BK139.out) | ((with_reducible refine gate_callee (f := 61) rfl ?_); refine goesL_ (some 19) rfl rfl Tryd.func61 (by kernel_rfl) rfl #[.string a2, .string (⟨#[34]⟩ : ByteArray)] rfl q_2 ?_; (with_reducible refine (strings_Count.calls a2 (⟨#[34]⟩ : ByteArray) t140 _ A6.out).mono ?_); rintro e w' ⟨rfl, ⟨nd, rfl⟩⟩; refine ⟨_, rfl, ?_⟩))
      go_ret2
      exact ⟨_, q_10, q_11, q_16⟩
    · rw [if_neg c8] at H
      have c8b0 : (a2.toList == ([] : List UInt8)) = false := beq_eq_false_iff_ne.mpr c8
      have c8b1 : (a2.toList != ([] : List UInt8)) = true := bne_iff_ne.mpr c8
      replace H := Option.bind_eq_some_iff.mp H
      obtain ⟨⟨t141, t142, t143⟩, A180, H⟩ := H
      replace H : ((some (([(⟨t136, t137, t138⟩ : S30), (⟨t141, t142, t143⟩ : S30)] : List (S30)) : List (S30))).bind fun y144 => ((cue_marks.f a3).bind fun t147 => (if y144.length + t147.length < 3518437208883 then (some ((y144 ++ t147), true)) else (none)))) = some (r1, r2) := H
      have A18 := Aside0.mk A180
      clear A180
      obtain ⟨y144, hy144⟩ : ∃ y_ : List (S30), y_ = (([(⟨t136, t137, t138⟩ : S30), (⟨t141, t142, t143⟩ : S30)] : List (S30))) := ⟨_, rfl⟩
      replace H : ((cue_marks.f a3).bind fun t147 => (if y144.length + t147.length < 3518437208883 then (some ((y144 ++ t147), true)) else (none))) = some (r1, r2) := by first | (rw [hy144]; with_reducible exact H) | (have H2_ := (Option.bind_some _ _).symm.trans H; rw [hy144]; with_reducible exact H2_) | (have H2_ := (Option.bind_some _ _).symm.trans H; with_reducible exact H2_) | with_reducible exact H | (rw [hy144]; exact H) | exact H
      have Ny144 := Aside0.mk hy144
      clear hy144
      replace H := Option.bind_eq_some_iff.mp H
      obtain ⟨t147, A190, H⟩ := H
      replace H : (if y144.length + t147.length < 3518437208883 then (some ((y144 ++ t147), true)) else (none)) = some (r1, r2) := H
      have A19 := Aside0.mk A190
      clear A190
      by_cases c20 : y144.length + t147.length < 3518437208883
      · rw [if_pos c20] at H
        have LMc20 := Aside0.mk c20
        clear c20
        obtain ⟨y150, hy150⟩ : ∃ y_ : List (S30), y_ = (y144 ++ t147) := ⟨_, rfl⟩
        replace H : (some (y150, true)) = some (r1, r2) := by first | (rw [hy150]; with_reducible exact H) | (have H2_ := (Option.bind_some _ _).symm.trans H; rw [hy150]; with_reducible exact H2_) | (have H2_ := (Option.bind_some _ _).symm.trans H; with_reducible exact H2_) | with_reducible exact H | (rw [hy150]; exact H) | exact H
        have Ny150 := Aside0.mk hy150
        clear hy150
        simp only [Option.some.injEq, Prod.mk.injEq] at H
        obtain ⟨rfl, rfl⟩ := H
        go_enter Tryd.func44, Tryd.ntmps44
        try go_wp2_with (first | ((with_reducible refine gate_dst (N := 4) rfl ?_); (try (refine gate_guard (by rfl) ?_; dsimp only)); refine box_event ?hg (N := 4) ?hd (cs := #[.string a0_0, .string a0_1, .string a0_2]) (t := 67) ?hr ?_; (case hd => rfl); (case hg => rfl); (case hr => first | (go_simp; done) | (go_simp; rfl)); intro gb132 hg w21 hbox hb; have n0_ := Aside0.mk (below_step q_1 hb); have n1_ := Aside0.mk (hbox); have n2_ := Aside0.mk ((by rw [hg]; exact (below_size q_1) : w.heap.size ≤ gb132)); have n3_ := Aside0.mk ((by rw [hg]; exact (below_size q_1) : w.heap.size ≤ gb132)); clear HB; have HB := n0_; have BK132 := n1_; have GW132 := n2_; have GE132 := n3_; clear n0_ n1_ n2_ n3_; clear hb hbox hg; obtain ⟨hcz22_0, hcz22_1, hcz22_2, hfz22_0, hfz22_1, hfz22_2⟩ := cells3_ BK132.out) | ((with_reducible refine gate_dst (N := 16) rfl ?_); (try (refine gate_guard (by rfl) ?_; dsimp only)); refine Kd.R_lit Kd.string _ 9 ?hg (N := 16) ?hd (xs := ([a0_0, a0_1, (⟨#[32]⟩ : ByteArray)] : List ByteArray)) (inner := [.string a0_0, .string a0_1, .string (⟨#[32]⟩ : ByteArray)]) (ok := fun _ => True) (okp := fun _ => True) ?hr ?hp (fun _ hk => hk) trivial (Below.refl _ _) (Nat.le_refl _) (by simp) ?_; (case hd => rfl); (case hg => rfl); (case hr => first | (go_simp; done) | (go_simp; rfl)); (case hp => exact (Reps.one (show Kd.M Kd.string _ _ _ a0_0 [.string a0_0] from rfl) (Reps.one (show Kd.M Kd.string _ _ _ a0_1 [.string a0_1] from rfl) (Reps.one (show Kd.M Kd.string _ _ _ (⟨#[32]⟩ : ByteArray) [.string (⟨#[32]⟩ : ByteArray)] from rfl) (Reps.none _ _))))); intro v134 w23 ho24 hb hg_ hnew_; clear hg_ hnew_; (first | rw [← Ny133.out] at ho24 | (simp only [Int.reduceToNat] at ho24; rw [← Ny133.out] at ho24)); have n0_ := Aside0.mk (Kd.R_lower ho24 (below_size q_12)); have n1_ := Aside0.mk (blk_below (g := gb132) (o := .cells #[.string a0_0, .string a0_1, .string a0_2] 67 (0, 0)) q_13 hb); have n2_ := Aside0.mk (below_step q_12 hb); clear BK132; clear HB; have HO135 := n0_; have BK132 := n1_; have HB := n2_; clear n0_ n1_ n2_; clear hb ho24; obtain ⟨Ao25, co25, eo25⟩ := Kd.R_slice HO135.out; subst eo25) | ((with_reducible refine gate_callee (f := 40) rfl ?_); refine goesL_ (some 17) rfl rfl Tryd.func40 (by kernel_rfl) rfl #[.slice Ao25 y133.length co25] rfl q_2 ?_; (with_reducible refine (line_Mark.calls _ _ y133 t136 t137 t138 _ ?side1 ?side2 A5.out).mono ?_); (case side1 => repeat (first | exact (Kd.R_reads' HO135.out).2.2 | (with_reducible refine Kd.C_alloc ?_ _) | (with_reducible refine Kd.C_drewN ?_ _) | (with_reducible refine Kd.C_drew ?_))); (case side2 => exact (Kd.R_reads' HO135.out).2.1); rintro e w26 ⟨rfl, hb⟩; refine ⟨_, rfl, ?_⟩; have n0_ := Aside0.mk (Kd.R_below q_14 hb); have n1_ := Aside0.mk (blk_below (g := gb132) (o := .cells #[.string a0_0, .string a0_1, .string a0_2] 67 (0, 0)) q_13 hb); have n2_ := Aside0.mk (below_step q_12 hb); clear HO135; clear BK132; clear HB; have HO135 := n0_; have BK132 := n1_; have HB := n2_; clear n0_ n1_ n2_; (try clear hb); (try clear hb2); (try clear hk); (try clear hi)) | ((with_reducible refine gate_dst (N := 10) rfl ?_); (try (refine gate_guard (by rfl) ?_; dsimp only)); refine box_event ?hg (N := 10) ?hd (cs := #[.bool false, .string (⟨#[]⟩ : ByteArray), .string (⟨#[]⟩ : ByteArray)]) (t := 30) ?hr ?_; (case hd => rfl); (case hg => rfl); (case hr => first | (go_simp; done) | (go_simp; rfl)); intro gb139 hg w27 hbox hb; have n0_ := Aside0.mk (Kd.R_below q_14 hb); have n1_ := Aside0.mk (blk_below (g := gb132) (o := .cells #[.string a0_0, .string a0_1, .string a0_2] 67 (0, 0)) q_13 hb); have n2_ := Aside0.mk (below_step q_12 hb); have n3_ := Aside0.mk (hbox); have n4_ := Aside0.mk ((by rw [hg]; exact (below_size q_12) : w.heap.size ≤ gb139)); have n5_ := Aside0.mk ((by rw [hg]; exact (below_size q_12) : w.heap.size ≤ gb139)); have n6_ := Aside0.mk ((q_104 : gb132 ≠ gb139)); have n7_ := Aside0.mk ((q_105 : gb139 ≠ gb132)); clear HO135; clear BK132; clear HB; have HO135 := n0_; have BK132 := n1_; have HB := n2_; have BK139 := n3_; have GW139 := n4_; have GE139 := n5_; have NB132_139 := n6_; have NB139_132 := n7_; clear n0_ n1_ n2_ n3_ n4_ n5_ n6_ n7_; clear hb hbox hg; have hnb28 := NB139_132.out; have hnc28 := NB132_139.out; obtain ⟨hcz29_0, hcz29_1, hcz29_2, hfz29_0, hfz29_1, hfz29_2⟩ := cells3_ BK139.out) | ((with_reducible refine gate_callee (f := 61) rfl ?_); refine goesL_ (some 19) rfl rfl Tryd.func61 (by kernel_rfl) rfl #[.string a2, .string (⟨#[34]⟩ : ByteArray)] rfl q_2 ?_; (with_reducible refine (strings_Count.calls a2 (⟨#[34]⟩ : ByteArray) t140 _ A6.out).mono ?_); rintro e w' ⟨rfl, ⟨nd, rfl⟩⟩; refine ⟨_, rfl, ?_⟩))
        have n0_ : Aside0 (Kd.R Kd.string 9 (((w27.setCell ⟨gb139, 0, none⟩ (.bool t136)).setCell ⟨gb139, 1, none⟩ (.string t137)).setCell ⟨gb139, 2, none⟩ (.string t138)) w.heap.size (fun _ => True) (.slice Ao25 y133.length co25) y133) := ⟨by (with_reducible repeat (first | apply Kd.R_alloc | apply Kd.R_drewN | apply Kd.R_drew)); exact Kd.R_mono (Kd.R_far (p := ⟨gb139, 2, none⟩) (Kd.R_far (p := ⟨gb139, 1, none⟩) (Kd.R_far (p := ⟨gb139, 0, none⟩) (Kd.R_types HO135.out BK139.out (by decide)) (fun _ hk => hk.2) (.bool t136)) (fun _ hk => hk.2) (.string t137)) (fun _ hk => hk.2) (.string t138)) (fun _ hk => trivial)⟩
        have n1_ : Aside0 ((((w27.setCell ⟨gb139, 0, none⟩ (.bool t136)).setCell ⟨gb139, 1, none⟩ (.string t137)).setCell ⟨gb139, 2, none⟩ (.string t138)).heap[gb132]? = some (.cells #[.string a0_0, .string a0_1, .string a0_2] 67 (0, 0))) := ⟨q_20⟩
        have n2_ : Aside0 ((((w27.setCell ⟨gb139, 0, none⟩ (.bool t136)).setCell ⟨gb139, 1, none⟩ (.string t137)).setCell ⟨gb139, 2, none⟩ (.string t138)).heap[gb139]? = some (.cells #[.bool t136, .string t137, .string t138] 30 (0, 0))) := ⟨q_21⟩
        have n3_ : Aside0 (Below w.heap.size w (((w27.setCell ⟨gb139, 0, none⟩ (.bool t136)).setCell ⟨gb139, 1, none⟩ (.string t137)).setCell ⟨gb139, 2, none⟩ (.string t138))) := ⟨q_16⟩
        (try clear HO135)
        (try clear BK132)
        (try clear BK139)
        (try clear HB)
        generalize (((w27.setCell ⟨gb139, 0, none⟩ (.bool t136)).setCell ⟨gb139, 1, none⟩ (.string t137)).setCell ⟨gb139, 2, none⟩ (.string t138)) = w30 at n0_ n1_ n2_ n3_ ⊢
        have HO135 := n0_
        have BK132 := n1_
        have BK139 := n2_
        have HB := n3_
        clear n0_ n1_ n2_ n3_
        (try (rw [drewN_self w30]; generalize hq_ : World.drewN w30 _ = w30; have n0_ : Aside0 (Kd.R Kd.string 9 w30 w.heap.size (fun _ => True) (.slice Ao25 y133.length co25) y133) := ⟨by rw [← hq_]; exact q_14⟩; have n1_ : Aside0 (w30.heap[gb132]? = some (.cells #[.string a0_0, .string a0_1, .string a0_2] 67 (0, 0))) := ⟨by rw [← hq_]; exact q_13⟩; have n2_ : Aside0 (w30.heap[gb139]? = some (.cells #[.bool t136, .string t137, .string t138] 30 (0, 0))) := ⟨by rw [← hq_]; exact q_15⟩; have n3_ : Aside0 (Below w.heap.size w w30) := ⟨by rw [← hq_]; exact q_16⟩; clear HO135 BK132 BK139 HB hq_; have HO135 := n0_; have BK132 := n1_; have BK139 := n2_; have HB := n3_; clear n0_ n1_ n2_ n3_))
        have n0_ := Aside0.mk (Kd.R_drew HO135.out)
        have n1_ := Aside0.mk (blk_drew BK132.out)
        have n2_ := Aside0.mk (blk_drew BK139.out)
        have n3_ := Aside0.mk (below_drew1 HB.out)
        clear HO135
        clear BK132
        clear BK139
        clear HB
        have HO135 := n0_
        have BK132 := n1_
        have BK139 := n2_
        have HB := n3_
        clear n0_ n1_ n2_ n3_
        refine start_ (n := 10) (S := fun w' => w'.cell? ⟨gb139, 0, none⟩ = some (.bool t136) ∧ w'.cell? ⟨gb139, 1, none⟩ = some (.string t137) ∧ w'.cell? ⟨gb139, 2, none⟩ = some (.string t138)) (ds := []) #[false, false, false, false, false, false, false, false, false, false] (by kernel_rfl) rfl rfl ⟨(blk_cell BK139.out 0).trans rfl, (blk_cell BK139.out 1).trans rfl, (blk_cell BK139.out 2).trans rfl⟩ (fun hHeld => ?_); refine with_tabW cue_row_value.tab6 cue_row_value.bits6 (fun HT_ HW_ => ?_)
        generalize w30.drew = w31 at HO135 BK132 BK139 HB hHeld ⊢
        refine pure_ (i := 1) (N := some 26) (v := ?_) (a' := ?_) #[false, true, false, false, false, false, false, false, false, false] rfl rfl (any_of HT_.out (by kernel_rfl)) (fun _ _ _ h => h) (Or.inl ⟨by rfl, ?_⟩) ?_ ?_
        rotate_left
        · intro w'
          go_simp
          with_reducible rfl
        rotate_left
        · simp only [Act.put, List.setIfInBounds_toArray, List.set_cons_zero, List.set_cons_succ, i64_w, i32_w]
          rfl
        refine pure_ (i := 2) (N := some 27) (v := ?_) (a' := ?_) #[false, true, true, false, false, false, false, false, false, false] rfl rfl (any_of HT_.out (by kernel_rfl)) (fun _ _ _ h => h) (Or.inl ⟨by rfl, ?_⟩) ?_ ?_
        rotate_left
        · intro w'
          go_simp
          with_reducible rfl
        rotate_left
        · simp only [Act.put, List.setIfInBounds_toArray, List.set_cons_zero, List.set_cons_succ, i64_w, i32_w]
          rfl
        refine pure_ (i := 5) (N := some 30) (v := ?_) (a' := ?_) #[false, true, true, false, false, true, false, false, false, false] rfl rfl (any_of HT_.out (by kernel_rfl)) (fun _ _ _ h => h) (Or.inl ⟨by rfl, ?_⟩) ?_ ?_
        rotate_left
        · intro w'
          go_simp
          with_reducible rfl
        rotate_left
        · simp only [Act.put, List.setIfInBounds_toArray, List.set_cons_zero, List.set_cons_succ, i64_w, i32_w]
          rfl
        refine take_ (i := 0) (N := some 25) (v := ?_) (a' := ?_) #[true, true, true, false, false, true, false, false, false, false] rfl rfl (take_ofW HT_.out HW_.out (by kernel_rfl)) (fun _ _ _ h => h) (Or.inl ⟨by rfl, ?_⟩) hHeld ?_ ?_
        rotate_left
        · rintro w' ⟨s0, s1, s2⟩
          go_simp
          with_reducible rfl
        rotate_left
        · simp only [Act.put, List.setIfInBounds_toArray, List.set_cons_zero, List.set_cons_succ, i64_w, i32_w]
          rfl
        refine one_ (i := 3) (N := some 28) #[true, true, true, true, false, true, false, false, false, false] rfl rfl (one_of HT_.out (by kernel_rfl)) (by decide) (fun K hK => ?_)
        refine goes_ Tryd.func24 (by kernel_rfl) rfl #[.string a1, .string a2] (by rfl) rfl rfl q_2 ?_
        with_reducible refine (line_Text.calls a1 a2 t141 t142 t143 _ A18.out).mono ?_
        rintro e w32 ⟨rfl, hb⟩
        refine ⟨_, rfl, ?_⟩
        have n0_ := Aside0.mk (Kd.R_below q_14 hb)
        have n1_ := Aside0.mk (blk_below (g := gb132) (o := .cells #[.string a0_0, .string a0_1, .string a0_2] 67 (0, 0)) q_13 hb)
        have n2_ := Aside0.mk (blk_below (g := gb139) (o := .cells #[.bool t136, .string t137, .string t138] 30 (0, 0)) q_15 hb)
        have n3_ := Aside0.mk (below_step q_16 hb)
        clear HO135
        clear BK132
        clear BK139
        clear HB
        have HO135 := n0_
        have BK132 := n1_
        have BK139 := n2_
        have HB := n3_
        clear n0_ n1_ n2_ n3_
        (try clear hb)
        (try clear hb2)
        (try clear hk)
        (try clear hi)
        refine hK.out _ _ ⟨(blk_cell BK139.out 0).trans rfl, (blk_cell BK139.out 1).trans rfl, (blk_cell BK139.out 2).trans rfl⟩ (fun hHeld => ?_)
        clear hK K
        refine norm_ (a' := ?_) ?_ ?_
        rotate_left
        · show Act.put _ (some 28) _ = _
          simp only [Act.put, List.setIfInBounds_toArray, List.set_cons_zero, List.set_cons_succ, i64_w, i32_w]
          rfl
        refine join_ (σ := Value × Value) 3 #[true, true, true, true, true, true, true, false, false, false] (fun s_ => [(29, s_.1), (31, s_.2)]) (fun s_ w' => (w'.cell? ⟨gb139, 0, none⟩ = some (.bool t136) ∧ w'.cell? ⟨gb139, 1, none⟩ = some (.string t137) ∧ w'.cell? ⟨gb139, 2, none⟩ = some (.string t138)) ∧ (Kd.R Kd.string 9 w' w.heap.size (fun _ => True) (.slice Ao25 y133.length co25) y133) ∧ (Kd.R k30 30 w' w.heap.size (fun k_ => some k_ ≠ (s_.2 : Value).ownBlock ∧ k_ ≠ gb139) s_.1 y144) ∧ (Kd.R k30 30 w' w.heap.size (fun k_ => some k_ ≠ (s_.1 : Value).ownBlock ∧ k_ ≠ gb139) s_.2 t147) ∧ (w'.heap[gb132]? = some (.cells #[.string a0_0, .string a0_1, .string a0_2] 67 (0, 0))) ∧ (w'.heap[gb139]? = some (.cells #[.bool t136, .string t137, .string t138] 30 (0, 0))) ∧ (Below w.heap.size w w')) ?_ ?_
        rotate_left
        · intro hCont
          refine two_ (i := 4) (j := 6) (Ni := some 29) (Nj := some 31) #[true, true, true, true, true, true, false, false, false, false] #[true, true, true, true, false, true, true, false, false, false] rfl rfl rfl rfl (two_of HT_.out (by kernel_rfl)) (by decide) (by decide) (fun K hK => ?_) (fun K hK => ?_)
          · skip
            refine Kd.R_lit_step k30 _ 30 ?hg (N := 29) ?hd (xs := ([(⟨t136, t137, t138⟩ : S30), (⟨t141, t142, t143⟩ : S30)] : List (S30))) (inner := [.bool t136, .string t137, .string t138, .bool t141, .string t142, .string t143]) (ok := fun _ => True) (okp := fun _ => True) ?hr ?hp (fun _ hk => hk) trivial (Below.refl _ _) (Nat.le_refl _) (by simp) ?_; (case hd => rfl); (case hg => rfl); (case hr => first | (go_simp; done) | (go_simp; rfl)); (case hp => exact (Reps.c3 (show Kd.M k30 _ _ _ (⟨t136, t137, t138⟩ : S30) [.bool t136, .string t137, .string t138] from (k30_mkM _ _ _ (⟨t136, t137, t138⟩ : S30) )) (Reps.c3 (show Kd.M k30 _ _ _ (⟨t141, t142, t143⟩ : S30) [.bool t141, .string t142, .string t143] from (k30_mkM _ _ _ (⟨t141, t142, t143⟩ : S30) )) (Reps.none _ _))))
            intro v145 w33 ho34 hb hg_ hnew_
            clear hg_ hnew_
            (first | rw [← Ny144.out] at ho34 | (simp only [Int.reduceToNat] at ho34; rw [← Ny144.out] at ho34))
            have n0_ := Aside0.mk (Kd.R_below q_14 hb)
            have n1_ := Aside0.mk (Kd.R_lower (Kd.R_newB ho34 (g := gb139) (o := .cells #[.bool t136, .string t137, .string t138] 30 (0, 0)) q_15) (below_size q_16))
            have n2_ := Aside0.mk (blk_below (g := gb132) (o := .cells #[.string a0_0, .string a0_1, .string a0_2] 67 (0, 0)) q_13 hb)
            have n3_ := Aside0.mk (blk_below (g := gb139) (o := .cells #[.bool t136, .string t137, .string t138] 30 (0, 0)) q_15 hb)
            have n4_ := Aside0.mk (below_step q_16 hb)
            clear HO135
            clear BK132
            clear BK139
            clear HB
            have HO135 := n0_
            have HO146 := n1_
            have BK132 := n2_
            have BK139 := n3_
            have HB := n4_
            clear n0_ n1_ n2_ n3_ n4_
            clear hb ho34
            refine hK.out _ _ ⟨(blk_cell BK139.out 0).trans rfl, (blk_cell BK139.out 1).trans rfl, (blk_cell BK139.out 2).trans rfl⟩ (fun hHeld => ?_)
            clear hK K
            refine norm_ (a' := ?_) ?_ ?_
            rotate_left
            · show Act.put _ (some 29) _ = _
              simp only [Act.put, List.setIfInBounds_toArray, List.set_cons_zero, List.set_cons_succ, i64_w, i32_w]
              rfl
            refine one_ (i := 6) (N := some 31) #[true, true, true, true, true, true, true, false, false, false] rfl rfl (one_of HT_.out (by kernel_rfl)) (by decide) (fun K hK => ?_)
            refine goes_ Tryd.func42 (by kernel_rfl) rfl #[.string a3] (by rfl) rfl rfl q_2 ?_
            with_reducible refine (cue_marks.calls a3 t147 _ A19.out).mono ?_
            rintro e w35 ⟨v148, rfl, ho0, hb⟩
            refine ⟨_, rfl, ?_⟩
            have n0_ := Aside0.mk (Kd.R_below q_14 hb)
            have n1_ := Aside0.mk (Kd.R_elder' q_17 (Kd.R_base ho0) hb)
            have n2_ := Aside0.mk (Kd.R_lower (Kd.R_newB (Kd.R_new' ho0 (Kd.R_lt q_17)) (g := gb139) (o := .cells #[.bool t136, .string t137, .string t138] 30 (0, 0)) q_15) (below_size q_16))
            have n3_ := Aside0.mk (blk_below (g := gb132) (o := .cells #[.string a0_0, .string a0_1, .string a0_2] 67 (0, 0)) q_13 hb)
            have n4_ := Aside0.mk (blk_below (g := gb139) (o := .cells #[.bool t136, .string t137, .string t138] 30 (0, 0)) q_15 hb)
            have n5_ := Aside0.mk (below_step q_16 hb)
            clear HO135
            clear HO146
            clear BK132
            clear BK139
            clear HB
            have HO135 := n0_
            have HO146 := n1_
            have HO149 := n2_
            have BK132 := n3_
            have BK139 := n4_
            have HB := n5_
            clear n0_ n1_ n2_ n3_ n4_ n5_
            (try clear hb)
            (try clear hb2)
            (try clear hk)
            (try clear hi)
            (try clear ho0)
            refine hK.out _ _ ⟨(blk_cell BK139.out 0).trans rfl, (blk_cell BK139.out 1).trans rfl, (blk_cell BK139.out 2).trans rfl⟩ (fun hHeld => ?_)
            clear hK K
            refine norm_ (a' := ?_) ?_ ?_
            rotate_left
            · show Act.put _ (some 31) _ = _
              simp only [Act.put, List.setIfInBounds_toArray, List.set_cons_zero, List.set_cons_succ, i64_w, i32_w]
              rfl
            exact norm_ (by simp only [putAll, Act.put, List.setIfInBounds_toArray, List.set_cons_zero, List.set_cons_succ]) (hCont (v145, v148) _ ⟨hHeld, q_14, (by (with_reducible repeat (first | apply Kd.R_alloc | apply Kd.R_drewN | apply Kd.R_drew)); exact Kd.R_mono HO146.out (fun _ hk => ⟨hk.2, hk.1.2⟩)), (by (with_reducible repeat (first | apply Kd.R_alloc | apply Kd.R_drewN | apply Kd.R_drew)); exact Kd.R_mono HO149.out (fun _ hk => ⟨hk.1.2, hk.2⟩)), q_13, q_15, q_16⟩)
          · skip
            refine goes_ Tryd.func42 (by kernel_rfl) rfl #[.string a3] (by rfl) rfl rfl q_2 ?_
            with_reducible refine (cue_marks.calls a3 t147 _ A19.out).mono ?_
            rintro e w33 ⟨v148, rfl, ho0, hb⟩
            refine ⟨_, rfl, ?_⟩
            have n0_ := Aside0.mk (Kd.R_below q_14 hb)
            have n1_ := Aside0.mk (Kd.R_lower (Kd.R_newB ho0 (g := gb139) (o := .cells #[.bool t136, .string t137, .string t138] 30 (0, 0)) q_15) (below_size q_16))
            have n2_ := Aside0.mk (blk_below (g := gb132) (o := .cells #[.string a0_0, .string a0_1, .string a0_2] 67 (0, 0)) q_13 hb)
            have n3_ := Aside0.mk (blk_below (g := gb139) (o := .cells #[.bool t136, .string t137, .string t138] 30 (0, 0)) q_15 hb)
            have n4_ := Aside0.mk (below_step q_16 hb)
            clear HO135
            clear BK132
            clear BK139
            clear HB
            have HO135 := n0_
            have HO149 := n1_
            have BK132 := n2_
            have BK139 := n3_
            have HB := n4_
            clear n0_ n1_ n2_ n3_ n4_
            (try clear hb)
            (try clear hb2)
            (try clear hk)
            (try clear hi)
            (try clear ho0)
            refine hK.out _ _ ⟨(blk_cell BK139.out 0).trans rfl, (blk_cell BK139.out 1).trans rfl, (blk_cell BK139.out 2).trans rfl⟩ (fun hHeld => ?_)
            clear hK K
            refine norm_ (a' := ?_) ?_ ?_
            rotate_left
            · show Act.put _ (some 31) _ = _
              simp only [Act.put, List.setIfInBounds_toArray, List.set_cons_zero, List.set_cons_succ, i64_w, i32_w]
              rfl
            refine one_ (i := 4) (N := some 29) #[true, true, true, true, true, true, true, false, false, false] rfl rfl (one_of HT_.out (by kernel_rfl)) (by decide) (fun K hK => ?_)
            refine Kd.R_lit_step k30 _ 30 ?hg (N := 29) ?hd (xs := ([(⟨t136, t137, t138⟩ : S30), (⟨t141, t142, t143⟩ : S30)] : List (S30))) (inner := [.bool t136, .string t137, .string t138, .bool t141, .string t142, .string t143]) (ok := fun _ => True) (okp := fun _ => True) ?hr ?hp (fun _ hk => hk) trivial (Below.refl _ _) (Nat.le_refl _) (by simp) ?_; (case hd => rfl); (case hg => rfl); (case hr => first | (go_simp; done) | (go_simp; rfl)); (case hp => exact (Reps.c3 (show Kd.M k30 _ _ _ (⟨t136, t137, t138⟩ : S30) [.bool t136, .string t137, .string t138] from (k30_mkM _ _ _ (⟨t136, t137, t138⟩ : S30) )) (Reps.c3 (show Kd.M k30 _ _ _ (⟨t141, t142, t143⟩ : S30) [.bool t141, .string t142, .string t143] from (k30_mkM _ _ _ (⟨t141, t142, t143⟩ : S30) )) (Reps.none _ _))))
            intro v145 w34 ho35 hb hg_ hnew_
            clear hg_ hnew_
            (first | rw [← Ny144.out] at ho35 | (simp only [Int.reduceToNat] at ho35; rw [← Ny144.out] at ho35))
            have n0_ := Aside0.mk (Kd.R_below q_14 hb)
            have n1_ := Aside0.mk (Kd.R_elder' q_18 (Kd.R_base ho35) hb)
            have n2_ := Aside0.mk (Kd.R_lower (Kd.R_newB (Kd.R_new' ho35 (Kd.R_lt q_18)) (g := gb139) (o := .cells #[.bool t136, .string t137, .string t138] 30 (0, 0)) q_15) (below_size q_16))
            have n3_ := Aside0.mk (blk_below (g := gb132) (o := .cells #[.string a0_0, .string a0_1, .string a0_2] 67 (0, 0)) q_13 hb)
            have n4_ := Aside0.mk (blk_below (g := gb139) (o := .cells #[.bool t136, .string t137, .string t138] 30 (0, 0)) q_15 hb)
            have n5_ := Aside0.mk (below_step q_16 hb)
            clear HO135
            clear HO149
            clear BK132
            clear BK139
            clear HB
            have HO135 := n0_
            have HO149 := n1_
            have HO146 := n2_
            have BK132 := n3_
            have BK139 := n4_
            have HB := n5_
            clear n0_ n1_ n2_ n3_ n4_ n5_
            clear hb ho35
            refine hK.out _ _ ⟨(blk_cell BK139.out 0).trans rfl, (blk_cell BK139.out 1).trans rfl, (blk_cell BK139.out 2).trans rfl⟩ (fun hHeld => ?_)
            clear hK K
            refine norm_ (a' := ?_) ?_ ?_
            rotate_left
            · show Act.put _ (some 29) _ = _
              simp only [Act.put, List.setIfInBounds_toArray, List.set_cons_zero, List.set_cons_succ, i64_w, i32_w]
              rfl
            exact norm_ (by simp only [putAll, Act.put, List.setIfInBounds_toArray, List.set_cons_zero, List.set_cons_succ]) (hCont (v145, v148) _ ⟨hHeld, q_14, (by (with_reducible repeat (first | apply Kd.R_alloc | apply Kd.R_drewN | apply Kd.R_drew)); exact Kd.R_mono HO146.out (fun _ hk => ⟨hk.1.2, hk.2⟩)), (by (with_reducible repeat (first | apply Kd.R_alloc | apply Kd.R_drewN | apply Kd.R_drew)); exact Kd.R_mono HO149.out (fun _ hk => ⟨hk.2, hk.1.2⟩)), q_13, q_15, q_16⟩)
        rintro ⟨v145, v148⟩ w36 ⟨hS_, h0_, h1_, h2_, h3_, h4_, h5_⟩
        have n0_ : Aside0 (Kd.R Kd.string 9 w36 w.heap.size (fun _ => True) (.slice Ao25 y133.length co25) y133) := ⟨h0_⟩
        have n1_ : Aside0 (Kd.R k30 30 w36 w.heap.size (fun k_ => some k_ ≠ (v148 : Value).ownBlock ∧ k_ ≠ gb139) v145 y144) := ⟨h1_⟩
        have n2_ : Aside0 (Kd.R k30 30 w36 w.heap.size (fun k_ => some k_ ≠ (v145 : Value).ownBlock ∧ k_ ≠ gb139) v148 t147) := ⟨h2_⟩
        have n3_ : Aside0 (w36.heap[gb132]? = some (.cells #[.string a0_0, .string a0_1, .string a0_2] 67 (0, 0))) := ⟨h3_⟩
        have n4_ : Aside0 (w36.heap[gb139]? = some (.cells #[.bool t136, .string t137, .string t138] 30 (0, 0))) := ⟨h4_⟩
        have n5_ : Aside0 (Below w.heap.size w w36) := ⟨h5_⟩
        clear HO135
        clear BK132
        clear BK139
        clear HB
        clear h0_ h1_ h2_ h3_ h4_ h5_
        have HO135 := n0_
        have HO146 := n1_
        have HO149 := n2_
        have BK132 := n3_
        have BK139 := n4_
        have HB := n5_
        clear n0_ n1_ n2_ n3_ n4_ n5_
        have hHeld : w36.cell? ⟨gb139, 0, none⟩ = some (.bool t136) ∧ w36.cell? ⟨gb139, 1, none⟩ = some (.string t137) ∧ w36.cell? ⟨gb139, 2, none⟩ = some (.string t138) := hS_
        obtain ⟨Ao38, co38, eo38⟩ := Kd.R_slice HO149.out
        (first | subst eo38 | (injection eo38 with f1_ f2_ f3_; have f4_ := f1_.symm; have f5_ := f3_.symm; clear f1_ f2_ f3_; subst f4_; subst f5_))
        refine norm_ (a' := ?_) ?_ ?_
        rotate_left
        · simp only [putAll, Act.put, List.setIfInBounds_toArray, List.set_cons_zero, List.set_cons_succ]
          rfl
        refine one_ (i := 7) (N := some 32) #[true, true, true, true, true, true, true, true, false, false] rfl rfl (one_of HT_.out (by kernel_rfl)) (by decide) (fun K hK => ?_)
        refine Kd.R_append_rows_step k30 (w0 := w) w.heap.size (by rfl) (.tmp 29) (.tmp 31) 23 30 (.agg #[(.bool false), (.string ⟨#[]⟩), (.string ⟨#[]⟩)]) 40 rfl Tryd.underlying23 info30 rfl (by decide) (by omega) v145 y144 t147 _ _ _ (fun k_ => some k_ ≠ (.slice Ao38 t147.length co38 : Value).ownBlock ∧ k_ ≠ gb139) (fun _ => False) rfl rfl ?aO ?aR (fun _ _ h => h) (fun _ h => h.elim) ?aF ?aB ?aS ?aL ?_
        (case aR => repeat (first | exact (Kd.R_reads' HO149.out).2.2 | (with_reducible refine Kd.C_alloc ?_ _) | (with_reducible refine Kd.C_drewN ?_ _) | (with_reducible refine Kd.C_drew ?_)))
        (case aB => exact q_16)
        (case aF => exact (fun k_ hk => ⟨Kd.fresh' (Kd.R_lt q_18) k_ hk, Kd.freshB (g := gb139) (o := .cells #[.bool t136, .string t137, .string t138] 30 (0, 0)) q_15 k_ hk⟩))
        (case aO => exact q_17)
        (case aS => exact (below_size q_16))
        (case aL => have := LMc20.out; omega)
        intro v151 w37 ho hb hg hat
        rw [← Ny150.out] at ho
        have n0_ := Aside0.mk (blk_grown (g := gb132) (o := .cells #[.string a0_0, .string a0_1, .string a0_2] 67 (0, 0)) q_13 hg (Kd.R_ne HO146.out BK132.out (by decide)))
        have n1_ := Aside0.mk (Kd.R_over' q_14 (Kd.R_typed q_17) (by decide) hg)
        have n2_ := Aside0.mk (blk_grown (g := gb139) (o := .cells #[.bool t136, .string t137, .string t138] 30 (0, 0)) q_15 hg (Kd.R_away HO146.out (fun _ hk => hk.2)))
        have n3_ := Aside0.mk (Kd.R_after (ok := (fun k_ => k_ ≠ gb139)) (by (with_reducible repeat (first | apply Kd.R_alloc | apply Kd.R_drewN | apply Kd.R_drew)); exact Kd.R_mono HO149.out (fun _ hk => ⟨hk.2, hk.1⟩)) hg hat)
        have n4_ := Aside0.mk (hb)
        have n5_ := Aside0.mk (ho)
        clear BK132
        clear HO135
        clear BK139
        clear HO149
        clear HB
        clear HO146
        have BK132 := n0_
        have HO135 := n1_
        have BK139 := n2_
        have HO149 := n3_
        have HB := n4_
        have HO152 := n5_
        clear n0_ n1_ n2_ n3_ n4_ n5_
        clear ho hb hg hat
        refine hK.out _ _ ⟨(blk_cell BK139.out 0).trans rfl, (blk_cell BK139.out 1).trans rfl, (blk_cell BK139.out 2).trans rfl⟩ (fun hHeld => ?_)
        clear hK K
        refine norm_ (a' := ?_) ?_ ?_
        rotate_left
        · show Act.put _ (some 32) _ = _
          simp only [Act.put, List.setIfInBounds_toArray, List.set_cons_zero, List.set_cons_succ, i64_w, i32_w]
          rfl
        refine pure_ (i := 8) (N := some 8) (v := ?_) (a' := ?_) #[true, true, true, true, true, true, true, true, true, false] rfl rfl (any_of HT_.out (by kernel_rfl)) (fun _ _ _ h => h) (Or.inl ⟨by rfl, ?_⟩) ?_ ?_
        rotate_left
        · intro w'
          go_simp
          with_reducible rfl
        rotate_left
        · simp only [Act.put, List.setIfInBounds_toArray, List.set_cons_zero, List.set_cons_succ, i64_w, i32_w]
          rfl
        refine pure_ (i := 9) (N := some 9) (v := ?_) (a' := ?_) #[true, true, true, true, true, true, true, true, true, true] rfl rfl (any_of HT_.out (by kernel_rfl)) (fun _ _ _ h => h) (Or.inl ⟨by rfl, ?_⟩) ?_ ?_
        rotate_left
        · intro w'
          go_simp
          with_reducible rfl
        rotate_left
        · simp only [Act.put, List.setIfInBounds_toArray, List.set_cons_zero, List.set_cons_succ, i64_w, i32_w]
          rfl
        refine done_ (done_of HT_.out (by kernel_rfl)) ?_
        try go_wp2
        go_ret2
        exact ⟨_, q_10, by (with_reducible repeat (first | apply Kd.R_alloc | apply Kd.R_drewN | apply Kd.R_drew)); exact Kd.R_mono HO152.out (fun _ hk => trivial), q_16⟩
      · rw [if_neg c20] at H
        exact absurd H (by simp)
  · rw [if_neg c7] at H
    have c7b0 : (t140 == 0) = false := beq_eq_false_iff_ne.mpr c7
    have c7b1 : (t140 != 0) = true := bne_iff_ne.mpr c7
    have HC39 := Aside0.mk H
    clear H
    go_enter Tryd.func44, Tryd.ntmps44
    go_upto_region 7 with (first | ((with_reducible refine gate_dst (N := 4) rfl ?_); (try (refine gate_guard (by rfl) ?_; dsimp only)); refine box_event ?hg (N := 4) ?hd (cs := #[.string a0_0, .string a0_1, .string a0_2]) (t := 67) ?hr ?_; (case hd => rfl); (case hg => rfl); (case hr => first | (go_simp; done) | (go_simp; rfl)); intro gb132 hg w40 hbox hb; have n0_ := Aside0.mk (below_step q_1 hb); have n1_ := Aside0.mk (hbox); have n2_ := Aside0.mk ((by rw [hg]; exact (below_size q_1) : w.heap.size ≤ gb132)); have n3_ := Aside0.mk ((by rw [hg]; exact (below_size q_1) : w.heap.size ≤ gb132)); clear HB; have HB := n0_; have BK132 := n1_; have GW132 := n2_; have GE132 := n3_; clear n0_ n1_ n2_ n3_; clear hb hbox hg; obtain ⟨hcz41_0, hcz41_1, hcz41_2, hfz41_0, hfz41_1, hfz41_2⟩ := cells3_ BK132.out) | ((with_reducible refine gate_dst (N := 16) rfl ?_); (try (refine gate_guard (by rfl) ?_; dsimp only)); refine Kd.R_lit Kd.string _ 9 ?hg (N := 16) ?hd (xs := ([a0_0, a0_1, (⟨#[32]⟩ : ByteArray)] : List ByteArray)) (inner := [.string a0_0, .string a0_1, .string (⟨#[32]⟩ : ByteArray)]) (ok := fun _ => True) (okp := fun _ => True) ?hr ?hp (fun _ hk => hk) trivial (Below.refl _ _) (Nat.le_refl _) (by simp) ?_; (case hd => rfl); (case hg => rfl); (case hr => first | (go_simp; done) | (go_simp; rfl)); (case hp => exact (Reps.one (show Kd.M Kd.string _ _ _ a0_0 [.string a0_0] from rfl) (Reps.one (show Kd.M Kd.string _ _ _ a0_1 [.string a0_1] from rfl) (Reps.one (show Kd.M Kd.string _ _ _ (⟨#[32]⟩ : ByteArray) [.string (⟨#[32]⟩ : ByteArray)] from rfl) (Reps.none _ _))))); intro v134 w42 ho43 hb hg_ hnew_; clear hg_ hnew_; (first | rw [← Ny133.out] at ho43 | (simp only [Int.reduceToNat] at ho43; rw [← Ny133.out] at ho43)); have n0_ := Aside0.mk (Kd.R_lower ho43 (below_size q_12)); have n1_ := Aside0.mk (blk_below (g := gb132) (o := .cells #[.string a0_0, .string a0_1, .string a0_2] 67 (0, 0)) q_13 hb); have n2_ := Aside0.mk (below_step q_12 hb); clear BK132; clear HB; have HO135 := n0_; have BK132 := n1_; have HB := n2_; clear n0_ n1_ n2_; clear hb ho43; obtain ⟨Ao44, co44, eo44⟩ := Kd.R_slice HO135.out; subst eo44) | ((with_reducible refine gate_callee (f := 40) rfl ?_); refine goesL_ (some 17) rfl rfl Tryd.func40 (by kernel_rfl) rfl #[.slice Ao44 y133.length co44] rfl q_2 ?_; (with_reducible refine (line_Mark.calls _ _ y133 t136 t137 t138 _ ?side1 ?side2 A5.out).mono ?_); (case side1 => repeat (first | exact (Kd.R_reads' HO135.out).2.2 | (with_reducible refine Kd.C_alloc ?_ _) | (with_reducible refine Kd.C_drewN ?_ _) | (with_reducible refine Kd.C_drew ?_))); (case side2 => exact (Kd.R_reads' HO135.out).2.1); rintro e w45 ⟨rfl, hb⟩; refine ⟨_, rfl, ?_⟩; have n0_ := Aside0.mk (Kd.R_below q_14 hb); have n1_ := Aside0.mk (blk_below (g := gb132) (o := .cells #[.string a0_0, .string a0_1, .string a0_2] 67 (0, 0)) q_13 hb); have n2_ := Aside0.mk (below_step q_12 hb); clear HO135; clear BK132; clear HB; have HO135 := n0_; have BK132 := n1_; have HB := n2_; clear n0_ n1_ n2_; (try clear hb); (try clear hb2); (try clear hk); (try clear hi)) | ((with_reducible refine gate_dst (N := 10) rfl ?_); (try (refine gate_guard (by rfl) ?_; dsimp only)); refine box_event ?hg (N := 10) ?hd (cs := #[.bool false, .string (⟨#[]⟩ : ByteArray), .string (⟨#[]⟩ : ByteArray)]) (t := 30) ?hr ?_; (case hd => rfl); (case hg => rfl); (case hr => first | (go_simp; done) | (go_simp; rfl)); intro gb139 hg w46 hbox hb; have n0_ := Aside0.mk (Kd.R_below q_14 hb); have n1_ := Aside0.mk (blk_below (g := gb132) (o := .cells #[.string a0_0, .string a0_1, .string a0_2] 67 (0, 0)) q_13 hb); have n2_ := Aside0.mk (below_step q_12 hb); have n3_ := Aside0.mk (hbox); have n4_ := Aside0.mk ((by rw [hg]; exact (below_size q_12) : w.heap.size ≤ gb139)); have n5_ := Aside0.mk ((by rw [hg]; exact (below_size q_12) : w.heap.size ≤ gb139)); have n6_ := Aside0.mk ((q_104 : gb132 ≠ gb139)); have n7_ := Aside0.mk ((q_105 : gb139 ≠ gb132)); clear HO135; clear BK132; clear HB; have HO135 := n0_; have BK132 := n1_; have HB := n2_; have BK139 := n3_; have GW139 := n4_; have GE139 := n5_; have NB132_139 := n6_; have NB139_132 := n7_; clear n0_ n1_ n2_ n3_ n4_ n5_ n6_ n7_; clear hb hbox hg; have hnb47 := NB139_132.out; have hnc47 := NB132_139.out; obtain ⟨hcz48_0, hcz48_1, hcz48_2, hfz48_0, hfz48_1, hfz48_2⟩ := cells3_ BK139.out) | ((with_reducible refine gate_callee (f := 61) rfl ?_); refine goesL_ (some 19) rfl rfl Tryd.func61 (by kernel_rfl) rfl #[.string a2, .string (⟨#[34]⟩ : ByteArray)] rfl q_2 ?_; (with_reducible refine (strings_Count.calls a2 (⟨#[34]⟩ : ByteArray) t140 _ A6.out).mono ?_); rintro e w' ⟨rfl, ⟨nd, rfl⟩⟩; refine ⟨_, rfl, ?_⟩))
    (try simp only [Act.put, List.setIfInBounds_toArray, List.set_cons_zero, List.set_cons_succ])
    go_cut [33] (fun v33 wc => ∃ (kq : Nat) (x33_38 : Bool), v33 = .bool x33_38 ∧ Aside0 (cue_row_value.j0 kq a1 a2 a3 x33_38 t136 t137 t138 = some (r1, r2)) ∧ Aside0 (kq ≤ k) ∧ Aside0 (wc.heap[gb132]? = some (.cells #[.string a0_0, .string a0_1, .string a0_2] 67 (0, 0))) ∧ Aside0 (wc.heap[gb139]? = some (.cells #[.bool t136, .string t137, .string t138] 30 (0, 0))) ∧ Aside0 (Below w.heap.size w wc))
    case first =>
      have H := HC39.out
      clear HC39
      by_cases c49 : t140 = 2
      · rw [if_pos c49] at H
        have c49b0 : (t140 == 2) = true := beq_iff_eq.mpr c49
        have c49b1 : (t140 != 2) = false := bne_eq_false_iff_eq.mpr c49
        clear c49
        (first | rw [c49b0] | (simp only [i64_w, i32_w]; rw [c49b0]) | skip)
        by_cases c50 : (a2.size : Int) < 2
        · rw [if_pos c50] at H
          have c50b0 : decide ((a2.size : Int) < 2) = true := decide_eq_true c50
          have c50b1 : decide (a2.size < 2) = true := decide_eq_true (by omega)
          clear c50
          have H' := Aside0.mk H
          clear H
          go_wp2
          go_meet
          case rel => exact ⟨_, (true), q_5, H', ⟨by first | omega | exact Nat.le_refl _⟩, ⟨q_20⟩, ⟨q_21⟩, ⟨q_16⟩⟩
        · rw [if_neg c50] at H
          have c50b0 : decide ((a2.size : Int) < 2) = false := decide_eq_false c50
          have c50b1 : decide (a2.size < 2) = false := decide_eq_false (by omega)
          clear c50
          by_cases c51 : 0 < (a2.size : Int)
          · rw [if_pos c51] at H
            have c51b0 : decide (0 < (a2.size : Int)) = true := decide_eq_true c51
            have c51b1 : decide (0 < a2.size) = true := decide_eq_true (by omega)
            clear c51
            by_cases c53 : (bt a2 0) = 34
            · rw [if_pos c53] at H
              have c53b0 : ((bt a2 0) == 34) = true := beq_iff_eq.mpr c53
              have c53b1 : ((bt a2 0) != 34) = false := bne_eq_false_iff_eq.mpr c53
              clear c53
              obtain ⟨ji54, hji54⟩ : ∃ j_ : Int, (wrap64 ((a2.size : Int) - 1)) = j_ := ⟨_, rfl⟩
              replace H : (if 0 ≤ (ji54) then (if (ji54) < (a2.size : Int) then (cue_row_value.j0 k a1 a2 a3 ((bt a2 (ji54)) != 34) t136 t137 t138) else (none)) else (none)) = some (r1, r2) := by first | (rw [hji54] at H; exact H) | (simp only [hji54] at H ⊢; exact H)
              have hji54w : (IntKind.i64.wrap ((a2.size : Int) - 1)) = ji54 := (i64_w _).trans hji54
              by_cases c55 : 0 ≤ (ji54)
              · rw [if_pos c55] at H
                have c55b0 : decide (0 ≤ (ji54)) = true := decide_eq_true c55
                clear c55
                by_cases c56 : (ji54) < (a2.size : Int)
                · rw [if_pos c56] at H
                  have c56b0 : decide ((ji54) < (a2.size : Int)) = true := decide_eq_true c56
                  clear c56
                  have H' := Aside0.mk H
                  clear H
                  have p52 : 0 ≤ (0 : Int) := (by omega)
                  have q52 : 0 < a2.size := (by have : (0 : Int) < (a2.size : Int) := of_decide_eq_true q_6; omega)
                  have hx52 : ∀ h : 0 < a2.size, ((a2[0]'h).toNat : Int) = bt a2 0 := bt_at a2 0
                  clear p52
                  have qi52 : (0 < (a2.size : Int)) = True := eq_true (of_decide_eq_true q_6)
                  replace q52 := eq_true q52
                  have p57 : 0 ≤ ((ji54) : Int) := of_decide_eq_true q_6
                  have q57 : (ji54) < (a2.size : Int) := of_decide_eq_true q_6
                  have hx57 := bt_at a2 (ji54)
                  replace p57 := eq_true p57
                  replace q57 := eq_true q57
                  go_wp2
                  go_meet
                  case rel => exact ⟨_, (((bt a2 (ji54)) != 34)), (by first | rfl | (simp; done) | (simp only [← hji54] <;> (first | rfl | simp)) | (simp [*]; done)), H', ⟨by first | omega | exact Nat.le_refl _⟩, ⟨q_20⟩, ⟨q_21⟩, ⟨q_16⟩⟩
                · rw [if_neg c56] at H
                  exact absurd H (by simp)
              · rw [if_neg c55] at H
                exact absurd H (by simp)
            · rw [if_neg c53] at H
              have c53b0 : ((bt a2 0) == 34) = false := beq_eq_false_iff_ne.mpr c53
              have c53b1 : ((bt a2 0) != 34) = true := bne_iff_ne.mpr c53
              have H' := Aside0.mk H
              clear H
              have p52 : 0 ≤ (0 : Int) := (by omega)
              have q52 : 0 < a2.size := (by have : (0 : Int) < (a2.size : Int) := of_decide_eq_true q_6; omega)
              have hx52 : ∀ h : 0 < a2.size, ((a2[0]'h).toNat : Int) = bt a2 0 := bt_at a2 0
              clear p52
              have qi52 : (0 < (a2.size : Int)) = True := eq_true (of_decide_eq_true q_6)
              replace q52 := eq_true q52
              go_wp2
              go_meet
              case rel => exact ⟨_, (true), q_5, H', ⟨by first | omega | exact Nat.le_refl _⟩, ⟨q_20⟩, ⟨q_21⟩, ⟨q_16⟩⟩
          · rw [if_neg c51] at H
            exact absurd H (by simp)
      · rw [if_neg c49] at H
        have c49b0 : (t140 == 2) = false := beq_eq_false_iff_ne.mpr c49
        have c49b1 : (t140 != 2) = true := bne_iff_ne.mpr c49
        (first | rw [c49b0] | (simp only [i64_w, i32_w]; rw [c49b0]) | skip)
        have H' := Aside0.mk H
        clear H
        go_wp2
        go_meet
        case rel => exact ⟨_, (true), q_5, H', ⟨by first | omega | exact Nat.le_refl _⟩, ⟨q_20⟩, ⟨q_21⟩, ⟨q_16⟩⟩
    case rest =>
      clear HC39
      try clear c1; try clear c2; try clear p2; try clear c3; try clear c4; try clear c5; try clear p5; try clear q5; try clear hx5; try clear qi5; try clear c6; try clear p6; try clear c7; try clear c7b0; try clear c7b1; try clear c8; try clear c8b0; try clear c8b1; try clear c16; try clear c20; try clear c24; try clear c28; try clear c40; try clear c42; try clear c44; try clear c47; try clear c49; try clear c49b0; try clear c49b1; try clear c50; try clear c50b0; try clear c50b1; try clear c51; try clear c51b0; try clear c51b1; try clear p52; try clear q52; try clear hx52; try clear qi52; try clear c53; try clear c53b0; try clear c53b1; try clear c55; try clear c55b0; try clear c56; try clear c56b0; try clear p57; try clear q57; try clear hx57; try clear hcz10_0; try clear hcz10_1; try clear hcz10_2; try clear hcz17_0; try clear hcz17_1; try clear hcz17_2; try clear hcz22_0; try clear hcz22_1; try clear hcz22_2; try clear hcz29_0; try clear hcz29_1; try clear hcz29_2; try clear hcz41_0; try clear hcz41_1; try clear hcz41_2; try clear hcz48_0; try clear hcz48_1; try clear hcz48_2; try clear hfz10_0; try clear hfz10_1; try clear hfz10_2; try clear hfz17_0; try clear hfz17_1; try clear hfz17_2; try clear hfz22_0; try clear hfz22_1; try clear hfz22_2; try clear hfz29_0; try clear hfz29_1; try clear hfz29_2; try clear hfz41_0; try clear hfz41_1; try clear hfz41_2; try clear hfz48_0; try clear hfz48_1; try clear hfz48_2; try clear p52; try clear p57; try clear q52; try clear q57
      obtain ⟨kq, x33_38, rfl, HA, HJ38, BK132, BK139, HB⟩ := hcut
      cases kq with
      | zero => exact absurd HA.out (by simp [cue_row_value.j0])
      | succ kj38 =>
        have H := HA.out
        clear HA
        simp only [cue_row_value.j0] at H
        by_cases c58 : x33_38 = true
        · subst c58
          have H1 : (some (([] : List (S30)), false)) = some (r1, r2) := by rw [if_pos rfl] at H; exact H
          clear H
          have H := H1
          clear H1
          simp only [Option.some.injEq, Prod.mk.injEq] at H
          obtain ⟨rfl, rfl⟩ := H
          go_wp2
          go_ret2
          exact ⟨_, q_10, q_11, q_16⟩
        · replace c58 := Bool.eq_false_iff.mpr c58
          subst c58
          have H1 : (if t138.size + 1 ≤ 9223372036854775807 then (if 1 ≤ (wrap64 ((a2.size : Int) - 1)) then (if (wrap64 ((a2.size : Int) - 1)) ≤ (a2.size : Int) then ((line_Text.f a1 (a2.extract 1 ((wrap64 ((a2.size : Int) - 1)) : Int).toNat)).bind fun bt153 => ((line_Mark.f (([(⟨#[34]⟩ : ByteArray), a3] : List ByteArray))).bind fun bt159 => (some ((([(⟨t136, t137, t138 ++ (⟨#[34]⟩ : ByteArray)⟩ : S30), (⟨bt153.1, bt153.2.1, bt153.2.2⟩ : S30), (⟨bt159.1, bt159.2.1, bt159.2.2⟩ : S30)] : List (S30))), true)))) else (none)) else (none)) else (none)) = some (r1, r2) := by rw [if_neg (show ¬ (false = true) by decide)] at H; exact H
          clear H
          have H := H1
          clear H1
          by_cases c59 : t138.size + 1 ≤ 9223372036854775807
          · rw [if_pos c59] at H
            have c59b0 := eq_true c59
            have c59b1 : decide (t138.size + 1 ≤ 9223372036854775807) = true := decide_eq_true c59
            try have c59b2 : (9223372036854775807 < t138.size + 1) = False := eq_false (Nat.not_lt.2 c59)
            by_cases c60 : 1 ≤ (wrap64 ((a2.size : Int) - 1))
            · rw [if_pos c60] at H
              have c60b0 := eq_true c60
              have c60b1 : decide (1 ≤ (wrap64 ((a2.size : Int) - 1))) = true := decide_eq_true c60
              clear c60
              by_cases c61 : (wrap64 ((a2.size : Int) - 1)) ≤ (a2.size : Int)
              · rw [if_pos c61] at H
                have c61b0 := eq_true c61
                have c61b1 : decide ((wrap64 ((a2.size : Int) - 1)) ≤ (a2.size : Int)) = true := decide_eq_true c61
                clear c61
                replace H := Option.bind_eq_some_iff.mp H
                obtain ⟨⟨t153, t154, t155⟩, A620, H⟩ := H
                replace H : ((line_Mark.f (([(⟨#[34]⟩ : ByteArray), a3] : List ByteArray))).bind fun bt159 => (some ((([(⟨t136, t137, t138 ++ (⟨#[34]⟩ : ByteArray)⟩ : S30), (⟨t153, t154, t155⟩ : S30), (⟨bt159.1, bt159.2.1, bt159.2.2⟩ : S30)] : List (S30))), true))) = some (r1, r2) := H
                have A62 := Aside0.mk A620
                clear A620
                obtain ⟨y156, hy156⟩ : ∃ y_ : List ByteArray, y_ = (([(⟨#[34]⟩ : ByteArray), a3] : List ByteArray)) := ⟨_, rfl⟩
                replace H : ((line_Mark.f y156).bind fun bt159 => (some ((([(⟨t136, t137, t138 ++ (⟨#[34]⟩ : ByteArray)⟩ : S30), (⟨t153, t154, t155⟩ : S30), (⟨bt159.1, bt159.2.1, bt159.2.2⟩ : S30)] : List (S30))), true))) = some (r1, r2) := by first | (rw [hy156]; with_reducible exact H) | (have H2_ := (Option.bind_some _ _).symm.trans H; rw [hy156]; with_reducible exact H2_) | (have H2_ := (Option.bind_some _ _).symm.trans H; with_reducible exact H2_) | with_reducible exact H | (rw [hy156]; exact H) | exact H
                have Ny156 := Aside0.mk hy156
                clear hy156
                replace H := Option.bind_eq_some_iff.mp H
                obtain ⟨⟨t159, t160, t161⟩, A630, H⟩ := H
                replace H : (some ((([(⟨t136, t137, t138 ++ (⟨#[34]⟩ : ByteArray)⟩ : S30), (⟨t153, t154, t155⟩ : S30), (⟨t159, t160, t161⟩ : S30)] : List (S30))), true)) = some (r1, r2) := H
                have A63 := Aside0.mk A630
                clear A630
                obtain ⟨y162, hy162⟩ : ∃ y_ : List (S30), y_ = (([(⟨t136, t137, t138 ++ (⟨#[34]⟩ : ByteArray)⟩ : S30), (⟨t153, t154, t155⟩ : S30), (⟨t159, t160, t161⟩ : S30)] : List (S30))) := ⟨_, rfl⟩
                replace H : (some (y162, true)) = some (r1, r2) := by first | (rw [hy162]; with_reducible exact H) | (have H2_ := (Option.bind_some _ _).symm.trans H; rw [hy162]; with_reducible exact H2_) | (have H2_ := (Option.bind_some _ _).symm.trans H; with_reducible exact H2_) | with_reducible exact H | (rw [hy162]; exact H) | exact H
                have Ny162 := Aside0.mk hy162
                clear hy162
                simp only [Option.some.injEq, Prod.mk.injEq] at H
                obtain ⟨rfl, rfl⟩ := H
                have hnb64 := NB139_132.out
                have hnc64 := NB132_139.out
                obtain ⟨hcz65_0, hcz65_1, hcz65_2, hfz65_0, hfz65_1, hfz65_2⟩ := cells3_ BK139.out
                try go_wp2
                have n0_ : Aside0 ((wc.setCell ⟨gb139, 2, none⟩ (.string (t138 ++ (⟨#[34]⟩ : ByteArray)))).heap[gb132]? = some (.cells #[.string a0_0, .string a0_1, .string a0_2] 67 (0, 0))) := ⟨by (with_reducible repeat (first | refine blk_drewN ?_ _ | refine blk_drew ?_ | refine blk_alloc ?_ _)); refine blk_far ?_ NB132_139.out _; (with_reducible repeat (first | refine blk_drewN ?_ _ | refine blk_drew ?_ | refine blk_alloc ?_ _)); exact BK132.out⟩
                have n1_ : Aside0 ((wc.setCell ⟨gb139, 2, none⟩ (.string (t138 ++ (⟨#[34]⟩ : ByteArray)))).heap[gb139]? = some (.cells #[.bool t136, .string t137, .string (t138 ++ (⟨#[34]⟩ : ByteArray))] 30 (0, 0))) := ⟨by (with_reducible repeat (first | refine blk_drewN ?_ _ | refine blk_drew ?_ | refine blk_alloc ?_ _)); refine blk_put (cs := #[.bool t136, .string t137, .string t138]) ?_ 2 _ rfl; (with_reducible repeat (first | refine blk_drewN ?_ _ | refine blk_drew ?_ | refine blk_alloc ?_ _)); exact BK139.out⟩
                have n2_ : Aside0 (Below w.heap.size w (wc.setCell ⟨gb139, 2, none⟩ (.string (t138 ++ (⟨#[34]⟩ : ByteArray))))) := ⟨q_16⟩
                (try clear BK132)
                (try clear BK139)
                (try clear HB)
                generalize (wc.setCell ⟨gb139, 2, none⟩ (.string (t138 ++ (⟨#[34]⟩ : ByteArray)))) = w66 at n0_ n1_ n2_ ⊢
                have BK132 := n0_
                have BK139 := n1_
                have HB := n2_
                clear n0_ n1_ n2_
                have n0_ := Aside0.mk (blk_drew BK132.out)
                have n1_ := Aside0.mk (blk_drew BK139.out)
                have n2_ := Aside0.mk (below_drew1 HB.out)
                clear BK132
                clear BK139
                clear HB
                have BK132 := n0_
                have BK139 := n1_
                have HB := n2_
                clear n0_ n1_ n2_
                refine start_ (n := 14) (S := fun w' => True) (ds := []) #[false, false, false, false, false, false, false, false, false, false, false, false, false, false] (by kernel_rfl) rfl rfl trivial (fun hHeld => ?_); refine with_tabW cue_row_value.tab10 cue_row_value.bits10 (fun HT_ HW_ => ?_)
                generalize w66.drew = w67 at BK132 BK139 HB hHeld ⊢
                refine pure_ (i := 1) (N := some 59) (v := ?_) (a' := ?_) #[false, true, false, false, false, false, false, false, false, false, false, false, false, false] rfl rfl (any_of HT_.out (by kernel_rfl)) (fun _ _ _ h => h) (Or.inl ⟨by rfl, ?_⟩) ?_ ?_
                rotate_left
                · intro w'
                  go_simp
                  with_reducible rfl
                rotate_left
                · simp only [Act.put, List.setIfInBounds_toArray, List.set_cons_zero, List.set_cons_succ, i64_w, i32_w]
                  rfl
                refine pure_ (i := 2) (N := some 60) (v := ?_) (a' := ?_) #[false, true, true, false, false, false, false, false, false, false, false, false, false, false] rfl rfl (any_of HT_.out (by kernel_rfl)) (fun _ _ _ h => h) (Or.inl ⟨by rfl, ?_⟩) ?_ ?_
                rotate_left
                · intro w'
                  go_simp
                  with_reducible rfl
                rotate_left
                · simp only [Act.put, List.setIfInBounds_toArray, List.set_cons_zero, List.set_cons_succ, i64_w, i32_w]
                  rfl
                refine pure_ (i := 3) (N := some 61) (v := ?_) (a' := ?_) #[false, true, true, true, false, false, false, false, false, false, false, false, false, false] rfl rfl (any_of HT_.out (by kernel_rfl)) (fun _ _ _ h => h) (Or.inl ⟨by rfl, ?_⟩) ?_ ?_
                rotate_left
                · intro w'
                  go_simp
                  with_reducible rfl
                rotate_left
                · simp only [Act.put, List.setIfInBounds_toArray, List.set_cons_zero, List.set_cons_succ, i64_w, i32_w]
                  rfl
                refine pure_ (i := 8) (N := some 66) (v := ?_) (a' := ?_) #[false, true, true, true, false, false, false, false, true, false, false, false, false, false] rfl rfl (any_of HT_.out (by kernel_rfl)) (fun _ _ _ h => h) (Or.inl ⟨by rfl, ?_⟩) ?_ ?_
                rotate_left
                · intro w'
                  go_simp
                  with_reducible rfl
                rotate_left
                · simp only [Act.put, List.setIfInBounds_toArray, List.set_cons_zero, List.set_cons_succ, i64_w, i32_w]
                  rfl
                refine inv_at [0, 4, 5, 6, 7, 9, 10, 11, 12, 13] (fun a0_ b a w' => ∃ (v157 : Value) (v163 : Value) (m12_ : Value), a = putSel a0_ b [(0, 58, .agg #[.bool t136, .string t137, .string (t138 ++ (⟨#[34]⟩ : ByteArray))]), (4, 62, .int .i64 (a2.size : Int)), (5, 63, .int .i64 (wrap64 ((a2.size : Int) - 1))), (6, 64, .string (a2.extract 1 ((wrap64 ((a2.size : Int) - 1)) : Int).toNat)), (7, 65, .agg #[.bool t153, .string t154, .string t155]), (9, 67, v157), (10, 68, .agg #[.bool t159, .string t160, .string t161]), (11, 69, v163), (12, 8, m12_), (13, 9, .bool true)] ∧ (w'.heap[gb132]? = some (.cells #[.string a0_0, .string a0_1, .string a0_2] 67 (0, 0))) ∧ (w'.heap[gb139]? = some (.cells #[.bool t136, .string t137, .string (t138 ++ (⟨#[34]⟩ : ByteArray))] 30 (0, 0))) ∧ (Below w.heap.size w w') ∧ (b 9 = true → Kd.R Kd.string 9 w' w.heap.size (fun _ => True) v157 y156) ∧ (b 11 = true → Kd.R k30 30 w' w.heap.size (fun k_ => k_ ≠ gb139) v163 y162) ∧ (b 12 = true → (m12_ : Value) = v163)) HT_.out HW_.out (by kernel_rfl) (by kernel_rfl) ?_ ?_ ?_
                · exact ⟨.bool false, .bool false, .bool false, by simp only [putSel, Bool.false_eq_true, if_false], BK132.out, BK139.out, HB.out, fun h_ => absurd h_ (by decide), fun h_ => absurd h_ (by decide), fun h_ => absurd h_ (by decide)⟩
                · skip
                  clear BK132 BK139 HB
                  refine steps_cons ?_ ?_
                  · rintro b a w' ⟨v157, v163, m12_, ha, Q_BK132, Q_BK139, Q_HB, Q_HO158, Q_HO164, Q_X12_⟩ hb_ hon hoff
                    refine ⟨_, rfl, fun K hK => ?_⟩
                    have e10 : a.tmps[10]? = some (.pointer (some ⟨gb139, 0, none⟩)) := by rw [ha]; exact (putSel_off rfl).trans rfl
                    replace ha := Aside0.mk ha
                    have BK132 := Aside0.mk Q_BK132
                    have BK139 := Aside0.mk Q_BK139
                    have HB := Aside0.mk Q_HB
                    obtain ⟨hc0_, hc1_, hc2_⟩ := cells3o_ BK139.out
                    refine value_ (w1 := w') (v := .agg #[.bool t136, .string t137, .string (t138 ++ (⟨#[34]⟩ : ByteArray))]) (by rfl) rfl ?_ ?_
                    · go_simp
                      (try simp only [i64_w])
                      try rfl
                    refine hK.out _ _ ⟨v157, v163, m12_, (by rw [ha.out]; exact putSel_upk 0 hb_ rfl rfl rfl), Q_BK132, Q_BK139, Q_HB, Q_HO158, fun h0_ => absurd ((hoff 11 (by kernel_rfl)).symm.trans h0_) (by decide), fun h0_ => absurd ((hoff 12 (by kernel_rfl)).symm.trans h0_) (by decide)⟩
                  refine steps_cons ?_ ?_
                  · rintro b a w' ⟨v157, v163, m12_, ha, Q_BK132, Q_BK139, Q_HB, Q_HO158, Q_HO164, Q_X12_⟩ hb_ hon hoff
                    refine ⟨_, rfl, fun K hK => ?_⟩
                    have e61 : a.tmps[61]? = some (.string a2) := by rw [ha]; exact (putSel_off rfl).trans rfl
                    replace ha := Aside0.mk ha
                    have BK132 := Aside0.mk Q_BK132
                    have BK139 := Aside0.mk Q_BK139
                    have HB := Aside0.mk Q_HB
                    refine value_ (w1 := w') (v := .int .i64 (a2.size : Int)) (by rfl) rfl ?_ ?_
                    · go_simp
                      (try simp only [i64_w])
                      try rfl
                    refine hK.out _ _ ⟨v157, v163, m12_, (by rw [ha.out]; exact putSel_upk 1 hb_ rfl rfl rfl), Q_BK132, Q_BK139, Q_HB, Q_HO158, fun h0_ => absurd ((hoff 11 (by kernel_rfl)).symm.trans h0_) (by decide), fun h0_ => absurd ((hoff 12 (by kernel_rfl)).symm.trans h0_) (by decide)⟩
                  refine steps_cons ?_ ?_
                  · rintro b a w' ⟨v157, v163, m12_, ha, Q_BK132, Q_BK139, Q_HB, Q_HO158, Q_HO164, Q_X12_⟩ hb_ hon hoff
                    refine ⟨_, rfl, fun K hK => ?_⟩
                    have e62 : a.tmps[62]? = some (.int .i64 (a2.size : Int)) := by rw [ha]; exact putSel_on (e := (4, 62, .int .i64 (a2.size : Int))) 1 rfl rfl (hon 4 (by kernel_rfl)) rfl
                    replace ha := Aside0.mk ha
                    have BK132 := Aside0.mk Q_BK132
                    have BK139 := Aside0.mk Q_BK139
                    have HB := Aside0.mk Q_HB
                    refine value_ (w1 := w') (v := .int .i64 (wrap64 ((a2.size : Int) - 1))) (by rfl) rfl ?_ ?_
                    · go_simp
                      (try simp only [i64_w])
                      try rfl
                    refine hK.out _ _ ⟨v157, v163, m12_, (by rw [ha.out]; exact putSel_upk 2 hb_ rfl rfl rfl), Q_BK132, Q_BK139, Q_HB, Q_HO158, fun h0_ => absurd ((hoff 11 (by kernel_rfl)).symm.trans h0_) (by decide), fun h0_ => absurd ((hoff 12 (by kernel_rfl)).symm.trans h0_) (by decide)⟩
                  refine steps_cons ?_ ?_
                  · rintro b a w' ⟨v157, v163, m12_, ha, Q_BK132, Q_BK139, Q_HB, Q_HO158, Q_HO164, Q_X12_⟩ hb_ hon hoff
                    refine ⟨_, rfl, fun K hK => ?_⟩
                    have e60 : a.tmps[60]? = some (.string a2) := by rw [ha]; exact (putSel_off rfl).trans rfl
                    have e63 : a.tmps[63]? = some (.int .i64 (wrap64 ((a2.size : Int) - 1))) := by rw [ha]; exact putSel_on (e := (5, 63, .int .i64 (wrap64 ((a2.size : Int) - 1)))) 2 rfl rfl (hon 5 (by kernel_rfl)) rfl
                    replace ha := Aside0.mk ha
                    have BK132 := Aside0.mk Q_BK132
                    have BK139 := Aside0.mk Q_BK139
                    have HB := Aside0.mk Q_HB
                    refine value_ (w1 := w') (v := .string (a2.extract 1 ((wrap64 ((a2.size : Int) - 1)) : Int).toNat)) (by rfl) rfl ?_ ?_
                    · go_simp
                      (try simp only [i64_w])
                      try rfl
                    refine hK.out _ _ ⟨v157, v163, m12_, (by rw [ha.out]; exact putSel_upk 3 hb_ rfl rfl rfl), Q_BK132, Q_BK139, Q_HB, Q_HO158, fun h0_ => absurd ((hoff 11 (by kernel_rfl)).symm.trans h0_) (by decide), fun h0_ => absurd ((hoff 12 (by kernel_rfl)).symm.trans h0_) (by decide)⟩
                  refine steps_cons ?_ ?_
                  · rintro b a w' ⟨v157, v163, m12_, ha, Q_BK132, Q_BK139, Q_HB, Q_HO158, Q_HO164, Q_X12_⟩ hb_ hon hoff
                    refine ⟨_, rfl, fun K hK => ?_⟩
                    have e59 : a.tmps[59]? = some (.string a1) := by rw [ha]; exact (putSel_off rfl).trans rfl
                    have e64 : a.tmps[64]? = some (.string (a2.extract 1 ((wrap64 ((a2.size : Int) - 1)) : Int).toNat)) := by rw [ha]; exact putSel_on (e := (6, 64, .string (a2.extract 1 ((wrap64 ((a2.size : Int) - 1)) : Int).toNat))) 3 rfl rfl (hon 6 (by kernel_rfl)) rfl
                    replace ha := Aside0.mk ha
                    have BK132 := Aside0.mk Q_BK132
                    have BK139 := Aside0.mk Q_BK139
                    have HB := Aside0.mk Q_HB
                    refine goes_ Tryd.func24 (by kernel_rfl) rfl #[.string a1, .string (a2.extract 1 ((wrap64 ((a2.size : Int) - 1)) : Int).toNat)] (by rfl) rfl rfl (by first | (simp only [List.map_toArray, List.map_cons, List.map_nil, Act.eval, Array.getD_eq_getD_getElem?, Option.getD_some, e59, e64]; done) | (simp only [List.map_toArray, List.map_cons, List.map_nil, Act.eval, Array.getD_eq_getD_getElem?, Option.getD_some, e59, e64]; rfl)) ?_
                    with_reducible refine (line_Text.calls a1 (a2.extract 1 ((wrap64 ((a2.size : Int) - 1)) : Int).toNat) t153 t154 t155 _ A62.out).mono ?_
                    rintro e w68 ⟨rfl, hb⟩
                    refine ⟨_, rfl, ?_⟩
                    have n0_ := Aside0.mk (blk_below (g := gb132) (o := .cells #[.string a0_0, .string a0_1, .string a0_2] 67 (0, 0)) q_13 hb)
                    have n1_ := Aside0.mk (blk_below (g := gb139) (o := .cells #[.bool t136, .string t137, .string (t138 ++ (⟨#[34]⟩ : ByteArray))] 30 (0, 0)) q_15 hb)
                    have n2_ := Aside0.mk (below_step q_16 hb)
                    have z_HO158 := fun (h0_ : b 9 = true) => (show Kd.R Kd.string 9 w68 w.heap.size (fun _ => True) v157 y156 from by first | exact (Kd.R_below (by (with_reducible repeat (first | apply Kd.R_alloc | apply Kd.R_drewN | apply Kd.R_drew)); exact (Q_HO158 h0_)) hb) | exact Kd.R_mono (Kd.R_below (by (with_reducible repeat (first | apply Kd.R_alloc | apply Kd.R_drewN | apply Kd.R_drew)); exact (Q_HO158 h0_)) hb) (fun _ h_ => by first | trivial | exact h_ | exact h_.1))
                    clear BK132
                    clear BK139
                    clear HB
                    have BK132 := n0_
                    have BK139 := n1_
                    have HB := n2_
                    clear n0_ n1_ n2_
                    (try clear hb)
                    (try clear hb2)
                    (try clear hk)
                    (try clear hi)
                    refine hK.out _ _ ⟨v157, v163, m12_, (by rw [ha.out]; exact putSel_upk 4 hb_ rfl rfl rfl), q_13, q_15, q_16, z_HO158, fun h0_ => absurd ((hoff 11 (by kernel_rfl)).symm.trans h0_) (by decide), fun h0_ => absurd ((hoff 12 (by kernel_rfl)).symm.trans h0_) (by decide)⟩
                  refine steps_cons ?_ ?_
                  · rintro b a w' ⟨v157, v163, m12_, ha, Q_BK132, Q_BK139, Q_HB, Q_HO158, Q_HO164, Q_X12_⟩ hb_ hon hoff
                    refine ⟨_, rfl, fun K hK => ?_⟩
                    have e66 : a.tmps[66]? = some (.string a3) := by rw [ha]; exact (putSel_off rfl).trans rfl
                    replace ha := Aside0.mk ha
                    have BK132 := Aside0.mk Q_BK132
                    have BK139 := Aside0.mk Q_BK139
                    have HB := Aside0.mk Q_HB
                    refine Kd.R_lit_step Kd.string _ 9 ?hg (N := 67) ?hd (xs := ([(⟨#[34]⟩ : ByteArray), a3] : List ByteArray)) (inner := [.string (⟨#[34]⟩ : ByteArray), .string a3]) (ok := fun _ => True) (okp := fun _ => True) ?hr ?hp (fun _ hk => hk) trivial (Below.refl _ _) (Nat.le_refl _) (by simp) ?_; (case hd => rfl); (case hg => rfl); (case hr => first | (go_simp; done) | (go_simp; rfl)); (case hp => exact (Reps.one (show Kd.M Kd.string _ _ _ (⟨#[34]⟩ : ByteArray) [.string (⟨#[34]⟩ : ByteArray)] from rfl) (Reps.one (show Kd.M Kd.string _ _ _ a3 [.string a3] from rfl) (Reps.none _ _))))
                    intro v157 w68 ho69 hb hg_ hnew_
                    clear hg_ hnew_
                    (first | rw [← Ny156.out] at ho69 | (simp only [Int.reduceToNat] at ho69; rw [← Ny156.out] at ho69))
                    have n0_ := Aside0.mk (Kd.R_lower ho69 (below_size q_16))
                    have n1_ := Aside0.mk (blk_below (g := gb132) (o := .cells #[.string a0_0, .string a0_1, .string a0_2] 67 (0, 0)) q_13 hb)
                    have n2_ := Aside0.mk (blk_below (g := gb139) (o := .cells #[.bool t136, .string t137, .string (t138 ++ (⟨#[34]⟩ : ByteArray))] 30 (0, 0)) q_15 hb)
                    have n3_ := Aside0.mk (below_step q_16 hb)
                    clear BK132
                    clear BK139
                    clear HB
                    have HO158 := n0_
                    have BK132 := n1_
                    have BK139 := n2_
                    have HB := n3_
                    clear n0_ n1_ n2_ n3_
                    clear hb ho69
                    refine hK.out _ _ ⟨v157, v163, m12_, (by rw [ha.out]; exact putSel_upk 5 hb_ rfl rfl rfl), q_13, q_15, q_16, fun _ => q_19, fun h0_ => absurd ((hoff 11 (by kernel_rfl)).symm.trans h0_) (by decide), fun h0_ => absurd ((hoff 12 (by kernel_rfl)).symm.trans h0_) (by decide)⟩
                  refine steps_cons ?_ ?_
                  · rintro b a w' ⟨v157, v163, m12_, ha, Q_BK132, Q_BK139, Q_HB, Q_HO158, Q_HO164, Q_X12_⟩ hb_ hon hoff
                    refine ⟨_, rfl, fun K hK => ?_⟩
                    have e67 : a.tmps[67]? = some (v157) := by rw [ha]; exact putSel_on (e := (9, 67, v157)) 5 rfl rfl (hon 9 (by kernel_rfl)) rfl
                    replace ha := Aside0.mk ha
                    have BK132 := Aside0.mk Q_BK132
                    have BK139 := Aside0.mk Q_BK139
                    have HB := Aside0.mk Q_HB
                    have HO158 := Aside0.mk (Q_HO158 (hon 9 (by kernel_rfl)))
                    obtain ⟨Ao72, co72, eo72⟩ := Kd.R_slice HO158.out
                    (first | subst eo72 | (injection eo72 with f1_ f2_ f3_; have f4_ := f1_.symm; have f5_ := f3_.symm; clear f1_ f2_ f3_; subst f4_; subst f5_))
                    refine goes_ Tryd.func40 (by kernel_rfl) rfl #[.slice Ao72 y156.length co72] (by rfl) rfl rfl (by first | (simp only [List.map_toArray, List.map_cons, List.map_nil, Act.eval, Array.getD_eq_getD_getElem?, Option.getD_some, e67]; done) | (simp only [List.map_toArray, List.map_cons, List.map_nil, Act.eval, Array.getD_eq_getD_getElem?, Option.getD_some, e67]; rfl)) ?_
                    with_reducible refine (line_Mark.calls _ _ y156 t159 t160 t161 _ ?side1 ?side2 A63.out).mono ?_
                    (case side1 => repeat (first | exact (Kd.R_reads' HO158.out).2.2 | (with_reducible refine Kd.C_alloc ?_ _) | (with_reducible refine Kd.C_drewN ?_ _) | (with_reducible refine Kd.C_drew ?_)))
                    (case side2 => exact (Kd.R_reads' HO158.out).2.1)
                    rintro e w73 ⟨rfl, hb⟩
                    refine ⟨_, rfl, ?_⟩
                    have n0_ := Aside0.mk (Kd.R_below q_19 hb)
                    have n1_ := Aside0.mk (blk_below (g := gb132) (o := .cells #[.string a0_0, .string a0_1, .string a0_2] 67 (0, 0)) q_13 hb)
                    have n2_ := Aside0.mk (blk_below (g := gb139) (o := .cells #[.bool t136, .string t137, .string (t138 ++ (⟨#[34]⟩ : ByteArray))] 30 (0, 0)) q_15 hb)
                    have n3_ := Aside0.mk (below_step q_16 hb)
                    clear HO158
                    clear BK132
                    clear BK139
                    clear HB
                    have HO158 := n0_
                    have BK132 := n1_
                    have BK139 := n2_
                    have HB := n3_
                    clear n0_ n1_ n2_ n3_
                    (try clear hb)
                    (try clear hb2)
                    (try clear hk)
                    (try clear hi)
                    refine hK.out _ _ ⟨.slice Ao72 y156.length co72, v163, m12_, (by rw [ha.out]; exact putSel_upk 6 hb_ rfl rfl rfl), q_13, q_15, q_16, fun _ => q_19, fun h0_ => absurd ((hoff 11 (by kernel_rfl)).symm.trans h0_) (by decide), fun h0_ => absurd ((hoff 12 (by kernel_rfl)).symm.trans h0_) (by decide)⟩
                  refine steps_cons ?_ ?_
                  · rintro b a w' ⟨v157, v163, m12_, ha, Q_BK132, Q_BK139, Q_HB, Q_HO158, Q_HO164, Q_X12_⟩ hb_ hon hoff
                    refine ⟨_, rfl, fun K hK => ?_⟩
                    have e58 : a.tmps[58]? = some (.agg #[.bool t136, .string t137, .string (t138 ++ (⟨#[34]⟩ : ByteArray))]) := by rw [ha]; exact putSel_on (e := (0, 58, .agg #[.bool t136, .string t137, .string (t138 ++ (⟨#[34]⟩ : ByteArray))])) 0 rfl rfl (hon 0 (by kernel_rfl)) rfl
                    have e65 : a.tmps[65]? = some (.agg #[.bool t153, .string t154, .string t155]) := by rw [ha]; exact putSel_on (e := (7, 65, .agg #[.bool t153, .string t154, .string t155])) 4 rfl rfl (hon 7 (by kernel_rfl)) rfl
                    have e68 : a.tmps[68]? = some (.agg #[.bool t159, .string t160, .string t161]) := by rw [ha]; exact putSel_on (e := (10, 68, .agg #[.bool t159, .string t160, .string t161])) 6 rfl rfl (hon 10 (by kernel_rfl)) rfl
                    replace ha := Aside0.mk ha
                    have BK132 := Aside0.mk Q_BK132
                    have BK139 := Aside0.mk Q_BK139
                    have HB := Aside0.mk Q_HB
                    have HO158 := Aside0.mk (Q_HO158 (hon 9 (by kernel_rfl)))
                    refine Kd.R_lit_step k30 _ 30 ?hg (N := 69) ?hd (xs := ([(⟨t136, t137, t138 ++ (⟨#[34]⟩ : ByteArray)⟩ : S30), (⟨t153, t154, t155⟩ : S30), (⟨t159, t160, t161⟩ : S30)] : List (S30))) (inner := [.bool t136, .string t137, .string (t138 ++ (⟨#[34]⟩ : ByteArray)), .bool t153, .string t154, .string t155, .bool t159, .string t160, .string t161]) (ok := fun _ => True) (okp := fun _ => True) ?hr ?hp (fun _ hk => hk) trivial (Below.refl _ _) (Nat.le_refl _) (by simp) ?_; (case hd => rfl); (case hg => rfl); (case hr => first | (go_simp; done) | (go_simp; rfl)); (case hp => exact (Reps.c3 (show Kd.M k30 _ _ _ (⟨t136, t137, t138 ++ (⟨#[34]⟩ : ByteArray)⟩ : S30) [.bool t136, .string t137, .string (t138 ++ (⟨#[34]⟩ : ByteArray))] from (k30_mkM _ _ _ (⟨t136, t137, t138 ++ (⟨#[34]⟩ : ByteArray)⟩ : S30) )) (Reps.c3 (show Kd.M k30 _ _ _ (⟨t153, t154, t155⟩ : S30) [.bool t153, .string t154, .string t155] from (k30_mkM _ _ _ (⟨t153, t154, t155⟩ : S30) )) (Reps.c3 (show Kd.M k30 _ _ _ (⟨t159, t160, t161⟩ : S30) [.bool t159, .string t160, .string t161] from (k30_mkM _ _ _ (⟨t159, t160, t161⟩ : S30) )) (Reps.none _ _)))))
                    intro v163 w74 ho75 hb hg_ hnew_
                    clear hg_ hnew_
                    (first | rw [← Ny162.out] at ho75 | (simp only [Int.reduceToNat] at ho75; rw [← Ny162.out] at ho75))
                    have n0_ := Aside0.mk (Kd.R_below q_19 hb)
                    have n1_ := Aside0.mk (Kd.R_lower (Kd.R_newB ho75 (g := gb139) (o := .cells #[.bool t136, .string t137, .string (t138 ++ (⟨#[34]⟩ : ByteArray))] 30 (0, 0)) q_15) (below_size q_16))
                    have n2_ := Aside0.mk (blk_below (g := gb132) (o := .cells #[.string a0_0, .string a0_1, .string a0_2] 67 (0, 0)) q_13 hb)
                    have n3_ := Aside0.mk (blk_below (g := gb139) (o := .cells #[.bool t136, .string t137, .string (t138 ++ (⟨#[34]⟩ : ByteArray))] 30 (0, 0)) q_15 hb)
                    have n4_ := Aside0.mk (below_step q_16 hb)
                    clear HO158
                    clear BK132
                    clear BK139
                    clear HB
                    have HO158 := n0_
                    have HO164 := n1_
                    have BK132 := n2_
                    have BK139 := n3_
                    have HB := n4_
                    clear n0_ n1_ n2_ n3_ n4_
                    clear hb ho75
                    refine hK.out _ _ ⟨v157, v163, m12_, (by rw [ha.out]; exact putSel_upk 7 hb_ rfl rfl rfl), q_13, q_15, q_16, fun _ => q_19, fun _ => (by (with_reducible repeat (first | apply Kd.R_alloc | apply Kd.R_drewN | apply Kd.R_drew)); exact Kd.R_mono HO164.out (fun _ hk => hk.2)), fun h0_ => absurd ((hoff 12 (by kernel_rfl)).symm.trans h0_) (by decide)⟩
                  refine steps_cons ?_ ?_
                  · rintro b a w' ⟨v157, v163, m12_, ha, Q_BK132, Q_BK139, Q_HB, Q_HO158, Q_HO164, Q_X12_⟩ hb_ hon hoff
                    refine ⟨_, rfl, fun K hK => ?_⟩
                    have e69 : a.tmps[69]? = some (v163) := by rw [ha]; exact putSel_on (e := (11, 69, v163)) 7 rfl rfl (hon 11 (by kernel_rfl)) rfl
                    replace ha := Aside0.mk ha
                    have BK132 := Aside0.mk Q_BK132
                    have BK139 := Aside0.mk Q_BK139
                    have HB := Aside0.mk Q_HB
                    have HO158 := Aside0.mk (Q_HO158 (hon 9 (by kernel_rfl)))
                    have HO164 := Aside0.mk (Q_HO164 (hon 11 (by kernel_rfl)))
                    refine value_ (w1 := w') (v := v163) (by rfl) rfl ?_ ?_
                    · go_simp
                      (try simp only [i64_w])
                      try rfl
                    refine hK.out _ _ ⟨v157, v163, (v163), (by rw [ha.out]; exact putSel_upk 8 hb_ rfl rfl rfl), Q_BK132, Q_BK139, Q_HB, Q_HO158, Q_HO164, fun _ => rfl⟩
                  refine steps_cons ?_ ?_
                  · rintro b a w' ⟨v157, v163, m12_, ha, Q_BK132, Q_BK139, Q_HB, Q_HO158, Q_HO164, Q_X12_⟩ hb_ hon hoff
                    refine ⟨_, rfl, fun K hK => ?_⟩
                    replace ha := Aside0.mk ha
                    have BK132 := Aside0.mk Q_BK132
                    have BK139 := Aside0.mk Q_BK139
                    have HB := Aside0.mk Q_HB
                    have HO158 := Aside0.mk (Q_HO158 (hon 9 (by kernel_rfl)))
                    have HO164 := Aside0.mk (Q_HO164 (hon 11 (by kernel_rfl)))
                    refine value_ (w1 := w') (v := .bool true) (by rfl) rfl ?_ ?_
                    · go_simp
                      (try simp only [i64_w])
                      try rfl
                    refine hK.out _ _ ⟨v157, v163, m12_, (by rw [ha.out]; exact putSel_upk 9 hb_ rfl rfl rfl), Q_BK132, Q_BK139, Q_HB, Q_HO158, Q_HO164, Q_X12_⟩
                  exact steps_nil
                rintro b a w75 hall ⟨v157, v163, m12_, ha, Q_BK132, Q_BK139, Q_HB, Q_HO158, Q_HO164, Q_X12_⟩
                clear BK132 BK139 HB
                have hb0_ := hall 0 (by kernel_rfl)
                have hb4_ := hall 4 (by kernel_rfl)
                have hb5_ := hall 5 (by kernel_rfl)
                have hb6_ := hall 6 (by kernel_rfl)
                have hb7_ := hall 7 (by kernel_rfl)
                have hb9_ := hall 9 (by kernel_rfl)
                have hb10_ := hall 10 (by kernel_rfl)
                have hb11_ := hall 11 (by kernel_rfl)
                have hb12_ := hall 12 (by kernel_rfl)
                have hb13_ := hall 13 (by kernel_rfl)
                subst ha
                obtain rfl := Q_X12_ hb12_
                simp only [putSel, hb0_, hb4_, hb5_, hb6_, hb7_, hb9_, hb10_, hb11_, hb12_, hb13_, if_true, Act.put, List.setIfInBounds_toArray, List.set_cons_zero, List.set_cons_succ]
                have BK132 := Aside0.mk Q_BK132
                clear Q_BK132
                have BK139 := Aside0.mk Q_BK139
                clear Q_BK139
                have HB := Aside0.mk Q_HB
                clear Q_HB
                have HO158 := Aside0.mk (Q_HO158 hb9_)
                clear Q_HO158
                have HO164 := Aside0.mk (Q_HO164 hb11_)
                clear Q_HO164
                clear hall hb0_ hb4_ hb5_ hb6_ hb7_ hb9_ hb10_ hb11_ hb12_ hb13_
                try go_wp2
                go_ret2
                exact ⟨_, q_10, by (with_reducible repeat (first | apply Kd.R_alloc | apply Kd.R_drewN | apply Kd.R_drew)); exact Kd.R_mono HO164.out (fun _ hk => trivial), q_16⟩
              · rw [if_neg c61] at H
                exact absurd H (by simp)
            · rw [if_neg c60] at H
              exact absurd H (by simp)
          · rw [if_neg c59] at H
            exact absurd H (by simp)

end Go.Proofs.YtkhiiilfokijgaaDoor.PAll
