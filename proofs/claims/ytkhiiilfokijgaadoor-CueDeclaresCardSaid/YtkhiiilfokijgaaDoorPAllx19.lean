/- Written by a program of this session: functions of the Go program as Lean functions, and the walks that tie them to it. -/
import Derived.Test.YtkhiiilfokijgaaDoorPAllx0
import Derived.Test.YtkhiiilfokijgaaDoorPAllx13
namespace Go.Proofs.YtkhiiilfokijgaaDoor.PAll
open Go.RowKit Go.Proofs.YtkhiiilfokijgaaDoorW.PrintWords Go.Proofs.YtkhiiilfokijgaaDoorW.PrintLast Go.Proofs.YtkhiiilfokijgaaDoorW.PrintMore
attribute [local go_sem] max2_int min2_int max_two min_two max_three min_three max_four min_four   -- for this text's walks alone
set_option linter.unusedVariables false
set_option linter.unusedSimpArgs false

/-! ### strings_CutPrefix: function 30 -/
def strings_CutPrefix.f (a0 : ByteArray) (a1 : ByteArray) : Option (ByteArray × Bool) := some (⟨(Lib.trimPrefix a0.data.toList a1.data.toList).toArray⟩, Lib.hasPrefix a0.data.toList a1.data.toList)
theorem strings_CutPrefix.calls (a0 : ByteArray) (a1 : ByteArray) (r1 : ByteArray) (r2 : Bool) (w : World) (h : strings_CutPrefix.f a0 a1 = some (r1, r2)) :
    Calls Tryd.prog 30 #[.string a0, .string a1] w fun e w' => e = .returned (.tuple #[.string r1, .bool r2]) ∧ Drawn0 w w' := by
  have h' := Option.some.inj h
  simp only [Prod.mk.injEq] at h'
  obtain ⟨rfl, rfl⟩ := h'
  exact (Tryd.strings_CutPrefix a0 a1 w).mono fun e w' ⟨he, hw⟩ => ⟨he, hw ▸ Drawn0.refl _⟩


/-! ### cue_Declared: function 13 -/
def cue_Declared.l0 : Nat → List (S53) → Int → Int → Option (ByteArray)
  | 0, _, _, _ => none
  | k + 1, x8, x9, x10 => if x10 < x9 then (if 0 ≤ x10 then (if x10 < (x8.length : Int) then ((strings_CutPrefix.f ((rd_T53 x8 x10).f0) (⟨#[82, 69, 77, 32, 67, 72, 65, 82, 83, 69, 84, 32]⟩ : ByteArray)).bind fun bt356 => (if bt356.2 = true then (some bt356.1) else (cue_Declared.l0 k x8 x9 (wrap64 (x10 + 1))))) else (none)) else (none)) else (some (⟨#[]⟩ : ByteArray))
def cue_Declared.f (k : Nat) (a0 : ByteArray) : Option (ByteArray) := (line_Lines.f k a0).bind fun t351 => (cue_Declared.l0 k t351 (t351.length : Int) 0)
theorem cue_Declared.mono_l : ∀ k, (∀ y0 y1 y2, LeO (cue_Declared.l0 k y0 y1 y2) (cue_Declared.l0 (k + 1) y0 y1 y2))
  | 0 => fun _ _ _ r h => by simp [cue_Declared.l0] at h
  | k + 1 => by
    have ih0 := cue_Declared.mono_l k
    · intro y0 y1 y2
      unfold cue_Declared.l0
      repeat' first
      | (with_reducible exact ih0 _ _ _)
      | (with_reducible exact line_Lines.mono _ _)
      | (with_reducible exact LeO.refl _)
      | (with_reducible exact LeO.none _)
      | (with_reducible refine LeO.ite ?_ ?_)
      | (with_reducible refine LeO.bind ?_ (fun _ => ?_))
      | exact ih0 _ _ _
      | exact line_Lines.mono _ _
      | exact LeO.none _
      | refine LeO.ite ?_ ?_
      | refine LeO.bind ?_ (fun _ => ?_)
theorem cue_Declared.mono : ∀ a0 k, LeO (cue_Declared.f k a0) (cue_Declared.f (k + 1) a0) := by
  intro a0 k
  have ih0 := cue_Declared.mono_l k
  unfold cue_Declared.f
  repeat' first
      | (with_reducible exact ih0 _ _ _)
      | (with_reducible exact line_Lines.mono _ _)
      | (with_reducible exact LeO.refl _)
      | (with_reducible exact LeO.none _)
      | (with_reducible refine LeO.ite ?_ ?_)
      | (with_reducible refine LeO.bind ?_ (fun _ => ?_))
      | exact ih0 _ _ _
      | exact line_Lines.mono _ _
      | exact LeO.none _
      | refine LeO.ite ?_ ?_
      | refine LeO.bind ?_ (fun _ => ?_)
set_option maxHeartbeats 8000000 in
set_option maxRecDepth 100000 in
theorem cue_Declared.calls (k : Nat) (a0 : ByteArray) (r : ByteArray) (w : World) (h : cue_Declared.f k a0 = some r) :
    Calls Tryd.prog 13 #[.string a0] w fun e w' => e = .returned (.string r) ∧ Below w.heap.size w w' := by
  have hu53 := Tryd.underlying53
  have HB := Aside0.mk (Below.refl w.heap.size w)
  have H : ((line_Lines.f k a0).bind fun t351 => (cue_Declared.l0 k t351 (t351.length : Int) 0)) = some r := h
  clear h
  replace H := Option.bind_eq_some_iff.mp H
  obtain ⟨t351, A20, H⟩ := H
  replace H : (cue_Declared.l0 k t351 (t351.length : Int) 0) = some r := H
  have A2 := Aside0.mk A20
  clear A20
  have H' := Aside0.mk H
  clear H
  go_enter Tryd.func13, Tryd.ntmps13
  go_wp2_with (first | ((with_reducible refine gate_callee (f := 29) rfl ?_); refine goesL_ (some 8) rfl rfl Tryd.func29 (by kernel_rfl) rfl #[.string a0] rfl q_2 ?_; (with_reducible refine (line_Lines.calls k a0 t351 _ A2.out).mono ?_); rintro e w3 ⟨v352, rfl, ho0, hb⟩; refine ⟨_, rfl, ?_⟩; have n0_ := Aside0.mk (Kd.R_lower ho0 (below_size q_1)); have n1_ := Aside0.mk (below_step q_1 hb); clear HB; have HO353 := n0_; have HB := n1_; clear n0_ n1_; (try clear hb); (try clear hb2); (try clear hk); (try clear hi); (try clear ho0); obtain ⟨Ao4, co4, eo4⟩ := Kd.R_slice HO353.out; subst eo4))
  go_loopg [10] k (fun kq v10 w' => ∃ (x10_1 : Int), v10 = .int .i64 x10_1 ∧ Aside0 (cue_Declared.l0 kq t351 (t351.length : Int) x10_1 = some r) ∧ Aside0 (kq ≤ k) ∧ Aside0 (Kd.R k53 53 w' w.heap.size (fun _ => True) (.slice Ao4 t351.length co4) t351) ∧ Aside0 (Below w.heap.size w w'))
  case atStart => exact ⟨(0), q_5, H', ⟨Nat.le_refl _⟩, ⟨by (with_reducible repeat (first | apply Kd.R_alloc | apply Kd.R_drewN | apply Kd.R_drew)); exact HO353.out⟩, ⟨q_1⟩⟩
  case round =>
    clear H'
    try clear c1; try clear c2; try clear p2
    obtain ⟨x10_1, rfl, HA, HK1, HO_8, HB⟩ := hrel
    cases gk with
    | zero => exact absurd HA.out (by simp [cue_Declared.l0])
    | succ k1 =>
      have H := HA.out
      clear HA
      simp only [cue_Declared.l0] at H
      by_cases c5 : x10_1 < (t351.length : Int)
      · rw [if_pos c5] at H
        have c5b0 : decide (x10_1 < (t351.length : Int)) = true := decide_eq_true c5
        clear c5
        by_cases c6 : 0 ≤ x10_1
        · rw [if_pos c6] at H
          have c6b0 : decide (0 ≤ x10_1) = true := decide_eq_true c6
          clear c6
          by_cases c7 : x10_1 < (t351.length : Int)
          · rw [if_pos c7] at H
            have c7b0 : decide (x10_1 < (t351.length : Int)) = true := decide_eq_true c7
            clear c7
            replace H := Option.bind_eq_some_iff.mp H
            obtain ⟨⟨t356, t357⟩, A80, H⟩ := H
            replace H : (if t357 = true then (some t356) else (cue_Declared.l0 k1 t351 (t351.length : Int) (wrap64 (x10_1 + 1)))) = some r := H
            have A8 := Aside0.mk A80
            clear A80
            by_cases c9 : t357 = true
            · subst c9
              have H1 : (some t356) = some r := by rw [if_pos rfl] at H; exact H
              clear H
              have H := H1
              clear H1
              obtain rfl := Option.some.inj H
              have p354 : 0 ≤ (x10_1 : Int) := of_decide_eq_true q_6
              have q354 : x10_1 < (t351.length : Int) := of_decide_eq_true q_6
              obtain ⟨ad354, e354, hx354_0, hx354_1, hx354_2⟩ := at_T53 (Kd.R_reads' HO_8.out).2.2 x10_1 p354 q354
              cases e354
              replace p354 := eq_true p354
              replace q354 := eq_true q354
              go_wp2_with (first | ((with_reducible refine gate_dst (N := 4) rfl ?_); refine box_event ?hg (N := 4) ?hd (cs := #[.string (⟨#[]⟩ : ByteArray), .string (⟨#[]⟩ : ByteArray), .int .i64 0]) (t := 53) ?hr ?_; (case hd => rfl); (case hg => rfl); (case hr => first | (go_simp; done) | (go_simp; rfl)); intro gb355 hg w10 hbox hb; have n0_ := Aside0.mk (Kd.R_below (Kd.R_elderB q_68 gb355 (Nat.le_of_eq hg.symm)) hb); have n1_ := Aside0.mk (below_step q_1 hb); have n2_ := Aside0.mk (hbox); have n3_ := Aside0.mk ((by rw [hg]; exact (below_size q_1) : w.heap.size ≤ gb355)); have n4_ := Aside0.mk ((by rw [hg]; exact (below_size q_1) : w.heap.size ≤ gb355)); clear HO_8; clear HB; have HO_8 := n0_; have HB := n1_; have BK355 := n2_; have GW355 := n3_; have GE355 := n4_; clear n0_ n1_ n2_ n3_ n4_; clear hb hbox hg; obtain ⟨hcz11_0, hcz11_1, hcz11_2, hfz11_0, hfz11_1, hfz11_2⟩ := cells3_ BK355.out) | ((with_reducible refine gate_callee (f := 30) rfl ?_); refine goesL_ (some 17) rfl rfl Tryd.func30 (by kernel_rfl) rfl #[.string ((rd_T53 t351 x10_1).f0), .string (⟨#[82, 69, 77, 32, 67, 72, 65, 82, 83, 69, 84, 32]⟩ : ByteArray)] rfl q_2 ?_; (with_reducible refine (strings_CutPrefix.calls ((rd_T53 t351 x10_1).f0) (⟨#[82, 69, 77, 32, 67, 72, 65, 82, 83, 69, 84, 32]⟩ : ByteArray) t356 true _ A8.out).mono ?_); rintro e w' ⟨rfl, ⟨nd, rfl⟩⟩; refine ⟨_, rfl, ?_⟩))
              go_ret
              exact ⟨q_10, by repeat (first | (with_reducible first | exact HB.out | apply below_alloc | apply pw_below_drewN | apply below_drew1 | refine below_set ?_ GE355.out) | exact HB.out)⟩
            · replace c9 := Bool.eq_false_iff.mpr c9
              subst c9
              have H1 : (cue_Declared.l0 k1 t351 (t351.length : Int) (wrap64 (x10_1 + 1))) = some r := by rw [if_neg (show ¬ (false = true) by decide)] at H; exact H
              clear H
              have H := H1
              clear H1
              have H' := Aside0.mk H
              clear H
              have p354 : 0 ≤ (x10_1 : Int) := of_decide_eq_true q_6
              have q354 : x10_1 < (t351.length : Int) := of_decide_eq_true q_6
              obtain ⟨ad354, e354, hx354_0, hx354_1, hx354_2⟩ := at_T53 (Kd.R_reads' HO_8.out).2.2 x10_1 p354 q354
              cases e354
              replace p354 := eq_true p354
              replace q354 := eq_true q354
              go_wp2_with (first | ((with_reducible refine gate_dst (N := 4) rfl ?_); refine box_event ?hg (N := 4) ?hd (cs := #[.string (⟨#[]⟩ : ByteArray), .string (⟨#[]⟩ : ByteArray), .int .i64 0]) (t := 53) ?hr ?_; (case hd => rfl); (case hg => rfl); (case hr => first | (go_simp; done) | (go_simp; rfl)); intro gb355 hg w12 hbox hb; have n0_ := Aside0.mk (Kd.R_below (Kd.R_elderB q_68 gb355 (Nat.le_of_eq hg.symm)) hb); have n1_ := Aside0.mk (below_step q_1 hb); have n2_ := Aside0.mk (hbox); have n3_ := Aside0.mk ((by rw [hg]; exact (below_size q_1) : w.heap.size ≤ gb355)); have n4_ := Aside0.mk ((by rw [hg]; exact (below_size q_1) : w.heap.size ≤ gb355)); clear HO_8; clear HB; have HO_8 := n0_; have HB := n1_; have BK355 := n2_; have GW355 := n3_; have GE355 := n4_; clear n0_ n1_ n2_ n3_ n4_; clear hb hbox hg; obtain ⟨hcz13_0, hcz13_1, hcz13_2, hfz13_0, hfz13_1, hfz13_2⟩ := cells3_ BK355.out) | ((with_reducible refine gate_callee (f := 30) rfl ?_); refine goesL_ (some 17) rfl rfl Tryd.func30 (by kernel_rfl) rfl #[.string ((rd_T53 t351 x10_1).f0), .string (⟨#[82, 69, 77, 32, 67, 72, 65, 82, 83, 69, 84, 32]⟩ : ByteArray)] rfl q_2 ?_; (with_reducible refine (strings_CutPrefix.calls ((rd_T53 t351 x10_1).f0) (⟨#[82, 69, 77, 32, 67, 72, 65, 82, 83, 69, 84, 32]⟩ : ByteArray) t356 false _ A8.out).mono ?_); rintro e w' ⟨rfl, ⟨nd, rfl⟩⟩; refine ⟨_, rfl, ?_⟩))
              go_roundg k1
              case measure => have := HK1.out; omega
              case rel => exact ⟨(wrap64 (x10_1 + 1)), q_5, H', ⟨by have := HK1.out; omega⟩, ⟨by (with_reducible repeat (first | apply Kd.R_alloc | apply Kd.R_drewN | apply Kd.R_drew)); exact Kd.R_mono (Kd.R_far (p := ⟨gb355, 2, none⟩) (Kd.R_far (p := ⟨gb355, 1, none⟩) (Kd.R_far (p := ⟨gb355, 0, none⟩) (Kd.R_mono HO_8.out (fun k_ hk => (⟨hk, hk.2⟩ : _ ∧ k_ ≠ gb355))) (fun _ hk => hk.2) (.string ((rd_T53 t351 x10_1).f0))) (fun _ hk => hk.2) (.string ((rd_T53 t351 x10_1).f1))) (fun _ hk => hk.2) (.int .i64 ((rd_T53 t351 x10_1).f2))) (fun _ hk => trivial)⟩, ⟨by repeat (first | (with_reducible first | exact HB.out | apply below_alloc | apply pw_below_drewN | apply below_drew1 | refine below_set ?_ GE355.out) | exact HB.out)⟩⟩
          · rw [if_neg c7] at H
            exact absurd H (by simp)
        · rw [if_neg c6] at H
          exact absurd H (by simp)
      · rw [if_neg c5] at H
        have c5b0 : decide (x10_1 < (t351.length : Int)) = false := decide_eq_false c5
        clear c5
        obtain rfl := Option.some.inj H
        go_wp2
        go_ret
        exact ⟨q_10, q_1⟩

end Go.Proofs.YtkhiiilfokijgaaDoor.PAll
