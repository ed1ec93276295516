/- Written by a program of this session: functions of the Go program as Lean functions, and the walks that tie them to it. -/
import Derived.Test.YtkhiiilfokijgaaDoorPAllx0
import Derived.Test.YtkhiiilfokijgaaDoorPAllx6
import Derived.Test.YtkhiiilfokijgaaDoorPAllx11
import Derived.Test.YtkhiiilfokijgaaDoorPAllx12
import Derived.Test.YtkhiiilfokijgaaDoorPAllx13
namespace Go.Proofs.YtkhiiilfokijgaaDoor.PAll
open Go.RowKit Go.Proofs.YtkhiiilfokijgaaDoorW.PrintWords Go.Proofs.YtkhiiilfokijgaaDoorW.PrintLast Go.Proofs.YtkhiiilfokijgaaDoorW.PrintMore
attribute [local go_sem] max2_int min2_int max_two min_two max_three min_three max_four min_four   -- for this text's walks alone
set_option linter.unusedVariables false
set_option linter.unusedSimpArgs false

/-! ### line_Walk: function 26 -/
def line_Walk.l0 : Nat → List (S30) → List (S53) → Int → Int → Option ((List (S30)) × Int × Int)
  | 0, _, _, _, _ => none
  | k + 1, x6, x12, x13, x14 => if x14 < x13 then (if 0 ≤ x14 then (if x14 < (x12.length : Int) then ((cue_Pieces.f k ((rd_T53 x12 x14).f0)).bind fun bt226 => (if bt226.2 = true then (if x6.length + bt226.1.length < 3518437208883 then ((some (x6 ++ bt226.1 : List (S30))).bind fun y230 => (if ((rd_T53 x12 x14).f1).toList = ([] : List UInt8) then (line_Walk.l0 k y230 x12 x13 (wrap64 (x14 + 1))) else ((line_Mark.f (([(rd_T53 x12 x14).f1] : List ByteArray))).bind fun bt236 => (if y230.length < 3518437208883 then (line_Walk.l0 k (y230 ++ [(⟨bt236.1, bt236.2.1, bt236.2.2⟩ : S30)]) x12 x13 (wrap64 (x14 + 1))) else (none))))) else (none)) else (some (([] : List (S30)), 1, (rd_T53 x12 x14).f2)))) else (none)) else (none)) else (some (x6, 0, 0))
def line_Walk.f (k : Nat) (a0 : ByteArray)  : Option ((List (S30)) × Int × Int) := (line_Lines.f k a0).bind fun t221 => (line_Walk.l0 k ([] : List (S30)) t221 (t221.length : Int) 0)
theorem line_Walk.mono_l : ∀ k, (∀ y0 y1 y2 y3, LeO (line_Walk.l0 k y0 y1 y2 y3) (line_Walk.l0 (k + 1) y0 y1 y2 y3))
  | 0 => fun _ _ _ _ r h => by simp [line_Walk.l0] at h
  | k + 1 => by
    have ih0 := line_Walk.mono_l k
    · intro y0 y1 y2 y3
      unfold line_Walk.l0
      repeat' first
      | (with_reducible exact ih0 _ _ _ _)
      | (with_reducible exact cue_Pieces.mono _ _)
      | (with_reducible exact line_Lines.mono _ _)
      | (with_reducible exact LeO.refl _)
      | (with_reducible exact LeO.none _)
      | (with_reducible refine LeO.ite ?_ ?_)
      | (with_reducible refine LeO.bind ?_ (fun _ => ?_))
      | exact ih0 _ _ _ _
      | exact cue_Pieces.mono _ _
      | exact line_Lines.mono _ _
      | exact LeO.none _
      | refine LeO.ite ?_ ?_
      | refine LeO.bind ?_ (fun _ => ?_)
theorem line_Walk.mono : ∀ a0 k, LeO (line_Walk.f k a0) (line_Walk.f (k + 1) a0) := by
  intro a0 k
  have ih0 := line_Walk.mono_l k
  unfold line_Walk.f
  repeat' first
      | (with_reducible exact ih0 _ _ _ _)
      | (with_reducible exact cue_Pieces.mono _ _)
      | (with_reducible exact line_Lines.mono _ _)
      | (with_reducible exact LeO.refl _)
      | (with_reducible exact LeO.none _)
      | (with_reducible refine LeO.ite ?_ ?_)
      | (with_reducible refine LeO.bind ?_ (fun _ => ?_))
      | exact ih0 _ _ _ _
      | exact cue_Pieces.mono _ _
      | exact line_Lines.mono _ _
      | exact LeO.none _
      | refine LeO.ite ?_ ?_
      | refine LeO.bind ?_ (fun _ => ?_)
set_option maxHeartbeats 8000000 in
set_option maxRecDepth 100000 in
theorem line_Walk.calls (k : Nat) (a0 : ByteArray)  (r1 : List (S30)) (r2 : Int) (r3 : Int) (w : World) (hG : GM w) (h : line_Walk.f k a0 = some (r1, r2, r3)) :
    Calls Tryd.prog 26 #[.string a0, .func (.func 27) #[] #[]] w fun e w' => ∃ v0_ : Value, e = .returned (.tuple #[v0_, .agg #[.int .i64 r2, .int .i64 r3]]) ∧ Kd.R k30 30 w' w.heap.size (fun _ => True) v0_ r1 ∧ Below w.heap.size w w' := by
  have hu26 := Tryd.underlying26
  have hu53 := Tryd.underlying53
  have HB := Aside0.mk (Below.refl w.heap.size w)
  have HG := Aside0.mk hG
  clear hG
  have H : ((line_Lines.f k a0).bind fun t221 => (line_Walk.l0 k ([] : List (S30)) t221 (t221.length : Int) 0)) = some (r1, r2, r3) := h
  clear h
  replace H := Option.bind_eq_some_iff.mp H
  obtain ⟨t221, A30, H⟩ := H
  replace H : (line_Walk.l0 k ([] : List (S30)) t221 (t221.length : Int) 0) = some (r1, r2, r3) := H
  have A3 := Aside0.mk A30
  clear A30
  have H' := Aside0.mk H
  clear H
  go_enter Tryd.func26, Tryd.ntmps26
  go_wp2_with (first | ((with_reducible refine gate_dst (N := 5) rfl ?_); refine box_event ?hg (N := 5) ?hd (cs := #[.int .i64 0, .int .i64 0]) (t := 26) ?hr ?_; (case hd => rfl); (case hg => rfl); (case hr => first | (go_simp; done) | (go_simp; rfl)); intro gb220 hg w4 hbox hb; have n0_ := Aside0.mk (below_step q_1 hb); have n1_ := Aside0.mk (hbox); have n2_ := Aside0.mk ((by rw [hg]; exact (below_size q_1) : w.heap.size ≤ gb220)); have n3_ := Aside0.mk ((by rw [hg]; exact (below_size q_1) : w.heap.size ≤ gb220)); clear HB; have HB := n0_; have BK220 := n1_; have GW220 := n2_; have GE220 := n3_; clear n0_ n1_ n2_ n3_; clear hb hbox hg) | ((with_reducible refine gate_callee (f := 29) rfl ?_); refine goesL_ (some 12) rfl rfl Tryd.func29 (by kernel_rfl) rfl #[.string a0] rfl q_2 ?_; (with_reducible refine (line_Lines.calls k a0 t221 _ A3.out).mono ?_); rintro e w5 ⟨v222, rfl, ho0, hb⟩; refine ⟨_, rfl, ?_⟩; have n0_ := Aside0.mk (Kd.R_lower ho0 (below_size q_32)); have n1_ := Aside0.mk (blk_below (g := gb220) (o := .cells #[.int .i64 0, .int .i64 0] 26 (0, 0)) q_33 hb); have n2_ := Aside0.mk (below_step q_32 hb); clear BK220; clear HB; have HO223 := n0_; have BK220 := n1_; have HB := n2_; clear n0_ n1_ n2_; (try clear hb); (try clear hb2); (try clear hk); (try clear hi); (try clear ho0); obtain ⟨Ao6, co6, eo6⟩ := Kd.R_slice HO223.out; subst eo6))
  go_loopg [6, 14] k (fun kq v6 v14 w' => ∃ (x6_1 : List (S30)) (x14_1 : Int) (x221000_1 : Int) (x221001_1 : Int), v14 = .int .i64 x14_1 ∧ Aside0 (line_Walk.l0 kq x6_1 t221 (t221.length : Int) x14_1 = some (r1, r2, r3)) ∧ Aside0 (kq ≤ k) ∧ Aside0 (Kd.R k30 30 w' w.heap.size (fun _ => True) v6 x6_1) ∧ Aside0 (Kd.R k53 53 w' w.heap.size (fun _ => True) (.slice Ao6 t221.length co6) t221) ∧ Aside0 (w'.heap[gb220]? = some (.cells #[.int .i64 x221000_1, .int .i64 x221001_1] 26 (0, 0))) ∧ Aside0 (Below w.heap.size w w'))
  case atStart => exact ⟨(([] : List (S30))), (0), (0), (0), q_5, H', ⟨Nat.le_refl _⟩, ⟨q_11⟩, ⟨by (with_reducible repeat (first | apply Kd.R_alloc | apply Kd.R_drewN | apply Kd.R_drew)); exact HO223.out⟩, ⟨q_33⟩, ⟨q_32⟩⟩
  case round =>
    clear H'
    try clear c2; try clear p2
    obtain ⟨x6_1, x14_1, x221000_1, x221001_1, rfl, HA, HK1, HO_6, HO_12, BK220, HB⟩ := hrel
    cases gk with
    | zero => exact absurd HA.out (by simp [line_Walk.l0])
    | succ k1 =>
      have H := HA.out
      clear HA
      simp only [line_Walk.l0] at H
      by_cases c7 : x14_1 < (t221.length : Int)
      · rw [if_pos c7] at H
        have c7b0 : decide (x14_1 < (t221.length : Int)) = true := decide_eq_true c7
        clear c7
        by_cases c8 : 0 ≤ x14_1
        · rw [if_pos c8] at H
          have c8b0 : decide (0 ≤ x14_1) = true := decide_eq_true c8
          clear c8
          by_cases c9 : x14_1 < (t221.length : Int)
          · rw [if_pos c9] at H
            have c9b0 : decide (x14_1 < (t221.length : Int)) = true := decide_eq_true c9
            clear c9
            replace H := Option.bind_eq_some_iff.mp H
            obtain ⟨⟨t226, t227⟩, A100, H⟩ := H
            replace H : (if t227 = true then (if x6_1.length + t226.length < 3518437208883 then ((some (x6_1 ++ t226 : List (S30))).bind fun y230 => (if ((rd_T53 t221 x14_1).f1).toList = ([] : List UInt8) then (line_Walk.l0 k1 y230 t221 (t221.length : Int) (wrap64 (x14_1 + 1))) else ((line_Mark.f (([(rd_T53 t221 x14_1).f1] : List ByteArray))).bind fun bt236 => (if y230.length < 3518437208883 then (line_Walk.l0 k1 (y230 ++ [(⟨bt236.1, bt236.2.1, bt236.2.2⟩ : S30)]) t221 (t221.length : Int) (wrap64 (x14_1 + 1))) else (none))))) else (none)) else (some (([] : List (S30)), 1, (rd_T53 t221 x14_1).f2))) = some (r1, r2, r3) := H
            have A10 := Aside0.mk A100
            clear A100
            by_cases c11 : t227 = true
            · subst c11
              have H1 : (if x6_1.length + t226.length < 3518437208883 then ((some (x6_1 ++ t226 : List (S30))).bind fun y230 => (if ((rd_T53 t221 x14_1).f1).toList = ([] : List UInt8) then (line_Walk.l0 k1 y230 t221 (t221.length : Int) (wrap64 (x14_1 + 1))) else ((line_Mark.f (([(rd_T53 t221 x14_1).f1] : List ByteArray))).bind fun bt236 => (if y230.length < 3518437208883 then (line_Walk.l0 k1 (y230 ++ [(⟨bt236.1, bt236.2.1, bt236.2.2⟩ : S30)]) t221 (t221.length : Int) (wrap64 (x14_1 + 1))) else (none))))) else (none)) = some (r1, r2, r3) := by rw [if_pos rfl] at H; exact H
              clear H
              have H := H1
              clear H1
              by_cases c12 : x6_1.length + t226.length < 3518437208883
              · rw [if_pos c12] at H
                have LMc12 := Aside0.mk c12
                clear c12
                obtain ⟨y230, hy230⟩ : ∃ y_ : List (S30), y_ = (x6_1 ++ t226) := ⟨_, rfl⟩
                replace H : (if ((rd_T53 t221 x14_1).f1).toList = ([] : List UInt8) then (line_Walk.l0 k1 y230 t221 (t221.length : Int) (wrap64 (x14_1 + 1))) else ((line_Mark.f (([(rd_T53 t221 x14_1).f1] : List ByteArray))).bind fun bt236 => (if y230.length < 3518437208883 then (line_Walk.l0 k1 (y230 ++ [(⟨bt236.1, bt236.2.1, bt236.2.2⟩ : S30)]) t221 (t221.length : Int) (wrap64 (x14_1 + 1))) else (none)))) = some (r1, r2, r3) := by first | (rw [hy230]; with_reducible exact H) | (have H2_ := (Option.bind_some _ _).symm.trans H; rw [hy230]; with_reducible exact H2_) | (have H2_ := (Option.bind_some _ _).symm.trans H; with_reducible exact H2_) | with_reducible exact H | (rw [hy230]; exact H) | exact H
                have Ny230 := Aside0.mk hy230
                clear hy230
                by_cases c13 : ((rd_T53 t221 x14_1).f1).toList = ([] : List UInt8)
                · rw [if_pos c13] at H
                  have c13b0 : (((rd_T53 t221 x14_1).f1).toList == ([] : List UInt8)) = true := beq_iff_eq.mpr c13
                  have c13b1 : (((rd_T53 t221 x14_1).f1).toList != ([] : List UInt8)) = false := bne_eq_false_iff_eq.mpr c13
                  clear c13
                  have H' := Aside0.mk H
                  clear H
                  have p224 : 0 ≤ (x14_1 : Int) := of_decide_eq_true q_6
                  have q224 : x14_1 < (t221.length : Int) := of_decide_eq_true q_6
                  obtain ⟨ad224, e224, hx224_0, hx224_1, hx224_2⟩ := at_T53 (Kd.R_reads' HO_12.out).2.2 x14_1 p224 q224
                  cases e224
                  replace p224 := eq_true p224
                  replace q224 := eq_true q224
                  go_wp2_with (first | ((with_reducible refine gate_dst (N := 8) rfl ?_); refine box_event ?hg (N := 8) ?hd (cs := #[.string (⟨#[]⟩ : ByteArray), .string (⟨#[]⟩ : ByteArray), .int .i64 0]) (t := 53) ?hr ?_; (case hd => rfl); (case hg => rfl); (case hr => first | (go_simp; done) | (go_simp; rfl)); intro gb225 hg w14 hbox hb; have n0_ := Aside0.mk (Kd.R_below q_34 hb); have n1_ := Aside0.mk (Kd.R_below (Kd.R_elderB q_35 gb225 (Nat.le_of_eq hg.symm)) hb); have n2_ := Aside0.mk (blk_below (g := gb220) (o := .cells #[.int .i64 x221000_1, .int .i64 x221001_1] 26 (0, 0)) q_33 hb); have n3_ := Aside0.mk (below_step q_32 hb); have n4_ := Aside0.mk (hbox); have n5_ := Aside0.mk ((by rw [hg]; exact (below_size q_32) : w.heap.size ≤ gb225)); have n6_ := Aside0.mk ((by rw [hg]; exact (below_size q_32) : w.heap.size ≤ gb225)); have n7_ := Aside0.mk ((q_106 : gb220 ≠ gb225)); have n8_ := Aside0.mk ((q_107 : gb225 ≠ gb220)); clear HO_6; clear HO_12; clear BK220; clear HB; have HO_6 := n0_; have HO_12 := n1_; have BK220 := n2_; have HB := n3_; have BK225 := n4_; have GW225 := n5_; have GE225 := n6_; have NB220_225 := n7_; have NB225_220 := n8_; clear n0_ n1_ n2_ n3_ n4_ n5_ n6_ n7_ n8_; clear hb hbox hg; have hnb15 := NB225_220.out; have hnc15 := NB220_225.out; obtain ⟨hcz16_0, hcz16_1, hcz16_2, hfz16_0, hfz16_1, hfz16_2⟩ := cells3_ BK225.out) | (go_at_call 27; (with_reducible refine (cue_Pieces.calls k1 ((rd_T53 t221 x14_1).f0) t226 true _ (GM.below HG.out q_36) A10.out).mono ?_); rintro e w17 ⟨v228, rfl, ho0, hb⟩; have n0_ := Aside0.mk (Kd.R_elder' q_37 (Kd.R_base ho0) hb); have n1_ := Aside0.mk (Kd.R_below q_38 hb); have n2_ := Aside0.mk (Kd.R_lower (Kd.R_new' ho0 (Kd.R_lt q_37)) (below_size q_36)); have n3_ := Aside0.mk (blk_below (g := gb220) (o := .cells #[.int .i64 x221000_1, .int .i64 x221001_1] 26 (0, 0)) q_39 hb); have n4_ := Aside0.mk (blk_below (g := gb225) (o := .cells #[.string ((rd_T53 t221 x14_1).f0), .string ((rd_T53 t221 x14_1).f1), .int .i64 ((rd_T53 t221 x14_1).f2)] 53 (0, 0)) q_40 hb); have n5_ := Aside0.mk (below_step q_36 hb); clear HO_6; clear HO_12; clear BK220; clear BK225; clear HB; have HO_6 := n0_; have HO_12 := n1_; have HO229 := n2_; have BK220 := n3_; have BK225 := n4_; have HB := n5_; clear n0_ n1_ n2_ n3_ n4_ n5_; (try clear hb); (try clear hb2); (try clear hk); (try clear hi); (try clear ho0); obtain ⟨Ao19, co19, eo19⟩ := Kd.R_slice HO229.out; subst eo19) | ((with_reducible refine gate_builtin (b := .append) (xs := #[.tmp 30, .tmp 31]) rfl ?_); at_builtin; refine Kd.R_append_rows k30 (w0 := w) w.heap.size rfl (.tmp 30) (.tmp 31) 23 30 (.agg #[(.bool false), (.string ⟨#[]⟩), (.string ⟨#[]⟩)]) 40 rfl Tryd.underlying23 info30 rfl (by decide) (by omega) u6 x6_1 t226 _ _ _ (fun k_ => some k_ ≠ (.slice Ao19 t226.length co19 : Value).ownBlock) (fun _ => False) rfl rfl ?aO ?aR (fun _ _ h => h) (fun _ h => h.elim) ?aF ?aB ?aS ?aL ?_; (case aR => repeat (first | exact (Kd.R_reads' HO229.out).2.2 | (with_reducible refine Kd.C_alloc ?_ _) | (with_reducible refine Kd.C_drewN ?_ _) | (with_reducible refine Kd.C_drew ?_))); (case aB => exact q_36); (case aF => exact (fun k_ hk => Kd.fresh' (Kd.R_lt q_41) k_ hk)); (case aO => exact (by (with_reducible repeat (first | apply Kd.R_alloc | apply Kd.R_drewN | apply Kd.R_drew)); exact Kd.R_mono HO_6.out (fun _ hk => hk.2))); (case aS => exact (below_size q_36)); (case aL => have := LMc12.out; omega); intro v231 w18 ho hb hg hat; rw [← Ny230.out] at ho; have n0_ := Aside0.mk (Kd.R_over' q_35 (Kd.R_typed q_34) (by decide) hg); have n1_ := Aside0.mk (blk_grown (g := gb220) (o := .cells #[.int .i64 x221000_1, .int .i64 x221001_1] 26 (0, 0)) q_33 hg (Kd.R_ne HO_6.out BK220.out (by decide))); have n2_ := Aside0.mk (blk_grown (g := gb225) (o := .cells #[.string ((rd_T53 t221 x14_1).f0), .string ((rd_T53 t221 x14_1).f1), .int .i64 ((rd_T53 t221 x14_1).f2)] 53 (0, 0)) q_42 hg (Kd.R_ne HO_6.out BK225.out (by decide))); have n3_ := Aside0.mk (Kd.R_after (ok := (fun _ => True)) q_41 hg hat); have n4_ := Aside0.mk (hb); have n5_ := Aside0.mk (ho); clear HO_12; clear BK220; clear BK225; clear HO229; clear HB; clear HO_6; have HO_12 := n0_; have BK220 := n1_; have BK225 := n2_; have HO229 := n3_; have HB := n4_; have HO232 := n5_; clear n0_ n1_ n2_ n3_ n4_ n5_; clear ho hb hg hat; obtain ⟨hcz20_0, hcz20_1, hcz20_2, hfz20_0, hfz20_1, hfz20_2⟩ := cells3_ BK225.out))
                  go_roundg k1
                  case measure => have := HK1.out; omega
                  case rel => exact ⟨(y230), (wrap64 (x14_1 + 1)), (x221000_1), (x221001_1), q_5, H', ⟨by have := HK1.out; omega⟩, ⟨by (with_reducible repeat (first | apply Kd.R_alloc | apply Kd.R_drewN | apply Kd.R_drew)); exact Kd.R_mono HO232.out (fun _ hk => trivial)⟩, ⟨by (with_reducible repeat (first | apply Kd.R_alloc | apply Kd.R_drewN | apply Kd.R_drew)); exact Kd.R_mono HO_12.out (fun _ hk => trivial)⟩, ⟨q_33⟩, ⟨q_36⟩⟩
                · rw [if_neg c13] at H
                  have c13b0 : (((rd_T53 t221 x14_1).f1).toList == ([] : List UInt8)) = false := beq_eq_false_iff_ne.mpr c13
                  have c13b1 : (((rd_T53 t221 x14_1).f1).toList != ([] : List UInt8)) = true := bne_iff_ne.mpr c13
                  obtain ⟨y233, hy233⟩ : ∃ y_ : List ByteArray, y_ = (([(rd_T53 t221 x14_1).f1] : List ByteArray)) := ⟨_, rfl⟩
                  replace H : ((line_Mark.f y233).bind fun bt236 => (if y230.length < 3518437208883 then (line_Walk.l0 k1 (y230 ++ [(⟨bt236.1, bt236.2.1, bt236.2.2⟩ : S30)]) t221 (t221.length : Int) (wrap64 (x14_1 + 1))) else (none))) = some (r1, r2, r3) := by first | (rw [hy233]; with_reducible exact H) | (have H2_ := (Option.bind_some _ _).symm.trans H; rw [hy233]; with_reducible exact H2_) | (have H2_ := (Option.bind_some _ _).symm.trans H; with_reducible exact H2_) | with_reducible exact H | (rw [hy233]; exact H) | exact H
                  have Ny233 := Aside0.mk hy233
                  clear hy233
                  replace H := Option.bind_eq_some_iff.mp H
                  obtain ⟨⟨t236, t237, t238⟩, A210, H⟩ := H
                  replace H : (if y230.length < 3518437208883 then (line_Walk.l0 k1 (y230 ++ [(⟨t236, t237, t238⟩ : S30)]) t221 (t221.length : Int) (wrap64 (x14_1 + 1))) else (none)) = some (r1, r2, r3) := H
                  have A21 := Aside0.mk A210
                  clear A210
                  by_cases c22 : y230.length < 3518437208883
                  · rw [if_pos c22] at H
                    have LMc22 := Aside0.mk c22
                    clear c22
                    obtain ⟨y239, hy239⟩ : ∃ y_ : List (S30), y_ = (y230 ++ [(⟨t236, t237, t238⟩ : S30)]) := ⟨_, rfl⟩
                    replace H : (line_Walk.l0 k1 y239 t221 (t221.length : Int) (wrap64 (x14_1 + 1))) = some (r1, r2, r3) := by first | (rw [hy239]; with_reducible exact H) | (have H2_ := (Option.bind_some _ _).symm.trans H; rw [hy239]; with_reducible exact H2_) | (have H2_ := (Option.bind_some _ _).symm.trans H; with_reducible exact H2_) | with_reducible exact H | (rw [hy239]; exact H) | exact H
                    have Ny239 := Aside0.mk hy239
                    clear hy239
                    have H' := Aside0.mk H
                    clear H
                    have p224 : 0 ≤ (x14_1 : Int) := of_decide_eq_true q_6
                    have q224 : x14_1 < (t221.length : Int) := of_decide_eq_true q_6
                    obtain ⟨ad224, e224, hx224_0, hx224_1, hx224_2⟩ := at_T53 (Kd.R_reads' HO_12.out).2.2 x14_1 p224 q224
                    cases e224
                    replace p224 := eq_true p224
                    replace q224 := eq_true q224
                    go_wp2_with (first | ((with_reducible refine gate_dst (N := 8) rfl ?_); refine box_event ?hg (N := 8) ?hd (cs := #[.string (⟨#[]⟩ : ByteArray), .string (⟨#[]⟩ : ByteArray), .int .i64 0]) (t := 53) ?hr ?_; (case hd => rfl); (case hg => rfl); (case hr => first | (go_simp; done) | (go_simp; rfl)); intro gb225 hg w23 hbox hb; have n0_ := Aside0.mk (Kd.R_below q_34 hb); have n1_ := Aside0.mk (Kd.R_below (Kd.R_elderB q_35 gb225 (Nat.le_of_eq hg.symm)) hb); have n2_ := Aside0.mk (blk_below (g := gb220) (o := .cells #[.int .i64 x221000_1, .int .i64 x221001_1] 26 (0, 0)) q_33 hb); have n3_ := Aside0.mk (below_step q_32 hb); have n4_ := Aside0.mk (hbox); have n5_ := Aside0.mk ((by rw [hg]; exact (below_size q_32) : w.heap.size ≤ gb225)); have n6_ := Aside0.mk ((by rw [hg]; exact (below_size q_32) : w.heap.size ≤ gb225)); have n7_ := Aside0.mk ((q_106 : gb220 ≠ gb225)); have n8_ := Aside0.mk ((q_107 : gb225 ≠ gb220)); clear HO_6; clear HO_12; clear BK220; clear HB; have HO_6 := n0_; have HO_12 := n1_; have BK220 := n2_; have HB := n3_; have BK225 := n4_; have GW225 := n5_; have GE225 := n6_; have NB220_225 := n7_; have NB225_220 := n8_; clear n0_ n1_ n2_ n3_ n4_ n5_ n6_ n7_ n8_; clear hb hbox hg; have hnb24 := NB225_220.out; have hnc24 := NB220_225.out; obtain ⟨hcz25_0, hcz25_1, hcz25_2, hfz25_0, hfz25_1, hfz25_2⟩ := cells3_ BK225.out) | (go_at_call 27; (with_reducible refine (cue_Pieces.calls k1 ((rd_T53 t221 x14_1).f0) t226 true _ (GM.below HG.out q_36) A10.out).mono ?_); rintro e w26 ⟨v228, rfl, ho0, hb⟩; have n0_ := Aside0.mk (Kd.R_elder' q_37 (Kd.R_base ho0) hb); have n1_ := Aside0.mk (Kd.R_below q_38 hb); have n2_ := Aside0.mk (Kd.R_lower (Kd.R_new' ho0 (Kd.R_lt q_37)) (below_size q_36)); have n3_ := Aside0.mk (blk_below (g := gb220) (o := .cells #[.int .i64 x221000_1, .int .i64 x221001_1] 26 (0, 0)) q_39 hb); have n4_ := Aside0.mk (blk_below (g := gb225) (o := .cells #[.string ((rd_T53 t221 x14_1).f0), .string ((rd_T53 t221 x14_1).f1), .int .i64 ((rd_T53 t221 x14_1).f2)] 53 (0, 0)) q_40 hb); have n5_ := Aside0.mk (below_step q_36 hb); clear HO_6; clear HO_12; clear BK220; clear BK225; clear HB; have HO_6 := n0_; have HO_12 := n1_; have HO229 := n2_; have BK220 := n3_; have BK225 := n4_; have HB := n5_; clear n0_ n1_ n2_ n3_ n4_ n5_; (try clear hb); (try clear hb2); (try clear hk); (try clear hi); (try clear ho0); obtain ⟨Ao28, co28, eo28⟩ := Kd.R_slice HO229.out; subst eo28) | ((with_reducible refine gate_builtin (b := .append) (xs := #[.tmp 30, .tmp 31]) rfl ?_); at_builtin; refine Kd.R_append_rows k30 (w0 := w) w.heap.size rfl (.tmp 30) (.tmp 31) 23 30 (.agg #[(.bool false), (.string ⟨#[]⟩), (.string ⟨#[]⟩)]) 40 rfl Tryd.underlying23 info30 rfl (by decide) (by omega) u6 x6_1 t226 _ _ _ (fun k_ => some k_ ≠ (.slice Ao28 t226.length co28 : Value).ownBlock) (fun _ => False) rfl rfl ?aO ?aR (fun _ _ h => h) (fun _ h => h.elim) ?aF ?aB ?aS ?aL ?_; (case aR => repeat (first | exact (Kd.R_reads' HO229.out).2.2 | (with_reducible refine Kd.C_alloc ?_ _) | (with_reducible refine Kd.C_drewN ?_ _) | (with_reducible refine Kd.C_drew ?_))); (case aB => exact q_36); (case aF => exact (fun k_ hk => Kd.fresh' (Kd.R_lt q_41) k_ hk)); (case aO => exact (by (with_reducible repeat (first | apply Kd.R_alloc | apply Kd.R_drewN | apply Kd.R_drew)); exact Kd.R_mono HO_6.out (fun _ hk => hk.2))); (case aS => exact (below_size q_36)); (case aL => have := LMc12.out; omega); intro v231 w27 ho hb hg hat; rw [← Ny230.out] at ho; have n0_ := Aside0.mk (Kd.R_over' q_35 (Kd.R_typed q_34) (by decide) hg); have n1_ := Aside0.mk (blk_grown (g := gb220) (o := .cells #[.int .i64 x221000_1, .int .i64 x221001_1] 26 (0, 0)) q_33 hg (Kd.R_ne HO_6.out BK220.out (by decide))); have n2_ := Aside0.mk (blk_grown (g := gb225) (o := .cells #[.string ((rd_T53 t221 x14_1).f0), .string ((rd_T53 t221 x14_1).f1), .int .i64 ((rd_T53 t221 x14_1).f2)] 53 (0, 0)) q_42 hg (Kd.R_ne HO_6.out BK225.out (by decide))); have n3_ := Aside0.mk (Kd.R_after (ok := (fun _ => True)) q_41 hg hat); have n4_ := Aside0.mk (hb); have n5_ := Aside0.mk (ho); clear HO_12; clear BK220; clear BK225; clear HO229; clear HB; clear HO_6; have HO_12 := n0_; have BK220 := n1_; have BK225 := n2_; have HO229 := n3_; have HB := n4_; have HO232 := n5_; clear n0_ n1_ n2_ n3_ n4_ n5_; clear ho hb hg hat; obtain ⟨hcz29_0, hcz29_1, hcz29_2, hfz29_0, hfz29_1, hfz29_2⟩ := cells3_ BK225.out) | ((with_reducible refine gate_dst (N := 39) rfl ?_); refine Kd.R_lit Kd.string _ 9 ?hg (N := 39) ?hd (xs := ([(rd_T53 t221 x14_1).f1] : List ByteArray)) (inner := [.string ((rd_T53 t221 x14_1).f1)]) (ok := fun _ => True) (okp := fun _ => True) ?hr ?hp (fun _ hk => hk) trivial (Below.refl _ _) (Nat.le_refl _) (by simp) ?_; (case hd => rfl); (case hg => rfl); (case hr => first | (go_simp; done) | (go_simp; rfl)); (case hp => exact (Reps.one (show Kd.M Kd.string _ _ _ ((rd_T53 t221 x14_1).f1) [.string ((rd_T53 t221 x14_1).f1)] from rfl) (Reps.none _ _))); intro v234 w30 ho31 hb hg_ hnew_; clear hg_ hnew_; (first | rw [← Ny233.out] at ho31 | (simp only [Int.reduceToNat] at ho31; rw [← Ny233.out] at ho31)); have n0_ := Aside0.mk (Kd.R_below q_35 hb); have n1_ := Aside0.mk (Kd.R_below q_41 hb); have n2_ := Aside0.mk (Kd.R_below q_43 hb); have n3_ := Aside0.mk (Kd.R_lower ho31 (below_size q_36)); have n4_ := Aside0.mk (blk_below (g := gb220) (o := .cells #[.int .i64 x221000_1, .int .i64 x221001_1] 26 (0, 0)) q_33 hb); have n5_ := Aside0.mk (blk_below (g := gb225) (o := .cells #[.string ((rd_T53 t221 x14_1).f0), .string ((rd_T53 t221 x14_1).f1), .int .i64 ((rd_T53 t221 x14_1).f2)] 53 (0, 0)) q_42 hb); have n6_ := Aside0.mk (below_step q_36 hb); clear HO_12; clear HO229; clear HO232; clear BK220; clear BK225; clear HB; have HO_12 := n0_; have HO229 := n1_; have HO232 := n2_; have HO235 := n3_; have BK220 := n4_; have BK225 := n5_; have HB := n6_; clear n0_ n1_ n2_ n3_ n4_ n5_ n6_; clear hb ho31; obtain ⟨Ao32, co32, eo32⟩ := Kd.R_slice HO235.out; subst eo32) | ((with_reducible refine gate_callee (f := 40) rfl ?_); refine goesL_ (some 40) rfl rfl Tryd.func40 (by kernel_rfl) rfl #[.slice Ao32 y233.length co32] rfl q_2 ?_; (with_reducible refine (line_Mark.calls _ _ y233 t236 t237 t238 _ ?side1 ?side2 A21.out).mono ?_); (case side1 => repeat (first | exact (Kd.R_reads' HO235.out).2.2 | (with_reducible refine Kd.C_alloc ?_ _) | (with_reducible refine Kd.C_drewN ?_ _) | (with_reducible refine Kd.C_drew ?_))); (case side2 => exact (Kd.R_reads' HO235.out).2.1); rintro e w33 ⟨rfl, hb⟩; refine ⟨_, rfl, ?_⟩; have n0_ := Aside0.mk (Kd.R_below q_35 hb); have n1_ := Aside0.mk (Kd.R_below q_41 hb); have n2_ := Aside0.mk (Kd.R_below q_43 hb); have n3_ := Aside0.mk (Kd.R_below (by (with_reducible repeat (first | apply Kd.R_alloc | apply Kd.R_drewN | apply Kd.R_drew)); exact HO235.out) hb); have n4_ := Aside0.mk (blk_below (g := gb220) (o := .cells #[.int .i64 x221000_1, .int .i64 x221001_1] 26 (0, 0)) q_33 hb); have n5_ := Aside0.mk (blk_below (g := gb225) (o := .cells #[.string ((rd_T53 t221 x14_1).f0), .string ((rd_T53 t221 x14_1).f1), .int .i64 ((rd_T53 t221 x14_1).f2)] 53 (0, 0)) q_42 hb); have n6_ := Aside0.mk (below_step q_36 hb); clear HO_12; clear HO229; clear HO232; clear HO235; clear BK220; clear BK225; clear HB; have HO_12 := n0_; have HO229 := n1_; have HO232 := n2_; have HO235 := n3_; have BK220 := n4_; have BK225 := n5_; have HB := n6_; clear n0_ n1_ n2_ n3_ n4_ n5_ n6_; (try clear hb); (try clear hb2); (try clear hk); (try clear hi)) | ((with_reducible refine gate_builtin (b := .append) (xs := #[.tmp 36, .tmp 41]) rfl ?_); at_builtin; refine Kd.R_append k30 (w0 := w) w.heap.size rfl (.tmp 36) (.tmp 41) 23 30 (.agg #[(.bool false), (.string ⟨#[]⟩), (.string ⟨#[]⟩)]) 40 rfl Tryd.underlying23 info30 rfl (by decide) (by omega) v231 y230 (⟨t236, t237, t238⟩ : S30) [.bool t236, .string t237, .string t238] (fun k_ => some k_ ≠ (.slice Ao28 t226.length co28 : Value).ownBlock) (fun _ => False) rfl rfl ?aP (fun _ hk => hk.elim) ?aF ?aO ?aB ?aS ?aL ?_; (case aP => exact k30_mkM _ _ _ (⟨t236, t237, t238⟩ : S30)); (case aB => exact q_36); (case aF => exact (fun k_ hk => Kd.fresh' (Kd.R_lt q_41) k_ hk)); (case aO => exact q_43); (case aS => exact (below_size q_36)); (case aL => have := LMc22.out; omega); intro v240 w34 ho hb hg hat; rw [← Ny239.out] at ho; have n0_ := Aside0.mk (Kd.R_over' q_35 (Kd.R_typed q_43) (by decide) hg); have n1_ := Aside0.mk (blk_grown (g := gb220) (o := .cells #[.int .i64 x221000_1, .int .i64 x221001_1] 26 (0, 0)) q_33 hg (Kd.R_ne HO232.out BK220.out (by decide))); have n2_ := Aside0.mk (blk_grown (g := gb225) (o := .cells #[.string ((rd_T53 t221 x14_1).f0), .string ((rd_T53 t221 x14_1).f1), .int .i64 ((rd_T53 t221 x14_1).f2)] 53 (0, 0)) q_42 hg (Kd.R_ne HO232.out BK225.out (by decide))); have n3_ := Aside0.mk (Kd.R_after (ok := (fun _ => True)) q_41 hg hat); have n4_ := Aside0.mk (Kd.R_over' (by (with_reducible repeat (first | apply Kd.R_alloc | apply Kd.R_drewN | apply Kd.R_drew)); exact HO235.out) (Kd.R_typed q_43) (by decide) hg); have n5_ := Aside0.mk (hb); have n6_ := Aside0.mk (ho); clear HO_12; clear BK220; clear BK225; clear HO229; clear HO235; clear HB; clear HO232; have HO_12 := n0_; have BK220 := n1_; have BK225 := n2_; have HO229 := n3_; have HO235 := n4_; have HB := n5_; have HO241 := n6_; clear n0_ n1_ n2_ n3_ n4_ n5_ n6_; clear ho hb hg hat))
                    go_roundg k1
                    case measure => have := HK1.out; omega
                    case rel => exact ⟨(y239), (wrap64 (x14_1 + 1)), (x221000_1), (x221001_1), q_5, H', ⟨by have := HK1.out; omega⟩, ⟨by (with_reducible repeat (first | apply Kd.R_alloc | apply Kd.R_drewN | apply Kd.R_drew)); exact Kd.R_mono HO241.out (fun _ hk => trivial)⟩, ⟨by (with_reducible repeat (first | apply Kd.R_alloc | apply Kd.R_drewN | apply Kd.R_drew)); exact Kd.R_mono HO_12.out (fun _ hk => trivial)⟩, ⟨q_33⟩, ⟨q_36⟩⟩
                  · rw [if_neg c22] at H
                    exact absurd H (by simp)
              · rw [if_neg c12] at H
                exact absurd H (by simp)
            · replace c11 := Bool.eq_false_iff.mpr c11
              subst c11
              have H1 : (some (([] : List (S30)), 1, (rd_T53 t221 x14_1).f2)) = some (r1, r2, r3) := by rw [if_neg (show ¬ (false = true) by decide)] at H; exact H
              clear H
              have H := H1
              clear H1
              simp only [Option.some.injEq, Prod.mk.injEq] at H
              obtain ⟨rfl, rfl, rfl⟩ := H
              have p224 : 0 ≤ (x14_1 : Int) := of_decide_eq_true q_6
              have q224 : x14_1 < (t221.length : Int) := of_decide_eq_true q_6
              obtain ⟨ad224, e224, hx224_0, hx224_1, hx224_2⟩ := at_T53 (Kd.R_reads' HO_12.out).2.2 x14_1 p224 q224
              cases e224
              replace p224 := eq_true p224
              replace q224 := eq_true q224
              try go_wp2_with (first | ((with_reducible refine gate_dst (N := 8) rfl ?_); refine box_event ?hg (N := 8) ?hd (cs := #[.string (⟨#[]⟩ : ByteArray), .string (⟨#[]⟩ : ByteArray), .int .i64 0]) (t := 53) ?hr ?_; (case hd => rfl); (case hg => rfl); (case hr => first | (go_simp; done) | (go_simp; rfl)); intro gb225 hg w35 hbox hb; have n0_ := Aside0.mk (Kd.R_below q_34 hb); have n1_ := Aside0.mk (Kd.R_below (Kd.R_elderB q_35 gb225 (Nat.le_of_eq hg.symm)) hb); have n2_ := Aside0.mk (blk_below (g := gb220) (o := .cells #[.int .i64 x221000_1, .int .i64 x221001_1] 26 (0, 0)) q_33 hb); have n3_ := Aside0.mk (below_step q_32 hb); have n4_ := Aside0.mk (hbox); have n5_ := Aside0.mk ((by rw [hg]; exact (below_size q_32) : w.heap.size ≤ gb225)); have n6_ := Aside0.mk ((by rw [hg]; exact (below_size q_32) : w.heap.size ≤ gb225)); have n7_ := Aside0.mk ((q_106 : gb220 ≠ gb225)); have n8_ := Aside0.mk ((q_107 : gb225 ≠ gb220)); clear HO_6; clear HO_12; clear BK220; clear HB; have HO_6 := n0_; have HO_12 := n1_; have BK220 := n2_; have HB := n3_; have BK225 := n4_; have GW225 := n5_; have GE225 := n6_; have NB220_225 := n7_; have NB225_220 := n8_; clear n0_ n1_ n2_ n3_ n4_ n5_ n6_ n7_ n8_; clear hb hbox hg; have hnb36 := NB225_220.out; have hnc36 := NB220_225.out; obtain ⟨hcz37_0, hcz37_1, hcz37_2, hfz37_0, hfz37_1, hfz37_2⟩ := cells3_ BK225.out) | (go_at_call 27; (with_reducible refine (cue_Pieces.calls k1 ((rd_T53 t221 x14_1).f0) t226 false _ (GM.below HG.out q_36) A10.out).mono ?_); rintro e w38 ⟨v228, rfl, ho0, hb⟩; have n0_ := Aside0.mk (Kd.R_elder' q_37 (Kd.R_base ho0) hb); have n1_ := Aside0.mk (Kd.R_below q_38 hb); have n2_ := Aside0.mk (Kd.R_lower (Kd.R_new' ho0 (Kd.R_lt q_37)) (below_size q_36)); have n3_ := Aside0.mk (blk_below (g := gb220) (o := .cells #[.int .i64 x221000_1, .int .i64 x221001_1] 26 (0, 0)) q_39 hb); have n4_ := Aside0.mk (blk_below (g := gb225) (o := .cells #[.string ((rd_T53 t221 x14_1).f0), .string ((rd_T53 t221 x14_1).f1), .int .i64 ((rd_T53 t221 x14_1).f2)] 53 (0, 0)) q_40 hb); have n5_ := Aside0.mk (below_step q_36 hb); clear HO_6; clear HO_12; clear BK220; clear BK225; clear HB; have HO_6 := n0_; have HO_12 := n1_; have HO229 := n2_; have BK220 := n3_; have BK225 := n4_; have HB := n5_; clear n0_ n1_ n2_ n3_ n4_ n5_; (try clear hb); (try clear hb2); (try clear hk); (try clear hi); (try clear ho0)))
              have n0_ := Aside0.mk (Kd.R_drew HO_6.out)
              have n1_ := Aside0.mk (Kd.R_drew HO_12.out)
              have n2_ := Aside0.mk (Kd.R_drew HO229.out)
              have n3_ := Aside0.mk (blk_drew BK220.out)
              have n4_ := Aside0.mk (blk_drew BK225.out)
              have n5_ := Aside0.mk (below_drew1 HB.out)
              clear HO_6
              clear HO_12
              clear HO229
              clear BK220
              clear BK225
              clear HB
              have HO_6 := n0_
              have HO_12 := n1_
              have HO229 := n2_
              have BK220 := n3_
              have BK225 := n4_
              have HB := n5_
              clear n0_ n1_ n2_ n3_ n4_ n5_
              refine start_ (n := 5) (S := fun w' => w'.cell? ⟨gb225, 0, none⟩ = some (.string ((rd_T53 t221 x14_1).f0)) ∧ w'.cell? ⟨gb225, 1, none⟩ = some (.string ((rd_T53 t221 x14_1).f1)) ∧ w'.cell? ⟨gb225, 2, none⟩ = some (.int .i64 ((rd_T53 t221 x14_1).f2))) (ds := []) #[false, false, false, false, false] (by kernel_rfl) rfl rfl ⟨(blk_cell BK225.out 0).trans rfl, (blk_cell BK225.out 1).trans rfl, (blk_cell BK225.out 2).trans rfl⟩ (fun hHeld => ?_)
              generalize w38.drew = w39 at HO_6 HO_12 HO229 BK220 BK225 HB hHeld ⊢
              refine pure_ (i := 0) (N := some 27) (v := ?_) (a' := ?_) #[true, false, false, false, false] rfl rfl (by kernel_rfl) (fun _ _ _ h => h) (Or.inl ⟨by rfl, ?_⟩) ?_ ?_
              rotate_left
              · intro w'
                go_simp
                with_reducible rfl
              rotate_left
              · simp only [Act.put, List.setIfInBounds_toArray, List.set_cons_zero, List.set_cons_succ, i64_w, i32_w]
                rfl
              refine pure_ (i := 3) (N := some 4) (v := ?_) (a' := ?_) #[true, false, false, true, false] rfl rfl (by kernel_rfl) (fun _ _ _ h => h) (Or.inl ⟨by rfl, ?_⟩) ?_ ?_
              rotate_left
              · intro w'
                go_simp
                with_reducible rfl
              rotate_left
              · simp only [Act.put, List.setIfInBounds_toArray, List.set_cons_zero, List.set_cons_succ, i64_w, i32_w]
                rfl
              refine take_ (i := 1) (N := some 28) (v := ?_) (a' := ?_) #[true, true, false, true, false] rfl rfl (by kernel_rfl) (fun _ _ _ h => h) (Or.inl ⟨by rfl, ?_⟩) hHeld ?_ ?_
              rotate_left
              · rintro w' ⟨s0, s1, s2⟩
                go_simp
                with_reducible rfl
              rotate_left
              · simp only [Act.put, List.setIfInBounds_toArray, List.set_cons_zero, List.set_cons_succ, i64_w, i32_w]
                rfl
              refine pure_ (i := 2) (N := some 29) (v := ?_) (a' := ?_) #[true, true, true, true, false] rfl rfl (by kernel_rfl) (fun _ _ _ h => h) (Or.inl ⟨by rfl, ?_⟩) ?_ ?_
              rotate_left
              · intro w'
                go_simp
                with_reducible rfl
              rotate_left
              · simp only [Act.put, List.setIfInBounds_toArray, List.set_cons_zero, List.set_cons_succ, i64_w, i32_w]
                rfl
              refine one_ (i := 4) (N := none) #[true, true, true, true, true] rfl rfl (by kernel_rfl) (by decide) (fun K hK => ?_)
              have hs40 : w39.cell? ⟨gb220, 0, none⟩ = some (.int .i64 x221000_1) := (blk_cell BK220.out 0).trans rfl
              have hfs40 := blk_frozen BK220.out 0
              have hns40_1 := NB225_220.out
              have hms40_1 := NB220_225.out
              have hs41 : w39.cell? ⟨gb220, 1, none⟩ = some (.int .i64 x221001_1) := (blk_cell BK220.out 1).trans rfl
              have hfs41 := blk_frozen BK220.out 1
              have hns41_1 := NB225_220.out
              have hms41_1 := NB220_225.out
              refine skip_ (w1 := ?_) (by rfl) rfl ?_ ?_
              rotate_left
              · go_simp
                rfl
              refine hK.out _ _ ⟨((cell_far (p := ⟨gb220, _, none⟩) NB225_220.out _).trans (((cell_far (p := ⟨gb220, _, none⟩) NB225_220.out _).trans (hHeld.1)))), ((cell_far (p := ⟨gb220, _, none⟩) NB225_220.out _).trans (((cell_far (p := ⟨gb220, _, none⟩) NB225_220.out _).trans (hHeld.2.1)))), ((cell_far (p := ⟨gb220, _, none⟩) NB225_220.out _).trans (((cell_far (p := ⟨gb220, _, none⟩) NB225_220.out _).trans (hHeld.2.2))))⟩ (fun hHeld => ?_)
              clear hK K
              refine done_ (by kernel_rfl) ?_
              try go_wp2
              refine bodyPost_ret (results_tc rfl _ _ gb220 26 #[.int .i64 1, .int .i64 ((rd_T53 t221 x14_1).f2)] (0, 0) _ rfl (by (with_reducible repeat (first | refine blk_drewN ?_ _ | refine blk_drew ?_ | refine blk_alloc ?_ _)); refine blk_put (cs := #[.int .i64 1, .int .i64 x221001_1]) ?_ 1 _ rfl; (with_reducible repeat (first | refine blk_drewN ?_ _ | refine blk_drew ?_ | refine blk_alloc ?_ _)); refine blk_put (cs := #[.int .i64 x221000_1, .int .i64 x221001_1]) ?_ 0 _ rfl; (with_reducible repeat (first | refine blk_drewN ?_ _ | refine blk_drew ?_ | refine blk_alloc ?_ _)); exact BK220.out) Tryd.underlying26 rfl (by kernel_rfl)) rfl ?_
              exact ⟨_, q_10, q_11, q_36⟩
          · rw [if_neg c9] at H
            exact absurd H (by simp)
        · rw [if_neg c8] at H
          exact absurd H (by simp)
      · rw [if_neg c7] at H
        have c7b0 : decide (x14_1 < (t221.length : Int)) = false := decide_eq_false c7
        clear c7
        simp only [Option.some.injEq, Prod.mk.injEq] at H
        obtain ⟨rfl, rfl, rfl⟩ := H
        obtain ⟨hcz42_0, hcz42_1, hfz42_0, hfz42_1⟩ := cells2_ BK220.out
        go_wp2
        refine bodyPost_ret (results_tc rfl _ _ gb220 26 #[.int .i64 0, .int .i64 0] (0, 0) _ rfl (by (with_reducible repeat (first | refine blk_drewN ?_ _ | refine blk_drew ?_ | refine blk_alloc ?_ _)); refine blk_put (cs := #[.int .i64 0, .int .i64 x221001_1]) ?_ 1 _ rfl; (with_reducible repeat (first | refine blk_drewN ?_ _ | refine blk_drew ?_ | refine blk_alloc ?_ _)); refine blk_put (cs := #[.int .i64 x221000_1, .int .i64 x221001_1]) ?_ 0 _ rfl; (with_reducible repeat (first | refine blk_drewN ?_ _ | refine blk_drew ?_ | refine blk_alloc ?_ _)); exact BK220.out) Tryd.underlying26 rfl (by kernel_rfl)) rfl ?_
        exact ⟨_, q_10, by (with_reducible repeat (first | apply Kd.R_alloc | apply Kd.R_drewN | apply Kd.R_drew)); exact Kd.R_mono (Kd.R_far (p := ⟨gb220, 1, none⟩) (Kd.R_far (p := ⟨gb220, 0, none⟩) (Kd.R_types HO_6.out BK220.out (by decide)) (fun _ hk => hk.2) (.int .i64 0)) (fun _ hk => hk.2) (.int .i64 0)) (fun _ hk => trivial), q_32⟩

/-! ### cue_Parse: function 10 -/
def cue_Parse.f (k : Nat) (a0 : ByteArray) : Option ((List (S30)) × Int × Int) := (line_Walk.f k a0).bind fun bt243 => (some (bt243.1, bt243.2.1, bt243.2.2))
theorem cue_Parse.mono : ∀ a0 k, LeO (cue_Parse.f k a0) (cue_Parse.f (k + 1) a0) := by
  intro a0 k
  unfold cue_Parse.f
  repeat' first
      | (with_reducible exact line_Walk.mono _ _)
      | (with_reducible exact LeO.refl _)
      | (with_reducible exact LeO.none _)
      | (with_reducible refine LeO.ite ?_ ?_)
      | (with_reducible refine LeO.bind ?_ (fun _ => ?_))
      | exact line_Walk.mono _ _
      | exact LeO.none _
      | refine LeO.ite ?_ ?_
      | refine LeO.bind ?_ (fun _ => ?_)
set_option maxHeartbeats 8000000 in
set_option maxRecDepth 100000 in
theorem cue_Parse.calls (k : Nat) (a0 : ByteArray) (r1 : List (S30)) (r2 : Int) (r3 : Int) (w : World) (hG : GM w) (h : cue_Parse.f k a0 = some (r1, r2, r3)) :
    Calls Tryd.prog 10 #[.string a0] w fun e w' => ∃ v0_ : Value, e = .returned (.tuple #[v0_, .agg #[.int .i64 r2, .int .i64 r3]]) ∧ Kd.R k30 30 w' w.heap.size (fun _ => True) v0_ r1 ∧ Below w.heap.size w w' := by
  have hu26 := Tryd.underlying26
  have HB := Aside0.mk (Below.refl w.heap.size w)
  have HG := Aside0.mk hG
  clear hG
  have H : ((line_Walk.f k a0).bind fun bt243 => (some (bt243.1, bt243.2.1, bt243.2.2))) = some (r1, r2, r3) := h
  clear h
  replace H := Option.bind_eq_some_iff.mp H
  obtain ⟨⟨t243, t246, t247⟩, A20, H⟩ := H
  replace H : (some (t243, t246, t247)) = some (r1, r2, r3) := H
  have A2 := Aside0.mk A20
  clear A20
  simp only [Option.some.injEq, Prod.mk.injEq] at H
  obtain ⟨rfl, rfl, rfl⟩ := H
  go_enter Tryd.func10, Tryd.ntmps10
  go_wp2_with (first | ((with_reducible refine gate_dst (N := 3) rfl ?_); refine box_event ?hg (N := 3) ?hd (cs := #[.int .i64 0, .int .i64 0]) (t := 26) ?hr ?_; (case hd => rfl); (case hg => rfl); (case hr => first | (go_simp; done) | (go_simp; rfl)); intro gb242 hg w3 hbox hb; have n0_ := Aside0.mk (below_step q_1 hb); have n1_ := Aside0.mk (hbox); have n2_ := Aside0.mk ((by rw [hg]; exact (below_size q_1) : w.heap.size ≤ gb242)); have n3_ := Aside0.mk ((by rw [hg]; exact (below_size q_1) : w.heap.size ≤ gb242)); clear HB; have HB := n0_; have BK242 := n1_; have GW242 := n2_; have GE242 := n3_; clear n0_ n1_ n2_ n3_; clear hb hbox hg) | ((with_reducible refine gate_callee (f := 26) rfl ?_); refine goesL_ (some 5) rfl rfl Tryd.func26 (by kernel_rfl) rfl #[.string a0, .func (.func 27) #[] #[]] rfl q_2 ?_; (with_reducible refine (line_Walk.calls k a0  t243 t246 t247 _ (GM.below HG.out q_44) A2.out).mono ?_); rintro e w4 ⟨v244, rfl, ho0, hb⟩; refine ⟨_, rfl, ?_⟩; have n0_ := Aside0.mk (Kd.R_lower ho0 (below_size q_44)); have n1_ := Aside0.mk (blk_below (g := gb242) (o := .cells #[.int .i64 0, .int .i64 0] 26 (0, 0)) (by (with_reducible repeat (first | refine blk_drewN ?_ _ | refine blk_drew ?_ | refine blk_alloc ?_ _)); exact BK242.out) hb); have n2_ := Aside0.mk (below_step q_44 hb); clear BK242; clear HB; have HO245 := n0_; have BK242 := n1_; have HB := n2_; clear n0_ n1_ n2_; (try clear hb); (try clear hb2); (try clear hk); (try clear hi); (try clear ho0); obtain ⟨hcz5_0, hcz5_1, hfz5_0, hfz5_1⟩ := cells2_ BK242.out))
  refine bodyPost_ret (results_tc rfl _ _ gb242 26 #[.int .i64 t246, .int .i64 t247] (0, 0) _ rfl (by (with_reducible repeat (first | refine blk_drewN ?_ _ | refine blk_drew ?_ | refine blk_alloc ?_ _)); refine blk_put (cs := #[.int .i64 t246, .int .i64 0]) ?_ 1 _ rfl; (with_reducible repeat (first | refine blk_drewN ?_ _ | refine blk_drew ?_ | refine blk_alloc ?_ _)); refine blk_put (cs := #[.int .i64 0, .int .i64 0]) ?_ 0 _ rfl; (with_reducible repeat (first | refine blk_drewN ?_ _ | refine blk_drew ?_ | refine blk_alloc ?_ _)); exact BK242.out) Tryd.underlying26 rfl (by kernel_rfl)) rfl ?_
  exact ⟨_, q_10, by (with_reducible repeat (first | apply Kd.R_alloc | apply Kd.R_drewN | apply Kd.R_drew)); exact Kd.R_mono (Kd.R_far (p := ⟨gb242, 1, none⟩) (Kd.R_far (p := ⟨gb242, 0, none⟩) (Kd.R_types HO245.out BK242.out (by decide)) (fun _ hk => hk.2) (.int .i64 t246)) (fun _ hk => hk.2) (.int .i64 t247)) (fun _ hk => trivial), q_44⟩

/-! ### api_Fault_Bad: function 11 -/
def api_Fault_Bad.f (a0_0 : Int) (a0_1 : Int) : Option (Bool) := some (a0_0 != 0)
set_option maxHeartbeats 8000000 in
set_option maxRecDepth 100000 in
theorem api_Fault_Bad.calls (a0_0 : Int) (a0_1 : Int) (r : Bool) (w : World) (h : api_Fault_Bad.f a0_0 a0_1 = some r) :
    Calls Tryd.prog 11 #[.agg #[.int .i64 a0_0, .int .i64 a0_1]] w fun e w' => e = .returned (.bool r) ∧ Below w.heap.size w w' := by
  have hu26 := Tryd.underlying26
  have HB := Aside0.mk (Below.refl w.heap.size w)
  have H : (some (a0_0 != 0)) = some r := h
  clear h
  obtain rfl := Option.some.inj H
  go_enter Tryd.func11, Tryd.ntmps11
  go_wp2_with (first | ((with_reducible refine gate_dst (N := 1) rfl ?_); refine box_event ?hg (N := 1) ?hd (cs := #[.int .i64 a0_0, .int .i64 a0_1]) (t := 26) ?hr ?_; (case hd => rfl); (case hg => rfl); (case hr => first | (go_simp; done) | (go_simp; rfl)); intro gb248 hg w2 hbox hb; have n0_ := Aside0.mk (below_step q_1 hb); have n1_ := Aside0.mk (hbox); have n2_ := Aside0.mk ((by rw [hg]; exact (below_size q_1) : w.heap.size ≤ gb248)); have n3_ := Aside0.mk ((by rw [hg]; exact (below_size q_1) : w.heap.size ≤ gb248)); clear HB; have HB := n0_; have BK248 := n1_; have GW248 := n2_; have GE248 := n3_; clear n0_ n1_ n2_ n3_; clear hb hbox hg; obtain ⟨hcz3_0, hcz3_1, hfz3_0, hfz3_1⟩ := cells2_ BK248.out))
  go_ret
  exact ⟨q_10, by repeat (first | (with_reducible first | exact HB.out | apply below_alloc | apply pw_below_drewN | apply below_drew1 | refine below_set ?_ GE248.out) | exact HB.out)⟩

/-! ### line_Whole: function 12 -/
def line_Whole.l0 : Nat → List ByteArray → List (S30) → Int → Int → Option (ByteArray)
  | 0, _, _, _, _ => none
  | k + 1, x3, x6, x7, x8 => if x8 < x7 then (if 0 ≤ x8 then (if x8 < (x6.length : Int) then (if x3.length < 8796093022208 then (line_Whole.l0 k (x3 ++ [(rd_T30 x6 x8).f2]) x6 x7 (wrap64 (x8 + 1))) else (none)) else (none)) else (none)) else ((octet_Join.f x3).bind fun t254 => (some t254))
def line_Whole.f (k : Nat) (l0 : List (S30)) : Option (ByteArray) := line_Whole.l0 k ([] : List ByteArray) l0 (l0.length : Int) 0
theorem line_Whole.mono_l : ∀ k, (∀ y0 y1 y2 y3, LeO (line_Whole.l0 k y0 y1 y2 y3) (line_Whole.l0 (k + 1) y0 y1 y2 y3))
  | 0 => fun _ _ _ _ r h => by simp [line_Whole.l0] at h
  | k + 1 => by
    have ih0 := line_Whole.mono_l k
    · intro y0 y1 y2 y3
      unfold line_Whole.l0
      repeat' first
      | (with_reducible exact ih0 _ _ _ _)
      | (with_reducible exact LeO.refl _)
      | (with_reducible exact LeO.none _)
      | (with_reducible refine LeO.ite ?_ ?_)
      | (with_reducible refine LeO.bind ?_ (fun _ => ?_))
      | exact ih0 _ _ _ _
      | exact LeO.none _
      | refine LeO.ite ?_ ?_
      | refine LeO.bind ?_ (fun _ => ?_)
theorem line_Whole.mono : ∀ a0 k, LeO (line_Whole.f k a0) (line_Whole.f (k + 1) a0) := by
  intro a0 k
  have ih0 := line_Whole.mono_l k
  unfold line_Whole.f
  repeat' first
      | (with_reducible exact ih0 _ _ _ _)
      | (with_reducible exact LeO.refl _)
      | (with_reducible exact LeO.none _)
      | (with_reducible refine LeO.ite ?_ ?_)
      | (with_reducible refine LeO.bind ?_ (fun _ => ?_))
      | exact ih0 _ _ _ _
      | exact LeO.none _
      | refine LeO.ite ?_ ?_
      | refine LeO.bind ?_ (fun _ => ?_)
set_option maxHeartbeats 8000000 in
set_option maxRecDepth 100000 in
theorem line_Whole.calls (k : Nat) (A0 : Option Addr) (c0 : Nat) (l0 : List (S30)) (r : ByteArray) (w : World) (hr0 : Kd.C k30 w A0 l0.length l0) (hc0 : l0.length ≤ c0) (h : line_Whole.f k l0 = some r) :
    Calls Tryd.prog 12 #[.slice A0 l0.length c0] w fun e w' => e = .returned (.string r) ∧ Below w.heap.size w w' := by
  have hu30 := Tryd.underlying30
  have HR0 := Aside0.mk hr0
  have HC0 := Aside0.mk hc0
  clear hr0 hc0
  have HB := Aside0.mk (Below.refl w.heap.size w)
  have H : (line_Whole.l0 k ([] : List ByteArray) l0 (l0.length : Int) 0) = some r := h
  clear h
  have H' := Aside0.mk H
  clear H
  go_enter Tryd.func12, Tryd.ntmps12
  go_wp2
  go_loopg [3, 8] k (fun kq v3 v8 w' => ∃ (x3_1 : List ByteArray) (x8_1 : Int), v8 = .int .i64 x8_1 ∧ Aside0 (line_Whole.l0 kq x3_1 l0 (l0.length : Int) x8_1 = some r) ∧ Aside0 (kq ≤ k) ∧ Aside0 (Kd.R Kd.string 9 w' w.heap.size (fun _ => True) v3 x3_1) ∧ Aside0 (Below w.heap.size w w'))
  case atStart => exact ⟨(([] : List ByteArray)), (0), q_5, H', ⟨Nat.le_refl _⟩, ⟨q_11⟩, ⟨q_1⟩⟩
  case round =>
    clear H'
    try clear c1
    obtain ⟨x3_1, x8_1, rfl, HA, HK1, HO_3, HB⟩ := hrel
    cases gk with
    | zero => exact absurd HA.out (by simp [line_Whole.l0])
    | succ k1 =>
      have H := HA.out
      clear HA
      simp only [line_Whole.l0] at H
      by_cases c2 : x8_1 < (l0.length : Int)
      · rw [if_pos c2] at H
        have c2b0 : decide (x8_1 < (l0.length : Int)) = true := decide_eq_true c2
        clear c2
        by_cases c3 : 0 ≤ x8_1
        · rw [if_pos c3] at H
          have c3b0 : decide (0 ≤ x8_1) = true := decide_eq_true c3
          clear c3
          by_cases c4 : x8_1 < (l0.length : Int)
          · rw [if_pos c4] at H
            have c4b0 : decide (x8_1 < (l0.length : Int)) = true := decide_eq_true c4
            clear c4
            by_cases c5 : x3_1.length < 8796093022208
            · rw [if_pos c5] at H
              have LMc5 := Aside0.mk c5
              clear c5
              obtain ⟨y251, hy251⟩ : ∃ y_ : List ByteArray, y_ = (x3_1 ++ [(rd_T30 l0 x8_1).f2]) := ⟨_, rfl⟩
              replace H : (line_Whole.l0 k1 y251 l0 (l0.length : Int) (wrap64 (x8_1 + 1))) = some r := by first | (rw [hy251]; with_reducible exact H) | (have H2_ := (Option.bind_some _ _).symm.trans H; rw [hy251]; with_reducible exact H2_) | (have H2_ := (Option.bind_some _ _).symm.trans H; with_reducible exact H2_) | with_reducible exact H | (rw [hy251]; exact H) | exact H
              have Ny251 := Aside0.mk hy251
              clear hy251
              have H' := Aside0.mk H
              clear H
              have p249 : 0 ≤ (x8_1 : Int) := of_decide_eq_true q_6
              have q249 : x8_1 < (l0.length : Int) := of_decide_eq_true q_6
              obtain ⟨ad249, e249, hx249_0, hx249_1, hx249_2⟩ := at_T30 HR0.out x8_1 p249 q249
              cases e249
              replace hx249_0 := (HB.out.cell (World.block_lt_of_cell? w _ hx249_0)).trans hx249_0
              replace hx249_1 := (HB.out.cell (World.block_lt_of_cell? w _ hx249_1)).trans hx249_1
              replace hx249_2 := (HB.out.cell (World.block_lt_of_cell? w _ hx249_2)).trans hx249_2
              replace p249 := eq_true p249
              replace q249 := eq_true q249
              go_wp2_with (first | ((with_reducible refine gate_dst (N := 5) rfl ?_); refine box_event ?hg (N := 5) ?hd (cs := #[.bool false, .string (⟨#[]⟩ : ByteArray), .string (⟨#[]⟩ : ByteArray)]) (t := 30) ?hr ?_; (case hd => rfl); (case hg => rfl); (case hr => first | (go_simp; done) | (go_simp; rfl)); intro gb250 hg w6 hbox hb; have n0_ := Aside0.mk (Kd.R_below q_31 hb); have n1_ := Aside0.mk (below_step q_1 hb); have n2_ := Aside0.mk (hbox); have n3_ := Aside0.mk ((by rw [hg]; exact (below_size q_1) : w.heap.size ≤ gb250)); have n4_ := Aside0.mk ((by rw [hg]; exact (below_size q_1) : w.heap.size ≤ gb250)); clear HO_3; clear HB; have HO_3 := n0_; have HB := n1_; have BK250 := n2_; have GW250 := n3_; have GE250 := n4_; clear n0_ n1_ n2_ n3_ n4_; clear hb hbox hg; obtain ⟨hcz7_0, hcz7_1, hcz7_2, hfz7_0, hfz7_1, hfz7_2⟩ := cells3_ BK250.out) | ((with_reducible refine gate_builtin (b := .append) (xs := #[.tmp 12, .tmp 15]) rfl ?_); at_builtin; refine Kd.R_append Kd.string (w0 := w) w.heap.size rfl (.tmp 12) (.tmp 15) 40 9 (.string ⟨#[]⟩) 16 rfl Tryd.underlying40 info9 rfl (by decide) (by omega) u3 x3_1 ((rd_T30 l0 x8_1).f2) [.string ((rd_T30 l0 x8_1).f2)] (fun _ => True) (fun _ => False) rfl (by first | (go_simp; done) | (go_simp; rfl)) ?aP (fun _ hk => hk.elim) ?aF ?aO ?aB ?aS ?aL ?_; (case aP => exact rfl); (case aB => exact q_45); (case aF => exact (fun _ _ => trivial)); (case aO => exact (by (with_reducible repeat (first | apply Kd.R_alloc | apply Kd.R_drewN | apply Kd.R_drew)); exact Kd.R_mono (Kd.R_far (p := ⟨gb250, 2, none⟩) (Kd.R_far (p := ⟨gb250, 1, none⟩) (Kd.R_far (p := ⟨gb250, 0, none⟩) (Kd.R_types HO_3.out BK250.out (by decide)) (fun _ hk => hk.2) (.bool ((rd_T30 l0 x8_1).f0))) (fun _ hk => hk.2) (.string ((rd_T30 l0 x8_1).f1))) (fun _ hk => hk.2) (.string ((rd_T30 l0 x8_1).f2))) (fun _ hk => trivial))); (case aS => exact (below_size q_45)); (case aL => have := LMc5.out; omega); intro v252 w8 ho hb hg hat; rw [← Ny251.out] at ho; have n0_ := Aside0.mk (blk_grown (g := gb250) (o := .cells #[.bool ((rd_T30 l0 x8_1).f0), .string ((rd_T30 l0 x8_1).f1), .string ((rd_T30 l0 x8_1).f2)] 30 (0, 0)) (by (with_reducible repeat (first | refine blk_drewN ?_ _ | refine blk_drew ?_ | refine blk_alloc ?_ _)); refine blk_put (cs := #[.bool ((rd_T30 l0 x8_1).f0), .string ((rd_T30 l0 x8_1).f1), .string (⟨#[]⟩ : ByteArray)]) ?_ 2 _ rfl; (with_reducible repeat (first | refine blk_drewN ?_ _ | refine blk_drew ?_ | refine blk_alloc ?_ _)); refine blk_put (cs := #[.bool ((rd_T30 l0 x8_1).f0), .string (⟨#[]⟩ : ByteArray), .string (⟨#[]⟩ : ByteArray)]) ?_ 1 _ rfl; (with_reducible repeat (first | refine blk_drewN ?_ _ | refine blk_drew ?_ | refine blk_alloc ?_ _)); refine blk_put (cs := #[.bool false, .string (⟨#[]⟩ : ByteArray), .string (⟨#[]⟩ : ByteArray)]) ?_ 0 _ rfl; (with_reducible repeat (first | refine blk_drewN ?_ _ | refine blk_drew ?_ | refine blk_alloc ?_ _)); exact BK250.out) hg (Kd.R_ne HO_3.out BK250.out (by decide))); have n1_ := Aside0.mk (hb); have n2_ := Aside0.mk (ho); clear BK250; clear HB; clear HO_3; have BK250 := n0_; have HB := n1_; have HO253 := n2_; clear n0_ n1_ n2_; clear ho hb hg hat))
              go_roundg k1
              case measure => have := HK1.out; omega
              case rel => exact ⟨(y251), (wrap64 (x8_1 + 1)), q_5, H', ⟨by have := HK1.out; omega⟩, ⟨by (with_reducible repeat (first | apply Kd.R_alloc | apply Kd.R_drewN | apply Kd.R_drew)); exact HO253.out⟩, ⟨q_45⟩⟩
            · rw [if_neg c5] at H
              exact absurd H (by simp)
          · rw [if_neg c4] at H
            exact absurd H (by simp)
        · rw [if_neg c3] at H
          exact absurd H (by simp)
      · rw [if_neg c2] at H
        have c2b0 : decide (x8_1 < (l0.length : Int)) = false := decide_eq_false c2
        clear c2
        replace H := Option.bind_eq_some_iff.mp H
        obtain ⟨t254, A90, H⟩ := H
        replace H : (some t254) = some r := H
        have A9 := Aside0.mk A90
        clear A90
        obtain rfl := Option.some.inj H
        obtain ⟨Ao10, co10, eo10⟩ := Kd.R_slice HO_3.out
        subst eo10
        go_wp2_with (first | ((with_reducible refine gate_callee (f := 28) rfl ?_); refine goesL_ (some 19) rfl rfl Tryd.func28 (by kernel_rfl) rfl #[.slice Ao10 x3_1.length co10] rfl q_2 ?_; (with_reducible refine (octet_Join.calls _ _ x3_1 t254 _ ?side1 ?side2 A9.out).mono ?_); (case side1 => repeat (first | exact (Kd.R_reads' HO_3.out).2.2 | (with_reducible refine Kd.C_alloc ?_ _) | (with_reducible refine Kd.C_drewN ?_ _) | (with_reducible refine Kd.C_drew ?_))); (case side2 => exact (Kd.R_reads' HO_3.out).2.1); rintro e w11 ⟨rfl, hb⟩; refine ⟨_, rfl, ?_⟩; have n0_ := Aside0.mk (Kd.R_below q_31 hb); have n1_ := Aside0.mk (below_step q_1 hb); clear HO_3; clear HB; have HO_3 := n0_; have HB := n1_; clear n0_ n1_; (try clear hb); (try clear hb2); (try clear hk); (try clear hi)))
        go_ret
        exact ⟨q_10, q_1⟩

/-! ### octet_Safe: function 76 -/
def octet_Safe.f (a0 : Int) : Option (ByteArray × Bool) := if a0 > 268435455 then (some ((⟨#[]⟩ : ByteArray), false)) else (some (strOfNums (([(a0 / 2097152) % 256, (Go.bits .and .u64 (a0 / 16384) 127) % 256, (Go.bits .and .u64 (a0 / 128) 127) % 256, (Go.bits .and .u64 a0 127) % 256] : List Int)), true))
set_option maxHeartbeats 8000000 in
set_option maxRecDepth 100000 in
theorem octet_Safe.calls (a0 : Int) (r1 : ByteArray) (r2 : Bool) (w : World) (h : octet_Safe.f a0 = some (r1, r2)) :
    Calls Tryd.prog 76 #[.int .u64 a0] w fun e w' => e = .returned (.tuple #[.string r1, .bool r2]) ∧ Below w.heap.size w w' := by
  have HB := Aside0.mk (Below.refl w.heap.size w)
  have H : (if a0 > 268435455 then (some ((⟨#[]⟩ : ByteArray), false)) else (some (strOfNums (([(a0 / 2097152) % 256, (Go.bits .and .u64 (a0 / 16384) 127) % 256, (Go.bits .and .u64 (a0 / 128) 127) % 256, (Go.bits .and .u64 a0 127) % 256] : List Int)), true))) = some (r1, r2) := h
  clear h
  by_cases c2 : a0 > 268435455
  · rw [if_pos c2] at H
    have c2b0 : decide (268435455 < a0) = true := decide_eq_true c2
    clear c2
    simp only [Option.some.injEq, Prod.mk.injEq] at H
    obtain ⟨rfl, rfl⟩ := H
    go_enter Tryd.func76, Tryd.ntmps76
    go_wp2
    go_ret2
    exact ⟨q_10, q_1⟩
  · rw [if_neg c2] at H
    have c2b0 : decide (268435455 < a0) = false := decide_eq_false c2
    clear c2
    obtain ⟨y255, hy255⟩ : ∃ y_ : List Int, y_ = (([(a0 / 2097152) % 256, (Go.bits .and .u64 (a0 / 16384) 127) % 256, (Go.bits .and .u64 (a0 / 128) 127) % 256, (Go.bits .and .u64 a0 127) % 256] : List Int)) := ⟨_, rfl⟩
    replace H : (some (strOfNums y255, true)) = some (r1, r2) := by first | (rw [hy255]; with_reducible exact H) | (have H2_ := (Option.bind_some _ _).symm.trans H; rw [hy255]; with_reducible exact H2_) | (have H2_ := (Option.bind_some _ _).symm.trans H; with_reducible exact H2_) | with_reducible exact H | (rw [hy255]; exact H) | exact H
    have Ny255 := Aside0.mk hy255
    clear hy255
    simp only [Option.some.injEq, Prod.mk.injEq] at H
    obtain ⟨rfl, rfl⟩ := H
    go_enter Tryd.func76, Tryd.ntmps76
    go_wp2_with (first | ((with_reducible refine gate_dst (N := 20) rfl ?_); refine Kd.R_lit (Kd.int .u8) _ 5 ?hg (N := 20) ?hd (xs := ([(a0 / 2097152) % 256, (Go.bits .and .u64 (a0 / 16384) 127) % 256, (Go.bits .and .u64 (a0 / 128) 127) % 256, (Go.bits .and .u64 a0 127) % 256] : List Int)) (inner := [.int .u8 ((a0 / 2097152) % 256), .int .u8 ((Go.bits .and .u64 (a0 / 16384) 127) % 256), .int .u8 ((Go.bits .and .u64 (a0 / 128) 127) % 256), .int .u8 ((Go.bits .and .u64 a0 127) % 256)]) (ok := fun _ => True) (okp := fun _ => True) ?hr ?hp (fun _ hk => hk) trivial (Below.refl _ _) (Nat.le_refl _) (by simp) ?_; (case hd => rfl); (case hg => rfl); (case hr => first | (go_simp; done) | (go_simp; rfl)); (case hp => exact (Reps.one (show Kd.M (Kd.int .u8) _ _ _ ((a0 / 2097152) % 256) [.int .u8 ((a0 / 2097152) % 256)] from rfl) (Reps.one (show Kd.M (Kd.int .u8) _ _ _ ((Go.bits .and .u64 (a0 / 16384) 127) % 256) [.int .u8 ((Go.bits .and .u64 (a0 / 16384) 127) % 256)] from rfl) (Reps.one (show Kd.M (Kd.int .u8) _ _ _ ((Go.bits .and .u64 (a0 / 128) 127) % 256) [.int .u8 ((Go.bits .and .u64 (a0 / 128) 127) % 256)] from rfl) (Reps.one (show Kd.M (Kd.int .u8) _ _ _ ((Go.bits .and .u64 a0 127) % 256) [.int .u8 ((Go.bits .and .u64 a0 127) % 256)] from rfl) (Reps.none _ _)))))); intro v256 w3 ho4 hb hg_ hnew_; clear hg_ hnew_; (first | rw [← Ny255.out] at ho4 | (simp only [Int.reduceToNat] at ho4; rw [← Ny255.out] at ho4)); have n0_ := Aside0.mk (Kd.R_lower ho4 (below_size q_1)); have n1_ := Aside0.mk (below_step q_1 hb); clear HB; have HO257 := n0_; have HB := n1_; clear n0_ n1_; clear hb ho4; have hcv5 := own_string (P := Tryd.prog) Tryd.underlying81 Tryd.underlying5 Tryd.underlying9 (Kd.own_of_R HO257.out)))
    go_ret2
    exact ⟨q_10, q_1⟩

end Go.Proofs.YtkhiiilfokijgaaDoor.PAll
