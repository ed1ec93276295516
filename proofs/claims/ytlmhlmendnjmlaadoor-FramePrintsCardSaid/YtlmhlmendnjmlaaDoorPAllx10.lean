/- Written by a program of this session: functions of the Go program as Lean functions, and the walks that tie them to it. -/
import Derived.Test.YtlmhlmendnjmlaaDoorPAllx0
import Derived.Test.YtlmhlmendnjmlaaDoorPAllx3
import Derived.Test.YtlmhlmendnjmlaaDoorPAllx7
import Derived.Test.YtlmhlmendnjmlaaDoorPAllx8
import Derived.Test.YtlmhlmendnjmlaaDoorPAllx9
namespace Go.Proofs.YtlmhlmendnjmlaaDoor.PAll
open Go.RowKit Go.Proofs.YtlmhlmendnjmlaaDoorW.PrintWords Go.Proofs.YtlmhlmendnjmlaaDoorW.PrintLast Go.Proofs.YtlmhlmendnjmlaaDoorW.PrintMore
attribute [local go_sem] max2_int min2_int max_two min_two max_three min_three max_four min_four   -- for this text's walks alone
set_option linter.unusedVariables false
set_option linter.unusedSimpArgs false

/-! ### frame_Frame_data: function 49 -/
mutual
def frame_Frame_data.j0 : Nat → Int → List ByteArray → ByteArray → Int → Int → Int → ByteArray → Int → Option (ByteArray × Bool)
  | 0, _, _, _, _, _, _, _, _ => none
  | k + 1, x1, x6, x167000, x167001, x167002, x167003, x167004, x167005 => (frame_Head_Measured.f x167000 x167001 x167002 x1).bind fun t172 => (if t172 = true then ((octet_Safe.f (IntKind.u64.wrap ((x167004.size : Int)))).bind fun bt173 => (if bt173.2 = true then (if x6.length < 8796093022208 then (frame_Frame_data.j1 k x1 (x6 ++ [bt173.1]) x167000 x167001 x167002 x167003 x167004 x167005) else (none)) else (some ((⟨#[]⟩ : ByteArray), false)))) else (frame_Frame_data.j1 k x1 x6 x167000 x167001 x167002 x167003 x167004 x167005))
def frame_Frame_data.j1 : Nat → Int → List ByteArray → ByteArray → Int → Int → Int → ByteArray → Int → Option (ByteArray × Bool)
  | 0, _, _, _, _, _, _, _, _ => none
  | k + 1, x1, x6, x167000, x167001, x167002, x167003, x167004, x167005 => (frame_Head_Spread.f x167000 x167001 x167002 x1).bind fun t178 => (if t178 = true then ((unsync_Put.f k x167004).bind fun t179 => (if x6.length < 8796093022208 then ((octet_Join.f (x6 ++ [t179])).bind fun t183 => (some (t183, true))) else (none))) else (if x6.length < 8796093022208 then ((octet_Join.f (x6 ++ [x167004])).bind fun t187 => (some (t187, true))) else (none)))
end
def frame_Frame_data.f (k : Nat) (a0_0 : ByteArray) (a0_1 : Int) (a0_2 : Int) (a0_3 : Int) (a0_4 : ByteArray) (a0_5 : Int) (a1 : Int) : Option (ByteArray × Bool) := (frame_Head_Grouped.f a0_0 a0_1 a0_2 a1).bind fun t167 => (if t167 = true then ((octet_Big.f k (IntKind.u64.wrap (a0_3)) 1).bind fun t168 => (if ([] : List ByteArray).length < 8796093022208 then (frame_Frame_data.j0 k a1 (([] : List ByteArray) ++ [t168]) a0_0 a0_1 a0_2 a0_3 a0_4 a0_5) else (none))) else (frame_Frame_data.j0 k a1 ([] : List ByteArray) a0_0 a0_1 a0_2 a0_3 a0_4 a0_5))
theorem frame_Frame_data.mono_l : ∀ k, (∀ y0 y1 y2 y3 y4 y5 y6 y7, LeO (frame_Frame_data.j0 k y0 y1 y2 y3 y4 y5 y6 y7) (frame_Frame_data.j0 (k + 1) y0 y1 y2 y3 y4 y5 y6 y7)) ∧ (∀ y0 y1 y2 y3 y4 y5 y6 y7, LeO (frame_Frame_data.j1 k y0 y1 y2 y3 y4 y5 y6 y7) (frame_Frame_data.j1 (k + 1) y0 y1 y2 y3 y4 y5 y6 y7))
  | 0 => ⟨fun _ _ _ _ _ _ _ _ r h => by simp [frame_Frame_data.j0] at h, fun _ _ _ _ _ _ _ _ r h => by simp [frame_Frame_data.j1] at h⟩
  | k + 1 => by
    obtain ⟨ih0, ih1⟩ := frame_Frame_data.mono_l k
    refine ⟨?_, ?_⟩
    · intro y0 y1 y2 y3 y4 y5 y6 y7
      unfold frame_Frame_data.j0
      repeat' first
      | (with_reducible exact ih0 _ _ _ _ _ _ _ _)
      | (with_reducible exact ih1 _ _ _ _ _ _ _ _)
      | (with_reducible exact octet_Big.mono _ _ _)
      | (with_reducible exact unsync_Put.mono _ _)
      | (with_reducible exact LeO.refl _)
      | (with_reducible exact LeO.none _)
      | (with_reducible refine LeO.ite ?_ ?_)
      | (with_reducible refine LeO.bind ?_ (fun _ => ?_))
      | exact ih0 _ _ _ _ _ _ _ _
      | exact ih1 _ _ _ _ _ _ _ _
      | exact octet_Big.mono _ _ _
      | exact unsync_Put.mono _ _
      | exact LeO.none _
      | refine LeO.ite ?_ ?_
      | refine LeO.bind ?_ (fun _ => ?_)
    · intro y0 y1 y2 y3 y4 y5 y6 y7
      unfold frame_Frame_data.j1
      repeat' first
      | (with_reducible exact ih0 _ _ _ _ _ _ _ _)
      | (with_reducible exact ih1 _ _ _ _ _ _ _ _)
      | (with_reducible exact octet_Big.mono _ _ _)
      | (with_reducible exact unsync_Put.mono _ _)
      | (with_reducible exact LeO.refl _)
      | (with_reducible exact LeO.none _)
      | (with_reducible refine LeO.ite ?_ ?_)
      | (with_reducible refine LeO.bind ?_ (fun _ => ?_))
      | exact ih0 _ _ _ _ _ _ _ _
      | exact ih1 _ _ _ _ _ _ _ _
      | exact octet_Big.mono _ _ _
      | exact unsync_Put.mono _ _
      | exact LeO.none _
      | refine LeO.ite ?_ ?_
      | refine LeO.bind ?_ (fun _ => ?_)
theorem frame_Frame_data.mono : ∀ a0 a1 a2 a3 a4 a5 a6 k, LeO (frame_Frame_data.f k a0 a1 a2 a3 a4 a5 a6) (frame_Frame_data.f (k + 1) a0 a1 a2 a3 a4 a5 a6) := by
  intro a0 a1 a2 a3 a4 a5 a6 k
  obtain ⟨ih0, ih1⟩ := frame_Frame_data.mono_l k
  unfold frame_Frame_data.f
  repeat' first
      | (with_reducible exact ih0 _ _ _ _ _ _ _ _)
      | (with_reducible exact ih1 _ _ _ _ _ _ _ _)
      | (with_reducible exact octet_Big.mono _ _ _)
      | (with_reducible exact unsync_Put.mono _ _)
      | (with_reducible exact LeO.refl _)
      | (with_reducible exact LeO.none _)
      | (with_reducible refine LeO.ite ?_ ?_)
      | (with_reducible refine LeO.bind ?_ (fun _ => ?_))
      | exact ih0 _ _ _ _ _ _ _ _
      | exact ih1 _ _ _ _ _ _ _ _
      | exact octet_Big.mono _ _ _
      | exact unsync_Put.mono _ _
      | exact LeO.none _
      | refine LeO.ite ?_ ?_
      | refine LeO.bind ?_ (fun _ => ?_)
set_option maxHeartbeats 8000000 in
set_option maxRecDepth 100000 in
theorem frame_Frame_data.calls (k : Nat) (a0_0 : ByteArray) (a0_1 : Int) (a0_2 : Int) (a0_3 : Int) (a0_4 : ByteArray) (a0_5 : Int) (a1 : Int) (r1 : ByteArray) (r2 : Bool) (w : World) (h : frame_Frame_data.f k a0_0 a0_1 a0_2 a0_3 a0_4 a0_5 a1 = some (r1, r2)) :
    Calls Tryd.prog 49 #[.agg #[.string a0_0, .int .u8 a0_1, .int .u8 a0_2, .int .u8 a0_3, .string a0_4, .int .i64 a0_5], .int .i64 a1] w fun e w' => e = .returned (.tuple #[.string r1, .bool r2]) ∧ Below w.heap.size w w' := by
  have hu36 := Tryd.underlying36
  have hu29 := Tryd.underlying29
  have HB := Aside0.mk (Below.refl w.heap.size w)
  have H : ((frame_Head_Grouped.f a0_0 a0_1 a0_2 a1).bind fun t167 => (if t167 = true then ((octet_Big.f k (IntKind.u64.wrap (a0_3)) 1).bind fun t168 => (if ([] : List ByteArray).length < 8796093022208 then (frame_Frame_data.j0 k a1 (([] : List ByteArray) ++ [t168]) a0_0 a0_1 a0_2 a0_3 a0_4 a0_5) else (none))) else (frame_Frame_data.j0 k a1 ([] : List ByteArray) a0_0 a0_1 a0_2 a0_3 a0_4 a0_5))) = some (r1, r2) := h
  clear h
  replace H := Option.bind_eq_some_iff.mp H
  obtain ⟨t167, A30, H⟩ := H
  replace H : (if t167 = true then ((octet_Big.f k (IntKind.u64.wrap (a0_3)) 1).bind fun t168 => (if ([] : List ByteArray).length < 8796093022208 then (frame_Frame_data.j0 k a1 (([] : List ByteArray) ++ [t168]) a0_0 a0_1 a0_2 a0_3 a0_4 a0_5) else (none))) else (frame_Frame_data.j0 k a1 ([] : List ByteArray) a0_0 a0_1 a0_2 a0_3 a0_4 a0_5)) = some (r1, r2) := H
  have A3 := Aside0.mk A30
  clear A30
  have HC4 := Aside0.mk H
  clear H
  go_enter Tryd.func49, Tryd.ntmps49
  go_upto_if 12 with (first | ((with_reducible refine gate_dst (N := 2) rfl ?_); refine box_event ?hg (N := 2) ?hd (cs := #[.string a0_0, .int .u8 a0_1, .int .u8 a0_2, .int .u8 a0_3, .string a0_4, .int .i64 a0_5]) (t := 36) ?hr ?_; (case hd => rfl); (case hg => rfl); (case hr => first | (go_simp; done) | (go_simp; rfl)); intro gb166 hg w5 hbox hb; have n0_ := Aside0.mk (below_step q_3 hb); have n1_ := Aside0.mk (hbox); have n2_ := Aside0.mk ((by rw [hg]; exact (below_size q_3) : w.heap.size ≤ gb166)); have n3_ := Aside0.mk ((by rw [hg]; exact (below_size q_3) : w.heap.size ≤ gb166)); clear HB; have HB := n0_; have BK166 := n1_; have GW166 := n2_; have GE166 := n3_; clear n0_ n1_ n2_ n3_; clear hb hbox hg; obtain ⟨hcz6_0, hcz6_1, hcz6_2, hcz6_3, hcz6_4, hcz6_5, hfz6_0, hfz6_1, hfz6_2, hfz6_3, hfz6_4, hfz6_5⟩ := cells6_ BK166.out) | ((with_reducible refine gate_callee (f := 21) rfl ?_); refine goesL_ (some 12) rfl rfl Tryd.func21 (by kernel_rfl) rfl #[.agg #[.string a0_0, .int .u8 a0_1, .int .u8 a0_2], .int .i64 a1] rfl q_7 ?_; (with_reducible refine (frame_Head_Grouped.calls a0_0 a0_1 a0_2 a1 t167 _ A3.out).mono ?_); rintro e w7 ⟨rfl, hb⟩; refine ⟨_, rfl, ?_⟩; have n0_ := Aside0.mk (blk_below (g := gb166) (o := .cells #[.string a0_0, .int .u8 a0_1, .int .u8 a0_2, .int .u8 a0_3, .string a0_4, .int .i64 a0_5] 36 (0, 0)) q_26 hb); have n1_ := Aside0.mk (below_step q_27 hb); clear BK166; clear HB; have BK166 := n0_; have HB := n1_; clear n0_ n1_; (try clear hb); (try clear hb2); (try clear hk); (try clear hi)))
  (try simp only [Act.put, List.setIfInBounds_toArray, List.set_cons_zero, List.set_cons_succ])
  go_cut [6] (fun v6 wc => ∃ (kq : Nat) (x6_3 : List ByteArray), Aside0 (frame_Frame_data.j0 kq a1 x6_3 a0_0 a0_1 a0_2 a0_3 a0_4 a0_5 = some (r1, r2)) ∧ Aside0 (kq ≤ k) ∧ Aside0 (Kd.R Kd.string 9 wc w.heap.size (fun _ => True) v6 x6_3) ∧ Aside0 (wc.heap[gb166]? = some (.cells #[.string a0_0, .int .u8 a0_1, .int .u8 a0_2, .int .u8 a0_3, .string a0_4, .int .i64 a0_5] 36 (0, 0))) ∧ Aside0 (Below w.heap.size w wc))
  case first =>
    have H := HC4.out
    clear HC4
    by_cases c8 : t167 = true
    · subst c8
      have H1 : ((octet_Big.f k (IntKind.u64.wrap (a0_3)) 1).bind fun t168 => (if ([] : List ByteArray).length < 8796093022208 then (frame_Frame_data.j0 k a1 (([] : List ByteArray) ++ [t168]) a0_0 a0_1 a0_2 a0_3 a0_4 a0_5) else (none))) = some (r1, r2) := by rw [if_pos rfl] at H; exact H
      clear H
      have H := H1
      clear H1
      replace H := Option.bind_eq_some_iff.mp H
      obtain ⟨t168, A90, H⟩ := H
      replace H : (if ([] : List ByteArray).length < 8796093022208 then (frame_Frame_data.j0 k a1 (([] : List ByteArray) ++ [t168]) a0_0 a0_1 a0_2 a0_3 a0_4 a0_5) else (none)) = some (r1, r2) := H
      have A9 := Aside0.mk A90
      clear A90
      by_cases c10 : ([] : List ByteArray).length < 8796093022208
      · rw [if_pos c10] at H
        have LMc10 := Aside0.mk c10
        clear c10
        obtain ⟨y169, hy169⟩ : ∃ y_ : List ByteArray, y_ = (([] : List ByteArray) ++ [t168]) := ⟨_, rfl⟩
        replace H : (frame_Frame_data.j0 k a1 y169 a0_0 a0_1 a0_2 a0_3 a0_4 a0_5) = some (r1, r2) := by first | (rw [hy169]; with_reducible exact H) | (have H2_ := (Option.bind_some _ _).symm.trans H; rw [hy169]; with_reducible exact H2_) | (have H2_ := (Option.bind_some _ _).symm.trans H; with_reducible exact H2_) | with_reducible exact H | (rw [hy169]; exact H) | exact H
        have Ny169 := Aside0.mk hy169
        clear hy169
        have H' := Aside0.mk H
        clear H
        obtain ⟨hcz11_0, hcz11_1, hcz11_2, hcz11_3, hcz11_4, hcz11_5, hfz11_0, hfz11_1, hfz11_2, hfz11_3, hfz11_4, hfz11_5⟩ := cells6_ BK166.out
        go_wp2_with (first | ((with_reducible refine gate_callee (f := 52) rfl ?_); refine goesL_ (some 17) rfl rfl Tryd.func52 (by kernel_rfl) rfl #[.int .u64 (IntKind.u64.wrap (a0_3)), .int .i64 1] rfl q_7 ?_; (with_reducible refine (octet_Big.calls k (IntKind.u64.wrap (a0_3)) 1 t168 _ A9.out).mono ?_); rintro e w12 ⟨rfl, hb⟩; refine ⟨_, rfl, ?_⟩; have n0_ := Aside0.mk (blk_below (g := gb166) (o := .cells #[.string a0_0, .int .u8 a0_1, .int .u8 a0_2, .int .u8 a0_3, .string a0_4, .int .i64 a0_5] 36 (0, 0)) q_26 hb); have n1_ := Aside0.mk (below_step q_27 hb); clear BK166; clear HB; have BK166 := n0_; have HB := n1_; clear n0_ n1_; (try clear hb); (try clear hb2); (try clear hk); (try clear hi)) | ((with_reducible refine gate_builtin (b := .append) (xs := #[.tmp 13, .tmp 18]) rfl ?_); at_builtin; refine Kd.R_append Kd.string (w0 := w) w.heap.size rfl (.tmp 13) (.tmp 18) 80 9 (.string ⟨#[]⟩) 16 rfl Tryd.underlying80 info9 rfl (by decide) (by omega) (.slice none 0 0) ([] : List ByteArray) t168 [.string t168] (fun _ => True) (fun _ => False) rfl rfl ?aP (fun _ hk => hk.elim) ?aF ?aO ?aB ?aS ?aL ?_; (case aP => exact rfl); (case aB => exact q_27); (case aF => exact (fun _ _ => trivial)); (case aO => exact ((Kd.R_nil _ _ _ _ (fun _ => True)))); (case aS => exact (below_size q_27)); (case aL => have := LMc10.out; omega); intro v170 w13 ho hb hg hat; rw [← Ny169.out] at ho; have n0_ := Aside0.mk (blk_grown (g := gb166) (o := .cells #[.string a0_0, .int .u8 a0_1, .int .u8 a0_2, .int .u8 a0_3, .string a0_4, .int .i64 a0_5] 36 (0, 0)) q_26 hg (by simp [Value.ownBlock])); have n1_ := Aside0.mk (hb); have n2_ := Aside0.mk (ho); clear BK166; clear HB; have BK166 := n0_; have HB := n1_; have HO171 := n2_; clear n0_ n1_ n2_; clear ho hb hg hat))
        go_meet
        case rel => exact ⟨_, (y169), H', ⟨by first | omega | exact Nat.le_refl _⟩, ⟨by (with_reducible repeat (first | apply Kd.R_alloc | apply Kd.R_drewN | apply Kd.R_drew)); exact HO171.out⟩, ⟨q_26⟩, ⟨q_27⟩⟩
      · rw [if_neg c10] at H
        exact absurd H (by simp)
    · replace c8 := Bool.eq_false_iff.mpr c8
      subst c8
      have H1 : (frame_Frame_data.j0 k a1 ([] : List ByteArray) a0_0 a0_1 a0_2 a0_3 a0_4 a0_5) = some (r1, r2) := by rw [if_neg (show ¬ (false = true) by decide)] at H; exact H
      clear H
      have H := H1
      clear H1
      have H' := Aside0.mk H
      clear H
      go_wp2
      go_meet
      case rel => exact ⟨_, (([] : List ByteArray)), H', ⟨by first | omega | exact Nat.le_refl _⟩, ⟨q_10⟩, ⟨q_26⟩, ⟨q_27⟩⟩
  case rest =>
    clear HC4
    try clear c1; try clear c2; try clear p2; try clear c4; try clear c5; try clear c8; try clear c10; try clear hcz11_0; try clear hcz11_1; try clear hcz11_2; try clear hcz11_3; try clear hcz11_4; try clear hcz11_5; try clear hcz6_0; try clear hcz6_1; try clear hcz6_2; try clear hcz6_3; try clear hcz6_4; try clear hcz6_5; try clear hfz11_0; try clear hfz11_1; try clear hfz11_2; try clear hfz11_3; try clear hfz11_4; try clear hfz11_5; try clear hfz6_0; try clear hfz6_1; try clear hfz6_2; try clear hfz6_3; try clear hfz6_4; try clear hfz6_5
    obtain ⟨kq, x6_3, HA, HJ3, HO_6, BK166, HB⟩ := hcut
    cases kq with
    | zero => exact absurd HA.out (by simp [frame_Frame_data.j0])
    | succ kj3 =>
      have H := HA.out
      clear HA
      simp only [frame_Frame_data.j0] at H
      replace H := Option.bind_eq_some_iff.mp H
      obtain ⟨t172, A140, H⟩ := H
      replace H : (if t172 = true then ((octet_Safe.f (IntKind.u64.wrap ((a0_4.size : Int)))).bind fun bt173 => (if bt173.2 = true then (if x6_3.length < 8796093022208 then (frame_Frame_data.j1 kj3 a1 (x6_3 ++ [bt173.1]) a0_0 a0_1 a0_2 a0_3 a0_4 a0_5) else (none)) else (some ((⟨#[]⟩ : ByteArray), false)))) else (frame_Frame_data.j1 kj3 a1 x6_3 a0_0 a0_1 a0_2 a0_3 a0_4 a0_5)) = some (r1, r2) := H
      have A14 := Aside0.mk A140
      clear A140
      have HC15 := Aside0.mk H
      clear H
      obtain ⟨hcz16_0, hcz16_1, hcz16_2, hcz16_3, hcz16_4, hcz16_5, hfz16_0, hfz16_1, hfz16_2, hfz16_3, hfz16_4, hfz16_5⟩ := cells6_ BK166.out
      go_upto_if 23 with (first | ((with_reducible refine gate_callee (f := 23) rfl ?_); refine goesL_ (some 23) rfl rfl Tryd.func23 (by kernel_rfl) rfl #[.agg #[.string a0_0, .int .u8 a0_1, .int .u8 a0_2], .int .i64 a1] rfl q_7 ?_; (with_reducible refine (frame_Head_Measured.calls a0_0 a0_1 a0_2 a1 t172 _ A14.out).mono ?_); rintro e w17 ⟨rfl, hb⟩; refine ⟨_, rfl, ?_⟩; have n0_ := Aside0.mk (Kd.R_below q_28 hb); have n1_ := Aside0.mk (blk_below (g := gb166) (o := .cells #[.string a0_0, .int .u8 a0_1, .int .u8 a0_2, .int .u8 a0_3, .string a0_4, .int .i64 a0_5] 36 (0, 0)) q_26 hb); have n2_ := Aside0.mk (below_step q_27 hb); clear HO_6; clear BK166; clear HB; have HO_6 := n0_; have BK166 := n1_; have HB := n2_; clear n0_ n1_ n2_; (try clear hb); (try clear hb2); (try clear hk); (try clear hi)))
      (try simp only [Act.put, List.setIfInBounds_toArray, List.set_cons_zero, List.set_cons_succ])
      go_cut [6] (fun v6 wc => ∃ (kq : Nat) (x6_14 : List ByteArray), Aside0 (frame_Frame_data.j1 kq a1 x6_14 a0_0 a0_1 a0_2 a0_3 a0_4 a0_5 = some (r1, r2)) ∧ Aside0 (kq ≤ kj3) ∧ Aside0 (Kd.R Kd.string 9 wc w.heap.size (fun _ => True) v6 x6_14) ∧ Aside0 (wc.heap[gb166]? = some (.cells #[.string a0_0, .int .u8 a0_1, .int .u8 a0_2, .int .u8 a0_3, .string a0_4, .int .i64 a0_5] 36 (0, 0))) ∧ Aside0 (Below w.heap.size w wc))
      case first =>
        have H := HC15.out
        clear HC15
        by_cases c18 : t172 = true
        · subst c18
          have H1 : ((octet_Safe.f (IntKind.u64.wrap ((a0_4.size : Int)))).bind fun bt173 => (if bt173.2 = true then (if x6_3.length < 8796093022208 then (frame_Frame_data.j1 kj3 a1 (x6_3 ++ [bt173.1]) a0_0 a0_1 a0_2 a0_3 a0_4 a0_5) else (none)) else (some ((⟨#[]⟩ : ByteArray), false)))) = some (r1, r2) := by rw [if_pos rfl] at H; exact H
          clear H
          have H := H1
          clear H1
          replace H := Option.bind_eq_some_iff.mp H
          obtain ⟨⟨t173, t174⟩, A190, H⟩ := H
          replace H : (if t174 = true then (if x6_3.length < 8796093022208 then (frame_Frame_data.j1 kj3 a1 (x6_3 ++ [t173]) a0_0 a0_1 a0_2 a0_3 a0_4 a0_5) else (none)) else (some ((⟨#[]⟩ : ByteArray), false))) = some (r1, r2) := H
          have A19 := Aside0.mk A190
          clear A190
          by_cases c20 : t174 = true
          · subst c20
            have H1 : (if x6_3.length < 8796093022208 then (frame_Frame_data.j1 kj3 a1 (x6_3 ++ [t173]) a0_0 a0_1 a0_2 a0_3 a0_4 a0_5) else (none)) = some (r1, r2) := by rw [if_pos rfl] at H; exact H
            clear H
            have H := H1
            clear H1
            by_cases c21 : x6_3.length < 8796093022208
            · rw [if_pos c21] at H
              have LMc21 := Aside0.mk c21
              clear c21
              obtain ⟨y175, hy175⟩ : ∃ y_ : List ByteArray, y_ = (x6_3 ++ [t173]) := ⟨_, rfl⟩
              replace H : (frame_Frame_data.j1 kj3 a1 y175 a0_0 a0_1 a0_2 a0_3 a0_4 a0_5) = some (r1, r2) := by first | (rw [hy175]; with_reducible exact H) | (have H2_ := (Option.bind_some _ _).symm.trans H; rw [hy175]; with_reducible exact H2_) | (have H2_ := (Option.bind_some _ _).symm.trans H; with_reducible exact H2_) | with_reducible exact H | (rw [hy175]; exact H) | exact H
              have Ny175 := Aside0.mk hy175
              clear hy175
              have H' := Aside0.mk H
              clear H
              obtain ⟨hcz22_0, hcz22_1, hcz22_2, hcz22_3, hcz22_4, hcz22_5, hfz22_0, hfz22_1, hfz22_2, hfz22_3, hfz22_4, hfz22_5⟩ := cells6_ BK166.out
              go_wp2_with (first | ((with_reducible refine gate_callee (f := 50) rfl ?_); refine goesL_ (some 29) rfl rfl Tryd.func50 (by kernel_rfl) rfl #[.int .u64 (IntKind.u64.wrap ((a0_4.size : Int)))] rfl (by (try simp only [List.map_toArray, List.map_cons, List.map_nil]); first | done | rfl | (simp only [List.length_drop, List.length_take]; rfl) | (rw [show IntKind.u64.wrap ((a0_4.size : Int)) = (a0_4.size : Int) from by simp [IntKind.wrap, IntKind.bits, IntKind.signed]; omega]; rfl)) ?_; (with_reducible refine (octet_Safe.calls (IntKind.u64.wrap ((a0_4.size : Int))) t173 true _ A19.out).mono ?_); rintro e w23 ⟨rfl, hb⟩; refine ⟨_, rfl, ?_⟩; have n0_ := Aside0.mk (Kd.R_below q_28 hb); have n1_ := Aside0.mk (blk_below (g := gb166) (o := .cells #[.string a0_0, .int .u8 a0_1, .int .u8 a0_2, .int .u8 a0_3, .string a0_4, .int .i64 a0_5] 36 (0, 0)) q_26 hb); have n2_ := Aside0.mk (below_step q_27 hb); clear HO_6; clear BK166; clear HB; have HO_6 := n0_; have BK166 := n1_; have HB := n2_; clear n0_ n1_ n2_; (try clear hb); (try clear hb2); (try clear hk); (try clear hi)) | ((with_reducible refine gate_builtin (b := .append) (xs := #[.tmp 34, .tmp 36]) rfl ?_); at_builtin; refine Kd.R_append Kd.string (w0 := w) w.heap.size rfl (.tmp 34) (.tmp 36) 80 9 (.string ⟨#[]⟩) 16 rfl Tryd.underlying80 info9 rfl (by decide) (by omega) u6 x6_3 t173 [.string t173] (fun _ => True) (fun _ => False) rfl rfl ?aP (fun _ hk => hk.elim) ?aF ?aO ?aB ?aS ?aL ?_; (case aP => exact rfl); (case aB => exact q_27); (case aF => exact (fun _ _ => trivial)); (case aO => exact q_28); (case aS => exact (below_size q_27)); (case aL => have := LMc21.out; omega); intro v176 w24 ho hb hg hat; rw [← Ny175.out] at ho; have n0_ := Aside0.mk (blk_grown (g := gb166) (o := .cells #[.string a0_0, .int .u8 a0_1, .int .u8 a0_2, .int .u8 a0_3, .string a0_4, .int .i64 a0_5] 36 (0, 0)) q_26 hg (Kd.R_ne HO_6.out BK166.out (by decide))); have n1_ := Aside0.mk (hb); have n2_ := Aside0.mk (ho); clear BK166; clear HB; clear HO_6; have BK166 := n0_; have HB := n1_; have HO177 := n2_; clear n0_ n1_ n2_; clear ho hb hg hat))
              go_meet
              case rel => exact ⟨_, (y175), H', ⟨q_29⟩, ⟨by (with_reducible repeat (first | apply Kd.R_alloc | apply Kd.R_drewN | apply Kd.R_drew)); exact HO177.out⟩, ⟨q_26⟩, ⟨q_27⟩⟩
            · rw [if_neg c21] at H
              exact absurd H (by simp)
          · replace c20 := Bool.eq_false_iff.mpr c20
            subst c20
            have H1 : (some ((⟨#[]⟩ : ByteArray), false)) = some (r1, r2) := by rw [if_neg (show ¬ (false = true) by decide)] at H; exact H
            clear H
            have H := H1
            clear H1
            simp only [Option.some.injEq, Prod.mk.injEq] at H
            obtain ⟨rfl, rfl⟩ := H
            obtain ⟨hcz25_0, hcz25_1, hcz25_2, hcz25_3, hcz25_4, hcz25_5, hfz25_0, hfz25_1, hfz25_2, hfz25_3, hfz25_4, hfz25_5⟩ := cells6_ BK166.out
            go_wp2_with (first | ((with_reducible refine gate_callee (f := 50) rfl ?_); refine goesL_ (some 29) rfl rfl Tryd.func50 (by kernel_rfl) rfl #[.int .u64 (IntKind.u64.wrap ((a0_4.size : Int)))] rfl (by (try simp only [List.map_toArray, List.map_cons, List.map_nil]); first | done | rfl | (simp only [List.length_drop, List.length_take]; rfl) | (rw [show IntKind.u64.wrap ((a0_4.size : Int)) = (a0_4.size : Int) from by simp [IntKind.wrap, IntKind.bits, IntKind.signed]; omega]; rfl)) ?_; (with_reducible refine (octet_Safe.calls (IntKind.u64.wrap ((a0_4.size : Int))) t173 false _ A19.out).mono ?_); rintro e w26 ⟨rfl, hb⟩; refine ⟨_, rfl, ?_⟩; have n0_ := Aside0.mk (Kd.R_below q_28 hb); have n1_ := Aside0.mk (blk_below (g := gb166) (o := .cells #[.string a0_0, .int .u8 a0_1, .int .u8 a0_2, .int .u8 a0_3, .string a0_4, .int .i64 a0_5] 36 (0, 0)) q_26 hb); have n2_ := Aside0.mk (below_step q_27 hb); clear HO_6; clear BK166; clear HB; have HO_6 := n0_; have BK166 := n1_; have HB := n2_; clear n0_ n1_ n2_; (try clear hb); (try clear hb2); (try clear hk); (try clear hi)))
            go_ret2
            exact ⟨q_11, q_27⟩
        · replace c18 := Bool.eq_false_iff.mpr c18
          subst c18
          have H1 : (frame_Frame_data.j1 kj3 a1 x6_3 a0_0 a0_1 a0_2 a0_3 a0_4 a0_5) = some (r1, r2) := by rw [if_neg (show ¬ (false = true) by decide)] at H; exact H
          clear H
          have H := H1
          clear H1
          have H' := Aside0.mk H
          clear H
          go_wp2
          go_meet
          case rel => exact ⟨_, (x6_3), H', ⟨q_29⟩, ⟨q_28⟩, ⟨q_26⟩, ⟨q_27⟩⟩
      case rest =>
        clear HC15
        try clear c1; try clear c2; try clear p2; try clear c4; try clear c5; try clear c8; try clear c10; try clear c18; try clear c20; try clear c21; try clear c23; try clear hcz11_0; try clear hcz11_1; try clear hcz11_2; try clear hcz11_3; try clear hcz11_4; try clear hcz11_5; try clear hcz16_0; try clear hcz16_1; try clear hcz16_2; try clear hcz16_3; try clear hcz16_4; try clear hcz16_5; try clear hcz22_0; try clear hcz22_1; try clear hcz22_2; try clear hcz22_3; try clear hcz22_4; try clear hcz22_5; try clear hcz25_0; try clear hcz25_1; try clear hcz25_2; try clear hcz25_3; try clear hcz25_4; try clear hcz25_5; try clear hcz6_0; try clear hcz6_1; try clear hcz6_2; try clear hcz6_3; try clear hcz6_4; try clear hcz6_5; try clear hfz11_0; try clear hfz11_1; try clear hfz11_2; try clear hfz11_3; try clear hfz11_4; try clear hfz11_5; try clear hfz16_0; try clear hfz16_1; try clear hfz16_2; try clear hfz16_3; try clear hfz16_4; try clear hfz16_5; try clear hfz22_0; try clear hfz22_1; try clear hfz22_2; try clear hfz22_3; try clear hfz22_4; try clear hfz22_5; try clear hfz25_0; try clear hfz25_1; try clear hfz25_2; try clear hfz25_3; try clear hfz25_4; try clear hfz25_5; try clear hfz6_0; try clear hfz6_1; try clear hfz6_2; try clear hfz6_3; try clear hfz6_4; try clear hfz6_5; try clear p2
        obtain ⟨kq, x6_14, HA, HJ14, HO_6, BK166, HB⟩ := hcut
        cases kq with
        | zero => exact absurd HA.out (by simp [frame_Frame_data.j1])
        | succ kj14 =>
          have H := HA.out
          clear HA
          simp only [frame_Frame_data.j1] at H
          replace H := Option.bind_eq_some_iff.mp H
          obtain ⟨t178, A270, H⟩ := H
          replace H : (if t178 = true then ((unsync_Put.f kj14 a0_4).bind fun t179 => (if x6_14.length < 8796093022208 then ((octet_Join.f (x6_14 ++ [t179])).bind fun t183 => (some (t183, true))) else (none))) else (if x6_14.length < 8796093022208 then ((octet_Join.f (x6_14 ++ [a0_4])).bind fun t187 => (some (t187, true))) else (none))) = some (r1, r2) := H
          have A27 := Aside0.mk A270
          clear A270
          by_cases c28 : t178 = true
          · subst c28
            have H1 : ((unsync_Put.f kj14 a0_4).bind fun t179 => (if x6_14.length < 8796093022208 then ((octet_Join.f (x6_14 ++ [t179])).bind fun t183 => (some (t183, true))) else (none))) = some (r1, r2) := by rw [if_pos rfl] at H; exact H
            clear H
            have H := H1
            clear H1
            replace H := Option.bind_eq_some_iff.mp H
            obtain ⟨t179, A290, H⟩ := H
            replace H : (if x6_14.length < 8796093022208 then ((octet_Join.f (x6_14 ++ [t179])).bind fun t183 => (some (t183, true))) else (none)) = some (r1, r2) := H
            have A29 := Aside0.mk A290
            clear A290
            by_cases c30 : x6_14.length < 8796093022208
            · rw [if_pos c30] at H
              have LMc30 := Aside0.mk c30
              clear c30
              obtain ⟨y180, hy180⟩ : ∃ y_ : List ByteArray, y_ = (x6_14 ++ [t179]) := ⟨_, rfl⟩
              replace H : ((octet_Join.f y180).bind fun t183 => (some (t183, true))) = some (r1, r2) := by first | (rw [hy180]; with_reducible exact H) | (have H2_ := (Option.bind_some _ _).symm.trans H; rw [hy180]; with_reducible exact H2_) | (have H2_ := (Option.bind_some _ _).symm.trans H; with_reducible exact H2_) | with_reducible exact H | (rw [hy180]; exact H) | exact H
              have Ny180 := Aside0.mk hy180
              clear hy180
              replace H := Option.bind_eq_some_iff.mp H
              obtain ⟨t183, A310, H⟩ := H
              replace H : (some (t183, true)) = some (r1, r2) := H
              have A31 := Aside0.mk A310
              clear A310
              simp only [Option.some.injEq, Prod.mk.injEq] at H
              obtain ⟨rfl, rfl⟩ := H
              obtain ⟨hcz32_0, hcz32_1, hcz32_2, hcz32_3, hcz32_4, hcz32_5, hfz32_0, hfz32_1, hfz32_2, hfz32_3, hfz32_4, hfz32_5⟩ := cells6_ BK166.out
              go_wp2_with (first | ((with_reducible refine gate_callee (f := 25) rfl ?_); refine goesL_ (some 41) rfl rfl Tryd.func25 (by kernel_rfl) rfl #[.agg #[.string a0_0, .int .u8 a0_1, .int .u8 a0_2], .int .i64 a1] rfl q_7 ?_; (with_reducible refine (frame_Head_Spread.calls a0_0 a0_1 a0_2 a1 true _ A27.out).mono ?_); rintro e w33 ⟨rfl, hb⟩; refine ⟨_, rfl, ?_⟩; have n0_ := Aside0.mk (Kd.R_below q_28 hb); have n1_ := Aside0.mk (blk_below (g := gb166) (o := .cells #[.string a0_0, .int .u8 a0_1, .int .u8 a0_2, .int .u8 a0_3, .string a0_4, .int .i64 a0_5] 36 (0, 0)) q_26 hb); have n2_ := Aside0.mk (below_step q_27 hb); clear HO_6; clear BK166; clear HB; have HO_6 := n0_; have BK166 := n1_; have HB := n2_; clear n0_ n1_ n2_; (try clear hb); (try clear hb2); (try clear hk); (try clear hi); obtain ⟨hcz34_0, hcz34_1, hcz34_2, hcz34_3, hcz34_4, hcz34_5, hfz34_0, hfz34_1, hfz34_2, hfz34_3, hfz34_4, hfz34_5⟩ := cells6_ BK166.out) | ((with_reducible refine gate_callee (f := 11) rfl ?_); refine goesL_ (some 45) rfl rfl Tryd.func11 (by kernel_rfl) rfl #[.string a0_4] rfl q_7 ?_; (with_reducible refine (unsync_Put.calls kj14 a0_4 t179 _ A29.out).mono ?_); rintro e w35 ⟨rfl, hb⟩; refine ⟨_, rfl, ?_⟩; have n0_ := Aside0.mk (Kd.R_below q_28 hb); have n1_ := Aside0.mk (blk_below (g := gb166) (o := .cells #[.string a0_0, .int .u8 a0_1, .int .u8 a0_2, .int .u8 a0_3, .string a0_4, .int .i64 a0_5] 36 (0, 0)) q_26 hb); have n2_ := Aside0.mk (below_step q_27 hb); clear HO_6; clear BK166; clear HB; have HO_6 := n0_; have BK166 := n1_; have HB := n2_; clear n0_ n1_ n2_; (try clear hb); (try clear hb2); (try clear hk); (try clear hi)) | ((with_reducible refine gate_builtin (b := .append) (xs := #[.tmp 42, .tmp 46]) rfl ?_); at_builtin; refine Kd.R_append Kd.string (w0 := w) w.heap.size rfl (.tmp 42) (.tmp 46) 80 9 (.string ⟨#[]⟩) 16 rfl Tryd.underlying80 info9 rfl (by decide) (by omega) u6 x6_14 t179 [.string t179] (fun _ => True) (fun _ => False) rfl rfl ?aP (fun _ hk => hk.elim) ?aF ?aO ?aB ?aS ?aL ?_; (case aP => exact rfl); (case aB => exact q_27); (case aF => exact (fun _ _ => trivial)); (case aO => exact q_28); (case aS => exact (below_size q_27)); (case aL => have := LMc30.out; omega); intro v181 w36 ho hb hg hat; rw [← Ny180.out] at ho; have n0_ := Aside0.mk (blk_grown (g := gb166) (o := .cells #[.string a0_0, .int .u8 a0_1, .int .u8 a0_2, .int .u8 a0_3, .string a0_4, .int .i64 a0_5] 36 (0, 0)) q_26 hg (Kd.R_ne HO_6.out BK166.out (by decide))); have n1_ := Aside0.mk (hb); have n2_ := Aside0.mk (ho); clear BK166; clear HB; clear HO_6; have BK166 := n0_; have HB := n1_; have HO182 := n2_; clear n0_ n1_ n2_; clear ho hb hg hat; obtain ⟨Ao37, co37, eo37⟩ := Kd.R_slice HO182.out; subst eo37) | ((with_reducible refine gate_callee (f := 51) rfl ?_); refine goesL_ (some 48) rfl rfl Tryd.func51 (by kernel_rfl) rfl #[.slice Ao37 y180.length co37] rfl q_7 ?_; (with_reducible refine (octet_Join.calls _ _ y180 t183 _ ?side1 ?side2 A31.out).mono ?_); (case side1 => repeat (first | exact (Kd.R_reads' HO182.out).2.2 | (with_reducible refine Kd.C_alloc ?_ _) | (with_reducible refine Kd.C_drewN ?_ _) | (with_reducible refine Kd.C_drew ?_))); (case side2 => exact (Kd.R_reads' HO182.out).2.1); rintro e w38 ⟨rfl, hb⟩; refine ⟨_, rfl, ?_⟩; have n0_ := Aside0.mk (Kd.R_below (by (with_reducible repeat (first | apply Kd.R_alloc | apply Kd.R_drewN | apply Kd.R_drew)); exact HO182.out) hb); have n1_ := Aside0.mk (blk_below (g := gb166) (o := .cells #[.string a0_0, .int .u8 a0_1, .int .u8 a0_2, .int .u8 a0_3, .string a0_4, .int .i64 a0_5] 36 (0, 0)) q_26 hb); have n2_ := Aside0.mk (below_step q_27 hb); clear HO182; clear BK166; clear HB; have HO182 := n0_; have BK166 := n1_; have HB := n2_; clear n0_ n1_ n2_; (try clear hb); (try clear hb2); (try clear hk); (try clear hi)))
              go_ret2
              exact ⟨q_11, q_27⟩
            · rw [if_neg c30] at H
              exact absurd H (by simp)
          · replace c28 := Bool.eq_false_iff.mpr c28
            subst c28
            have H1 : (if x6_14.length < 8796093022208 then ((octet_Join.f (x6_14 ++ [a0_4])).bind fun t187 => (some (t187, true))) else (none)) = some (r1, r2) := by rw [if_neg (show ¬ (false = true) by decide)] at H; exact H
            clear H
            have H := H1
            clear H1
            by_cases c39 : x6_14.length < 8796093022208
            · rw [if_pos c39] at H
              have LMc39 := Aside0.mk c39
              clear c39
              obtain ⟨y184, hy184⟩ : ∃ y_ : List ByteArray, y_ = (x6_14 ++ [a0_4]) := ⟨_, rfl⟩
              replace H : ((octet_Join.f y184).bind fun t187 => (some (t187, true))) = some (r1, r2) := by first | (rw [hy184]; with_reducible exact H) | (have H2_ := (Option.bind_some _ _).symm.trans H; rw [hy184]; with_reducible exact H2_) | (have H2_ := (Option.bind_some _ _).symm.trans H; with_reducible exact H2_) | with_reducible exact H | (rw [hy184]; exact H) | exact H
              have Ny184 := Aside0.mk hy184
              clear hy184
              replace H := Option.bind_eq_some_iff.mp H
              obtain ⟨t187, A400, H⟩ := H
              replace H : (some (t187, true)) = some (r1, r2) := H
              have A40 := Aside0.mk A400
              clear A400
              simp only [Option.some.injEq, Prod.mk.injEq] at H
              obtain ⟨rfl, rfl⟩ := H
              obtain ⟨hcz41_0, hcz41_1, hcz41_2, hcz41_3, hcz41_4, hcz41_5, hfz41_0, hfz41_1, hfz41_2, hfz41_3, hfz41_4, hfz41_5⟩ := cells6_ BK166.out
              go_wp2_with (first | ((with_reducible refine gate_callee (f := 25) rfl ?_); refine goesL_ (some 41) rfl rfl Tryd.func25 (by kernel_rfl) rfl #[.agg #[.string a0_0, .int .u8 a0_1, .int .u8 a0_2], .int .i64 a1] rfl q_7 ?_; (with_reducible refine (frame_Head_Spread.calls a0_0 a0_1 a0_2 a1 false _ A27.out).mono ?_); rintro e w42 ⟨rfl, hb⟩; refine ⟨_, rfl, ?_⟩; have n0_ := Aside0.mk (Kd.R_below q_28 hb); have n1_ := Aside0.mk (blk_below (g := gb166) (o := .cells #[.string a0_0, .int .u8 a0_1, .int .u8 a0_2, .int .u8 a0_3, .string a0_4, .int .i64 a0_5] 36 (0, 0)) q_26 hb); have n2_ := Aside0.mk (below_step q_27 hb); clear HO_6; clear BK166; clear HB; have HO_6 := n0_; have BK166 := n1_; have HB := n2_; clear n0_ n1_ n2_; (try clear hb); (try clear hb2); (try clear hk); (try clear hi); obtain ⟨hcz43_0, hcz43_1, hcz43_2, hcz43_3, hcz43_4, hcz43_5, hfz43_0, hfz43_1, hfz43_2, hfz43_3, hfz43_4, hfz43_5⟩ := cells6_ BK166.out) | ((with_reducible refine gate_builtin (b := .append) (xs := #[.tmp 49, .tmp 52]) rfl ?_); at_builtin; refine Kd.R_append Kd.string (w0 := w) w.heap.size rfl (.tmp 49) (.tmp 52) 80 9 (.string ⟨#[]⟩) 16 rfl Tryd.underlying80 info9 rfl (by decide) (by omega) u6 x6_14 a0_4 [.string a0_4] (fun _ => True) (fun _ => False) rfl rfl ?aP (fun _ hk => hk.elim) ?aF ?aO ?aB ?aS ?aL ?_; (case aP => exact rfl); (case aB => exact q_27); (case aF => exact (fun _ _ => trivial)); (case aO => exact q_28); (case aS => exact (below_size q_27)); (case aL => have := LMc39.out; omega); intro v185 w44 ho hb hg hat; rw [← Ny184.out] at ho; have n0_ := Aside0.mk (blk_grown (g := gb166) (o := .cells #[.string a0_0, .int .u8 a0_1, .int .u8 a0_2, .int .u8 a0_3, .string a0_4, .int .i64 a0_5] 36 (0, 0)) q_26 hg (Kd.R_ne HO_6.out BK166.out (by decide))); have n1_ := Aside0.mk (hb); have n2_ := Aside0.mk (ho); clear BK166; clear HB; clear HO_6; have BK166 := n0_; have HB := n1_; have HO186 := n2_; clear n0_ n1_ n2_; clear ho hb hg hat; obtain ⟨Ao45, co45, eo45⟩ := Kd.R_slice HO186.out; subst eo45) | ((with_reducible refine gate_callee (f := 51) rfl ?_); refine goesL_ (some 54) rfl rfl Tryd.func51 (by kernel_rfl) rfl #[.slice Ao45 y184.length co45] rfl q_7 ?_; (with_reducible refine (octet_Join.calls _ _ y184 t187 _ ?side1 ?side2 A40.out).mono ?_); (case side1 => repeat (first | exact (Kd.R_reads' HO186.out).2.2 | (with_reducible refine Kd.C_alloc ?_ _) | (with_reducible refine Kd.C_drewN ?_ _) | (with_reducible refine Kd.C_drew ?_))); (case side2 => exact (Kd.R_reads' HO186.out).2.1); rintro e w46 ⟨rfl, hb⟩; refine ⟨_, rfl, ?_⟩; have n0_ := Aside0.mk (Kd.R_below (by (with_reducible repeat (first | apply Kd.R_alloc | apply Kd.R_drewN | apply Kd.R_drew)); exact HO186.out) hb); have n1_ := Aside0.mk (blk_below (g := gb166) (o := .cells #[.string a0_0, .int .u8 a0_1, .int .u8 a0_2, .int .u8 a0_3, .string a0_4, .int .i64 a0_5] 36 (0, 0)) q_26 hb); have n2_ := Aside0.mk (below_step q_27 hb); clear HO186; clear BK166; clear HB; have HO186 := n0_; have BK166 := n1_; have HB := n2_; clear n0_ n1_ n2_; (try clear hb); (try clear hb2); (try clear hk); (try clear hi)))
              go_ret2
              exact ⟨q_11, q_27⟩
            · rw [if_neg c39] at H
              exact absurd H (by simp)

end Go.Proofs.YtlmhlmendnjmlaaDoor.PAll
