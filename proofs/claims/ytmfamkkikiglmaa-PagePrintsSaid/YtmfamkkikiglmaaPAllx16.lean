/- Written by a program of this session: functions of the Go program as Lean functions, and the walks that tie them to it. -/
import Derived.Test.YtmfamkkikiglmaaPAllx0
import Derived.Test.YtmfamkkikiglmaaPAllx1
import Derived.Test.YtmfamkkikiglmaaPAllx2
import Derived.Test.YtmfamkkikiglmaaPAllx3
import Derived.Test.YtmfamkkikiglmaaPAllx7
import Derived.Test.YtmfamkkikiglmaaPAllx8
import Derived.Test.YtmfamkkikiglmaaPAllx10
import Derived.Test.YtmfamkkikiglmaaPAllx11
import Derived.Test.YtmfamkkikiglmaaPAllx12
import Derived.Test.YtmfamkkikiglmaaPAllx15
namespace Go.Proofs.Ytmfamkkikiglmaa.PAll
open Go.RowKit Go.Proofs.YtmfamkkikiglmaaW.PrintWords Go.Proofs.YtmfamkkikiglmaaW.PrintLast Go.Proofs.YtmfamkkikiglmaaW.PrintMore
attribute [local go_sem] max2_int min2_int max_two min_two max_three min_three max_four min_four   -- for this text's walks alone
set_option linter.unusedVariables false
set_option linter.unusedSimpArgs false

attribute [local go_sem high] eqA27 eqA32
/-! ### diacriticlaw17_PagePrints: function 4 -/
mutual
def diacriticlaw17_PagePrints.j0 : Nat → Int → Bool → Int → Int → Int → Int → ByteArray → ByteArray → Option (Bool)
  | 0, _, _, _, _, _, _, _, _ => none
  | k + 1, x1, x20, x371000, x371001, x371002, x371003, x371004, x371005 => if x20 = true then ((diacriticlaw17_awake.f k).bind fun t371 => (some t371)) else ((page_Page_Print.f k x371000 x371001 x371002 x371003 x371004 x371005).bind fun bt372 => ((diacriticlaw17_Of.f x371000 x371001 x371002 x371003 x371004 x371005).bind fun bt376 => ((diacriticref17_Check.f k bt376.1 bt376.2.1 bt376.2.2.1 bt376.2.2.2.1 bt376.2.2.2.2.1 bt376.2.2.2.2.2).bind fun t382 => ((diacriticlaw09_Fault.f t382 0).bind fun bt383 => (if (!(bt372.2.1 == bt383.1) || (!(bt372.2.2 == bt383.2))) = true then (diacriticlaw17_PagePrints.j1 k bt372.1 t382 true x371000 x371001 x371002 x371003 x371004 x371005) else ((page_Page_Check.f k x371000 x371001 x371002 x371003 x371004 x371005).bind fun bt385 => (if (!(bt385.1 == bt372.2.1) || (!(bt385.2 == bt372.2.2))) = true then (diacriticlaw17_PagePrints.j1 k bt372.1 t382 true x371000 x371001 x371002 x371003 x371004 x371005) else ((page_Head_Has.f x371000 x371001 x371002 x371003 x1).bind fun t387 => (diacriticlaw17_PagePrints.j1 k bt372.1 t382 (t387 != ((Go.bits .or .u8 x371000 x1) == x371000)) x371000 x371001 x371002 x371003 x371004 x371005)))))))))
def diacriticlaw17_PagePrints.j1 : Nat → ByteArray → Int → Bool → Int → Int → Int → Int → ByteArray → ByteArray → Option (Bool)
  | 0, _, _, _, _, _, _, _, _, _ => none
  | k + 1, x5, x7, x55, x371000, x371001, x371002, x371003, x371004, x371005 => if x55 = true then (some false) else ((page_Page_Open.f x371000 x371001 x371002 x371003 x371004 x371005).bind fun t388 => (if (x371004.size : Int) > 0 then (if 0 ≤ (wrap64 ((x371004.size : Int) - 1)) then (if (wrap64 ((x371004.size : Int) - 1)) < (x371004.size : Int) then (diacriticlaw17_PagePrints.j2 k x5 x7 (t388 != ((bt x371004 (wrap64 ((x371004.size : Int) - 1))) == 255)) x371000 x371001 x371002 x371003 x371004 x371005) else (none)) else (none)) else (diacriticlaw17_PagePrints.j2 k x5 x7 (t388 != false) x371000 x371001 x371002 x371003 x371004 x371005)))
def diacriticlaw17_PagePrints.j2 : Nat → ByteArray → Int → Bool → Int → Int → Int → Int → ByteArray → ByteArray → Option (Bool)
  | 0, _, _, _, _, _, _, _, _, _ => none
  | k + 1, x5, x7, x71, x371000, x371001, x371002, x371003, x371004, x371005 => if x71 = true then (some false) else (if x7 = 0 then ((octet_Read.f x5).bind fun bt390 => ((page_Parse.f k bt390.1 bt390.2.1 bt390.2.2.1 bt390.2.2.2.1 bt390.2.2.2.2).bind fun bt396 => ((diacriticlaw17_awake.f k).bind fun t409 => (if t409 = true then ((diacriticlaw17_Of.f x371000 x371001 x371002 x371003 x371004 x371005).bind fun bt410 => ((diacriticref17_Print.f k bt410.1 bt410.2.1 bt410.2.2.1 bt410.2.2.2.1 bt410.2.2.2.2.1 bt410.2.2.2.2.2).bind fun t416 => (if x5.toList = t416.toList then (if bt396.2.2.2.2.2.2.1 = true then (some ((bt396.1 == x371000 && (bt396.2.1 == x371001 && (bt396.2.2.1 == x371002 && (bt396.2.2.2.1 == x371003)))) && (bt396.2.2.2.2.1.toList == x371004.toList && (bt396.2.2.2.2.2.1.toList == x371005.toList)))) else (some false)) else (some false)))) else (some false))))) else ((diacriticlaw17_awake.f k).bind fun t389 => (if t389 = true then (some (x5.toList == ([] : List UInt8))) else (some false))))
end
def diacriticlaw17_PagePrints.f (k : Nat) (a0_0 : Int) (a0_1 : Int) (a0_2 : Int) (a0_3 : Int) (a0_4 : ByteArray) (a0_5 : ByteArray) (a1 : Int) : Option (Bool) := if (a0_4.size : Int) > 400 then (diacriticlaw17_PagePrints.j0 k a1 true a0_0 a0_1 a0_2 a0_3 a0_4 a0_5) else (diacriticlaw17_PagePrints.j0 k a1 (decide ((a0_5.size : Int) > 3000)) a0_0 a0_1 a0_2 a0_3 a0_4 a0_5)
theorem diacriticlaw17_PagePrints.mono_l : ∀ k, (∀ y0 y1 y2 y3 y4 y5 y6 y7, LeO (diacriticlaw17_PagePrints.j0 k y0 y1 y2 y3 y4 y5 y6 y7) (diacriticlaw17_PagePrints.j0 (k + 1) y0 y1 y2 y3 y4 y5 y6 y7)) ∧ (∀ y0 y1 y2 y3 y4 y5 y6 y7 y8, LeO (diacriticlaw17_PagePrints.j1 k y0 y1 y2 y3 y4 y5 y6 y7 y8) (diacriticlaw17_PagePrints.j1 (k + 1) y0 y1 y2 y3 y4 y5 y6 y7 y8)) ∧ (∀ y0 y1 y2 y3 y4 y5 y6 y7 y8, LeO (diacriticlaw17_PagePrints.j2 k y0 y1 y2 y3 y4 y5 y6 y7 y8) (diacriticlaw17_PagePrints.j2 (k + 1) y0 y1 y2 y3 y4 y5 y6 y7 y8))
  | 0 => ⟨fun _ _ _ _ _ _ _ _ r h => by simp [diacriticlaw17_PagePrints.j0] at h, fun _ _ _ _ _ _ _ _ _ r h => by simp [diacriticlaw17_PagePrints.j1] at h, fun _ _ _ _ _ _ _ _ _ r h => by simp [diacriticlaw17_PagePrints.j2] at h⟩
  | k + 1 => by
    obtain ⟨ih0, ih1, ih2⟩ := diacriticlaw17_PagePrints.mono_l k
    refine ⟨?_, ?_, ?_⟩
    · intro y0 y1 y2 y3 y4 y5 y6 y7
      unfold diacriticlaw17_PagePrints.j0
      repeat' first
      | (with_reducible exact ih0 _ _ _ _ _ _ _ _)
      | (with_reducible exact ih1 _ _ _ _ _ _ _ _ _)
      | (with_reducible exact ih2 _ _ _ _ _ _ _ _ _)
      | (with_reducible exact diacriticlaw17_awake.mono _)
      | (with_reducible exact diacriticref17_Check.mono _ _ _ _ _ _ _)
      | (with_reducible exact diacriticref17_Print.mono _ _ _ _ _ _ _)
      | (with_reducible exact page_Page_Check.mono _ _ _ _ _ _ _)
      | (with_reducible exact page_Page_Print.mono _ _ _ _ _ _ _)
      | (with_reducible exact page_Parse.mono _ _ _ _ _ _)
      | (with_reducible exact LeO.refl _)
      | (with_reducible exact LeO.none _)
      | (with_reducible refine LeO.ite ?_ ?_)
      | (with_reducible refine LeO.bind ?_ (fun _ => ?_))
      | exact ih0 _ _ _ _ _ _ _ _
      | exact ih1 _ _ _ _ _ _ _ _ _
      | exact ih2 _ _ _ _ _ _ _ _ _
      | exact diacriticlaw17_awake.mono _
      | exact diacriticref17_Check.mono _ _ _ _ _ _ _
      | exact diacriticref17_Print.mono _ _ _ _ _ _ _
      | exact page_Page_Check.mono _ _ _ _ _ _ _
      | exact page_Page_Print.mono _ _ _ _ _ _ _
      | exact page_Parse.mono _ _ _ _ _ _
      | exact LeO.none _
      | refine LeO.ite ?_ ?_
      | refine LeO.bind ?_ (fun _ => ?_)
    · intro y0 y1 y2 y3 y4 y5 y6 y7 y8
      unfold diacriticlaw17_PagePrints.j1
      repeat' first
      | (with_reducible exact ih0 _ _ _ _ _ _ _ _)
      | (with_reducible exact ih1 _ _ _ _ _ _ _ _ _)
      | (with_reducible exact ih2 _ _ _ _ _ _ _ _ _)
      | (with_reducible exact diacriticlaw17_awake.mono _)
      | (with_reducible exact diacriticref17_Check.mono _ _ _ _ _ _ _)
      | (with_reducible exact diacriticref17_Print.mono _ _ _ _ _ _ _)
      | (with_reducible exact page_Page_Check.mono _ _ _ _ _ _ _)
      | (with_reducible exact page_Page_Print.mono _ _ _ _ _ _ _)
      | (with_reducible exact page_Parse.mono _ _ _ _ _ _)
      | (with_reducible exact LeO.refl _)
      | (with_reducible exact LeO.none _)
      | (with_reducible refine LeO.ite ?_ ?_)
      | (with_reducible refine LeO.bind ?_ (fun _ => ?_))
      | exact ih0 _ _ _ _ _ _ _ _
      | exact ih1 _ _ _ _ _ _ _ _ _
      | exact ih2 _ _ _ _ _ _ _ _ _
      | exact diacriticlaw17_awake.mono _
      | exact diacriticref17_Check.mono _ _ _ _ _ _ _
      | exact diacriticref17_Print.mono _ _ _ _ _ _ _
      | exact page_Page_Check.mono _ _ _ _ _ _ _
      | exact page_Page_Print.mono _ _ _ _ _ _ _
      | exact page_Parse.mono _ _ _ _ _ _
      | exact LeO.none _
      | refine LeO.ite ?_ ?_
      | refine LeO.bind ?_ (fun _ => ?_)
    · intro y0 y1 y2 y3 y4 y5 y6 y7 y8
      unfold diacriticlaw17_PagePrints.j2
      repeat' first
      | (with_reducible exact ih0 _ _ _ _ _ _ _ _)
      | (with_reducible exact ih1 _ _ _ _ _ _ _ _ _)
      | (with_reducible exact ih2 _ _ _ _ _ _ _ _ _)
      | (with_reducible exact diacriticlaw17_awake.mono _)
      | (with_reducible exact diacriticref17_Check.mono _ _ _ _ _ _ _)
      | (with_reducible exact diacriticref17_Print.mono _ _ _ _ _ _ _)
      | (with_reducible exact page_Page_Check.mono _ _ _ _ _ _ _)
      | (with_reducible exact page_Page_Print.mono _ _ _ _ _ _ _)
      | (with_reducible exact page_Parse.mono _ _ _ _ _ _)
      | (with_reducible exact LeO.refl _)
      | (with_reducible exact LeO.none _)
      | (with_reducible refine LeO.ite ?_ ?_)
      | (with_reducible refine LeO.bind ?_ (fun _ => ?_))
      | exact ih0 _ _ _ _ _ _ _ _
      | exact ih1 _ _ _ _ _ _ _ _ _
      | exact ih2 _ _ _ _ _ _ _ _ _
      | exact diacriticlaw17_awake.mono _
      | exact diacriticref17_Check.mono _ _ _ _ _ _ _
      | exact diacriticref17_Print.mono _ _ _ _ _ _ _
      | exact page_Page_Check.mono _ _ _ _ _ _ _
      | exact page_Page_Print.mono _ _ _ _ _ _ _
      | exact page_Parse.mono _ _ _ _ _ _
      | exact LeO.none _
      | refine LeO.ite ?_ ?_
      | refine LeO.bind ?_ (fun _ => ?_)
theorem diacriticlaw17_PagePrints.mono : ∀ a0 a1 a2 a3 a4 a5 a6 k, LeO (diacriticlaw17_PagePrints.f k a0 a1 a2 a3 a4 a5 a6) (diacriticlaw17_PagePrints.f (k + 1) a0 a1 a2 a3 a4 a5 a6) := by
  intro a0 a1 a2 a3 a4 a5 a6 k
  obtain ⟨ih0, ih1, ih2⟩ := diacriticlaw17_PagePrints.mono_l k
  unfold diacriticlaw17_PagePrints.f
  repeat' first
      | (with_reducible exact ih0 _ _ _ _ _ _ _ _)
      | (with_reducible exact ih1 _ _ _ _ _ _ _ _ _)
      | (with_reducible exact ih2 _ _ _ _ _ _ _ _ _)
      | (with_reducible exact diacriticlaw17_awake.mono _)
      | (with_reducible exact diacriticref17_Check.mono _ _ _ _ _ _ _)
      | (with_reducible exact diacriticref17_Print.mono _ _ _ _ _ _ _)
      | (with_reducible exact page_Page_Check.mono _ _ _ _ _ _ _)
      | (with_reducible exact page_Page_Print.mono _ _ _ _ _ _ _)
      | (with_reducible exact page_Parse.mono _ _ _ _ _ _)
      | (with_reducible exact LeO.refl _)
      | (with_reducible exact LeO.none _)
      | (with_reducible refine LeO.ite ?_ ?_)
      | (with_reducible refine LeO.bind ?_ (fun _ => ?_))
      | exact ih0 _ _ _ _ _ _ _ _
      | exact ih1 _ _ _ _ _ _ _ _ _
      | exact ih2 _ _ _ _ _ _ _ _ _
      | exact diacriticlaw17_awake.mono _
      | exact diacriticref17_Check.mono _ _ _ _ _ _ _
      | exact diacriticref17_Print.mono _ _ _ _ _ _ _
      | exact page_Page_Check.mono _ _ _ _ _ _ _
      | exact page_Page_Print.mono _ _ _ _ _ _ _
      | exact page_Parse.mono _ _ _ _ _ _
      | exact LeO.none _
      | refine LeO.ite ?_ ?_
      | refine LeO.bind ?_ (fun _ => ?_)
def diacriticlaw17_PagePrints.T5 : Bool × List (List Nat × List Nat) := (true, [([], []), ([], []), ([1], [1]), ([0, 2], [0, 2]), ([3, 2], [3]), ([4], [4]), ([5, 4, 4], [4, 5]), ([4], [4]), ([6, 7, 4], [4, 6, 7]), ([4, 8], [4, 8]), ([9, 6], [9]), ([10], [10]), ([11, 10], [10, 11]), ([10], [10]), ([12, 13, 10, 10], [10, 12, 13]), ([10], [10]), ([15, 10], [10, 15]), ([16, 10], [10, 16]), ([10], [10]), ([17, 18, 10], [10, 17, 18]), ([10], [10]), ([20, 10], [10, 20]), ([21, 10], [10, 21]), ([19, 22, 10], [10, 19, 22]), ([14, 23, 10], [10, 14, 23]), ([10, 24], [10, 24])])
def diacriticlaw17_PagePrints.B5 : List Nat := [0, 0, 2, 7, 15, 31, 63, 31, 255, 511, 1023, 2047, 4095, 2047, 16383, 2047, 34815, 100351, 2047, 493567, 2047, 1050623, 3147775, 8357887, 16777215, 33554431]
theorem diacriticlaw17_PagePrints.tab5 : rtab .any (opsOf Try.f4 5) = diacriticlaw17_PagePrints.T5 := by kernel_rfl
theorem diacriticlaw17_PagePrints.bits5 : waitsOk diacriticlaw17_PagePrints.T5.2 diacriticlaw17_PagePrints.B5 = true := by kernel_rfl
set_option maxHeartbeats 8000000 in
set_option maxRecDepth 100000 in
theorem diacriticlaw17_PagePrints.calls (k : Nat) (a0_0 : Int) (a0_1 : Int) (a0_2 : Int) (a0_3 : Int) (a0_4 : ByteArray) (a0_5 : ByteArray) (a1 : Int) (r : Bool) (w : World) (h : diacriticlaw17_PagePrints.f k a0_0 a0_1 a0_2 a0_3 a0_4 a0_5 a1 = some r) :
    Calls Try.prog 4 #[.agg #[.int .u8 a0_0, .int .u64 a0_1, .int .u32 a0_2, .int .u32 a0_3, .string a0_4, .string a0_5], .int .u8 a1] w fun e w' => e = .returned (.bool r) ∧ Below w.heap.size w w' := by
  have hu27 := Try.underlying27
  have hu32 := Try.underlying32
  have hu25 := Try.underlying25
  have HB := Aside0.mk (Below.refl w.heap.size w)
  have H : (if (a0_4.size : Int) > 400 then (diacriticlaw17_PagePrints.j0 k a1 true a0_0 a0_1 a0_2 a0_3 a0_4 a0_5) else (diacriticlaw17_PagePrints.j0 k a1 (decide ((a0_5.size : Int) > 3000)) a0_0 a0_1 a0_2 a0_3 a0_4 a0_5)) = some r := h
  clear h
  have HC3 := Aside0.mk H
  clear H
  go_enter Try.func4, Try.ntmps4
  go_upto_region 1 with (first | ((with_reducible refine gate_dst (N := 2) rfl ?_); (try (refine gate_guard (by rfl) ?_; dsimp only)); refine box_event ?hg (N := 2) ?hd (cs := #[.int .u8 a0_0, .int .u64 a0_1, .int .u32 a0_2, .int .u32 a0_3, .string a0_4, .string a0_5]) (t := 27) ?hr ?_; (case hd => rfl); (case hg => rfl); (case hr => first | (go_simp; done) | (go_simp; rfl)); intro gb370 hg w4 hbox hb; have n0_ := Aside0.mk (below_step (by repeat (first | (with_reducible first | exact HB.out | apply below_alloc | apply pw_below_drewN | apply below_drew1) | exact HB.out)) hb); have n1_ := Aside0.mk (hbox); have n2_ := Aside0.mk ((by rw [hg]; exact (below_size (by repeat (first | (with_reducible first | exact HB.out | apply below_alloc | apply pw_below_drewN | apply below_drew1) | exact HB.out))) : w.heap.size ≤ gb370)); have n3_ := Aside0.mk ((by rw [hg]; exact (below_size (by repeat (first | (with_reducible first | exact HB.out | apply below_alloc | apply pw_below_drewN | apply below_drew1) | exact HB.out))) : w.heap.size ≤ gb370)); clear HB; have HB := n0_; have BK370 := n1_; have GW370 := n2_; have GE370 := n3_; clear n0_ n1_ n2_ n3_; clear hb hbox hg))
  (try simp only [Act.put, List.setIfInBounds_toArray, List.set_cons_zero, List.set_cons_succ])
  go_cut [20] (fun v20 wc => ∃ (kq : Nat) (x20_2 : Bool), v20 = .bool x20_2 ∧ Aside0 (diacriticlaw17_PagePrints.j0 kq a1 x20_2 a0_0 a0_1 a0_2 a0_3 a0_4 a0_5 = some r) ∧ Aside0 (kq ≤ k) ∧ Aside0 (wc.heap[gb370]? = some (.cells #[.int .u8 a0_0, .int .u64 a0_1, .int .u32 a0_2, .int .u32 a0_3, .string a0_4, .string a0_5] 27 (0, 0))) ∧ Aside0 (Below w.heap.size w wc))
  case first =>
    have H := HC3.out
    clear HC3
    by_cases c5 : (a0_4.size : Int) > 400
    · rw [if_pos c5] at H
      have c5b0 : decide (400 < (a0_4.size : Int)) = true := decide_eq_true c5
      have c5b1 : decide (400 < a0_4.size) = true := decide_eq_true (by omega)
      clear c5
      (first | rw [c5b0] | (simp only [i64_w, i32_w]; rw [c5b0]) | skip)
      have H' := Aside0.mk H
      clear H
      have hcz6_0 : w4.cell? ⟨gb370, 0, none⟩ = some (.int .u8 a0_0) := (blk_cell BK370.out 0).trans rfl
      have hcz6_1 : w4.cell? ⟨gb370, 1, none⟩ = some (.int .u64 a0_1) := (blk_cell BK370.out 1).trans rfl
      have hcz6_2 : w4.cell? ⟨gb370, 2, none⟩ = some (.int .u32 a0_2) := (blk_cell BK370.out 2).trans rfl
      have hcz6_3 : w4.cell? ⟨gb370, 3, none⟩ = some (.int .u32 a0_3) := (blk_cell BK370.out 3).trans rfl
      have hcz6_4 : w4.cell? ⟨gb370, 4, none⟩ = some (.string a0_4) := (blk_cell BK370.out 4).trans rfl
      have hcz6_5 : w4.cell? ⟨gb370, 5, none⟩ = some (.string a0_5) := (blk_cell BK370.out 5).trans rfl
      have hfz6_0 := blk_frozen BK370.out 0
      have hfz6_1 := blk_frozen BK370.out 1
      have hfz6_2 := blk_frozen BK370.out 2
      have hfz6_3 := blk_frozen BK370.out 3
      have hfz6_4 := blk_frozen BK370.out 4
      have hfz6_5 := blk_frozen BK370.out 5
      go_wp2
      go_meet
      case rel => exact ⟨_, (true), (by first | rfl | (simp; done) | (simp [*]; done) | (simp [beq_nil_isEmpty, bne_nil_isEmpty]; done)), H', ⟨by first | omega | exact Nat.le_refl _⟩, ⟨by (with_reducible repeat (first | refine blk_drewN ?_ _ | refine blk_drew ?_ | refine blk_alloc ?_ _)); exact BK370.out⟩, ⟨by repeat (first | (with_reducible first | exact HB.out | apply below_alloc | apply pw_below_drewN | apply below_drew1 | refine below_set ?_ GE370.out) | exact HB.out)⟩⟩
    · rw [if_neg c5] at H
      have c5b0 : decide (400 < (a0_4.size : Int)) = false := decide_eq_false c5
      have c5b1 : decide (400 < a0_4.size) = false := decide_eq_false (by omega)
      clear c5
      (first | rw [c5b0] | (simp only [i64_w, i32_w]; rw [c5b0]) | skip)
      have H' := Aside0.mk H
      clear H
      have hcz7_0 : w4.cell? ⟨gb370, 0, none⟩ = some (.int .u8 a0_0) := (blk_cell BK370.out 0).trans rfl
      have hcz7_1 : w4.cell? ⟨gb370, 1, none⟩ = some (.int .u64 a0_1) := (blk_cell BK370.out 1).trans rfl
      have hcz7_2 : w4.cell? ⟨gb370, 2, none⟩ = some (.int .u32 a0_2) := (blk_cell BK370.out 2).trans rfl
      have hcz7_3 : w4.cell? ⟨gb370, 3, none⟩ = some (.int .u32 a0_3) := (blk_cell BK370.out 3).trans rfl
      have hcz7_4 : w4.cell? ⟨gb370, 4, none⟩ = some (.string a0_4) := (blk_cell BK370.out 4).trans rfl
      have hcz7_5 : w4.cell? ⟨gb370, 5, none⟩ = some (.string a0_5) := (blk_cell BK370.out 5).trans rfl
      have hfz7_0 := blk_frozen BK370.out 0
      have hfz7_1 := blk_frozen BK370.out 1
      have hfz7_2 := blk_frozen BK370.out 2
      have hfz7_3 := blk_frozen BK370.out 3
      have hfz7_4 := blk_frozen BK370.out 4
      have hfz7_5 := blk_frozen BK370.out 5
      go_wp2
      go_meet
      case rel => exact ⟨_, (decide ((a0_5.size : Int) > 3000)), (by first | rfl | (simp; done) | (simp [*]; done) | (simp [beq_nil_isEmpty, bne_nil_isEmpty]; done)), H', ⟨by first | omega | exact Nat.le_refl _⟩, ⟨by (with_reducible repeat (first | refine blk_drewN ?_ _ | refine blk_drew ?_ | refine blk_alloc ?_ _)); exact BK370.out⟩, ⟨by repeat (first | (with_reducible first | exact HB.out | apply below_alloc | apply pw_below_drewN | apply below_drew1 | refine below_set ?_ GE370.out) | exact HB.out)⟩⟩
  case rest =>
    clear HC3
    try clear p2
    try clear c4
    try clear c5
    try clear c5b0
    try clear c5b1
    try clear hcz6_0
    try clear hcz6_1
    try clear hcz6_2
    try clear hcz6_3
    try clear hcz6_4
    try clear hcz6_5
    try clear hcz7_0
    try clear hcz7_1
    try clear hcz7_2
    try clear hcz7_3
    try clear hcz7_4
    try clear hcz7_5
    try clear hfz6_0
    try clear hfz6_1
    try clear hfz6_2
    try clear hfz6_3
    try clear hfz6_4
    try clear hfz6_5
    try clear hfz7_0
    try clear hfz7_1
    try clear hfz7_2
    try clear hfz7_3
    try clear hfz7_4
    try clear hfz7_5
    obtain ⟨kq, x20_2, rfl, HA, HJ2, BK370, HB⟩ := hcut
    cases kq with
    | zero => exact absurd HA.out (by simp [diacriticlaw17_PagePrints.j0])
    | succ kj2 =>
      have H := HA.out
      clear HA
      simp only [diacriticlaw17_PagePrints.j0] at H
      by_cases c8 : x20_2 = true
      · subst c8
        have H1 : ((diacriticlaw17_awake.f kj2).bind fun t371 => (some t371)) = some r := by rw [if_pos rfl] at H; exact H
        clear H
        have H := H1
        clear H1
        replace H := Option.bind_eq_some_iff.mp H
        obtain ⟨t371, A90, H⟩ := H
        replace H : (some t371) = some r := H
        have A9 := Aside0.mk A90
        clear A90
        obtain rfl := Option.some.inj H
        go_wp2_with (first | ((with_reducible refine gate_callee (f := 10) rfl ?_); refine goesL_ (some 21) rfl rfl Try.func10 (by kernel_rfl) rfl #[] rfl (by (try simp only [List.map_toArray, List.map_cons, List.map_nil]); first | done | rfl | (simp only [List.length_drop, List.length_take]; rfl)) ?_; (with_reducible refine (diacriticlaw17_awake.calls kj2  t371 _ A9.out).mono ?_); rintro e w10 ⟨rfl, hb⟩; refine ⟨_, rfl, ?_⟩; have n0_ := Aside0.mk (blk_below (g := gb370) (o := .cells #[.int .u8 a0_0, .int .u64 a0_1, .int .u32 a0_2, .int .u32 a0_3, .string a0_4, .string a0_5] 27 (0, 0)) (by (with_reducible repeat (first | refine blk_drewN ?_ _ | refine blk_drew ?_ | refine blk_alloc ?_ _)); exact BK370.out) hb); have n1_ := Aside0.mk (below_step (by repeat (first | (with_reducible first | exact HB.out | apply below_alloc | apply pw_below_drewN | apply below_drew1 | refine below_set ?_ GE370.out) | exact HB.out)) hb); clear BK370; clear HB; have BK370 := n0_; have HB := n1_; clear n0_ n1_; (try clear hb); (try clear hb2); (try clear hk); (try clear hi)))
        go_ret
        exact ⟨by first | rfl | (simp [errW_none, errW_some] <;> rfl) | (simp [*, errW_none, errW_some] <;> rfl), by repeat (first | (with_reducible first | exact HB.out | apply below_alloc | apply pw_below_drewN | apply below_drew1 | refine below_set ?_ GE370.out) | exact HB.out)⟩
      · replace c8 := Bool.eq_false_iff.mpr c8
        subst c8
        have H1 : ((page_Page_Print.f kj2 a0_0 a0_1 a0_2 a0_3 a0_4 a0_5).bind fun bt372 => ((diacriticlaw17_Of.f a0_0 a0_1 a0_2 a0_3 a0_4 a0_5).bind fun bt376 => ((diacriticref17_Check.f kj2 bt376.1 bt376.2.1 bt376.2.2.1 bt376.2.2.2.1 bt376.2.2.2.2.1 bt376.2.2.2.2.2).bind fun t382 => ((diacriticlaw09_Fault.f t382 0).bind fun bt383 => (if (!(bt372.2.1 == bt383.1) || (!(bt372.2.2 == bt383.2))) = true then (diacriticlaw17_PagePrints.j1 kj2 bt372.1 t382 true a0_0 a0_1 a0_2 a0_3 a0_4 a0_5) else ((page_Page_Check.f kj2 a0_0 a0_1 a0_2 a0_3 a0_4 a0_5).bind fun bt385 => (if (!(bt385.1 == bt372.2.1) || (!(bt385.2 == bt372.2.2))) = true then (diacriticlaw17_PagePrints.j1 kj2 bt372.1 t382 true a0_0 a0_1 a0_2 a0_3 a0_4 a0_5) else ((page_Head_Has.f a0_0 a0_1 a0_2 a0_3 a1).bind fun t387 => (diacriticlaw17_PagePrints.j1 kj2 bt372.1 t382 (t387 != ((Go.bits .or .u8 a0_0 a1) == a0_0)) a0_0 a0_1 a0_2 a0_3 a0_4 a0_5))))))))) = some r := by rw [if_neg (show ¬ (false = true) by decide)] at H; exact H
        clear H
        have H := H1
        clear H1
        replace H := Option.bind_eq_some_iff.mp H
        obtain ⟨⟨t372, t373, t374⟩, A110, H⟩ := H
        replace H : ((diacriticlaw17_Of.f a0_0 a0_1 a0_2 a0_3 a0_4 a0_5).bind fun bt376 => ((diacriticref17_Check.f kj2 bt376.1 bt376.2.1 bt376.2.2.1 bt376.2.2.2.1 bt376.2.2.2.2.1 bt376.2.2.2.2.2).bind fun t382 => ((diacriticlaw09_Fault.f t382 0).bind fun bt383 => (if (!(t373 == bt383.1) || (!(t374 == bt383.2))) = true then (diacriticlaw17_PagePrints.j1 kj2 t372 t382 true a0_0 a0_1 a0_2 a0_3 a0_4 a0_5) else ((page_Page_Check.f kj2 a0_0 a0_1 a0_2 a0_3 a0_4 a0_5).bind fun bt385 => (if (!(bt385.1 == t373) || (!(bt385.2 == t374))) = true then (diacriticlaw17_PagePrints.j1 kj2 t372 t382 true a0_0 a0_1 a0_2 a0_3 a0_4 a0_5) else ((page_Head_Has.f a0_0 a0_1 a0_2 a0_3 a1).bind fun t387 => (diacriticlaw17_PagePrints.j1 kj2 t372 t382 (t387 != ((Go.bits .or .u8 a0_0 a1) == a0_0)) a0_0 a0_1 a0_2 a0_3 a0_4 a0_5)))))))) = some r := H
        have A11 := Aside0.mk A110
        clear A110
        replace H := Option.bind_eq_some_iff.mp H
        obtain ⟨⟨t376, t377, t378, t379, t380, t381⟩, A120, H⟩ := H
        replace H : ((diacriticref17_Check.f kj2 t376 t377 t378 t379 t380 t381).bind fun t382 => ((diacriticlaw09_Fault.f t382 0).bind fun bt383 => (if (!(t373 == bt383.1) || (!(t374 == bt383.2))) = true then (diacriticlaw17_PagePrints.j1 kj2 t372 t382 true a0_0 a0_1 a0_2 a0_3 a0_4 a0_5) else ((page_Page_Check.f kj2 a0_0 a0_1 a0_2 a0_3 a0_4 a0_5).bind fun bt385 => (if (!(bt385.1 == t373) || (!(bt385.2 == t374))) = true then (diacriticlaw17_PagePrints.j1 kj2 t372 t382 true a0_0 a0_1 a0_2 a0_3 a0_4 a0_5) else ((page_Head_Has.f a0_0 a0_1 a0_2 a0_3 a1).bind fun t387 => (diacriticlaw17_PagePrints.j1 kj2 t372 t382 (t387 != ((Go.bits .or .u8 a0_0 a1) == a0_0)) a0_0 a0_1 a0_2 a0_3 a0_4 a0_5))))))) = some r := H
        have A12 := Aside0.mk A120
        clear A120
        replace H := Option.bind_eq_some_iff.mp H
        obtain ⟨t382, A130, H⟩ := H
        replace H : ((diacriticlaw09_Fault.f t382 0).bind fun bt383 => (if (!(t373 == bt383.1) || (!(t374 == bt383.2))) = true then (diacriticlaw17_PagePrints.j1 kj2 t372 t382 true a0_0 a0_1 a0_2 a0_3 a0_4 a0_5) else ((page_Page_Check.f kj2 a0_0 a0_1 a0_2 a0_3 a0_4 a0_5).bind fun bt385 => (if (!(bt385.1 == t373) || (!(bt385.2 == t374))) = true then (diacriticlaw17_PagePrints.j1 kj2 t372 t382 true a0_0 a0_1 a0_2 a0_3 a0_4 a0_5) else ((page_Head_Has.f a0_0 a0_1 a0_2 a0_3 a1).bind fun t387 => (diacriticlaw17_PagePrints.j1 kj2 t372 t382 (t387 != ((Go.bits .or .u8 a0_0 a1) == a0_0)) a0_0 a0_1 a0_2 a0_3 a0_4 a0_5)))))) = some r := H
        have A13 := Aside0.mk A130
        clear A130
        have HC14 := Aside0.mk H
        clear H
        have hcz15_0 : wc.cell? ⟨gb370, 0, none⟩ = some (.int .u8 a0_0) := (blk_cell BK370.out 0).trans rfl
        have hcz15_1 : wc.cell? ⟨gb370, 1, none⟩ = some (.int .u64 a0_1) := (blk_cell BK370.out 1).trans rfl
        have hcz15_2 : wc.cell? ⟨gb370, 2, none⟩ = some (.int .u32 a0_2) := (blk_cell BK370.out 2).trans rfl
        have hcz15_3 : wc.cell? ⟨gb370, 3, none⟩ = some (.int .u32 a0_3) := (blk_cell BK370.out 3).trans rfl
        have hcz15_4 : wc.cell? ⟨gb370, 4, none⟩ = some (.string a0_4) := (blk_cell BK370.out 4).trans rfl
        have hcz15_5 : wc.cell? ⟨gb370, 5, none⟩ = some (.string a0_5) := (blk_cell BK370.out 5).trans rfl
        have hfz15_0 := blk_frozen BK370.out 0
        have hfz15_1 := blk_frozen BK370.out 1
        have hfz15_2 := blk_frozen BK370.out 2
        have hfz15_3 := blk_frozen BK370.out 3
        have hfz15_4 := blk_frozen BK370.out 4
        have hfz15_5 := blk_frozen BK370.out 5
        go_upto_region 5 with (first | ((with_reducible refine gate_callee (f := 11) rfl ?_); refine goesL_ (some 24) rfl rfl Try.func11 (by kernel_rfl) rfl #[.agg #[.int .u8 a0_0, .int .u64 a0_1, .int .u32 a0_2, .int .u32 a0_3, .string a0_4, .string a0_5]] rfl (by (try simp only [List.map_toArray, List.map_cons, List.map_nil]); first | done | rfl | (simp only [List.length_drop, List.length_take]; rfl)) ?_; (with_reducible refine (page_Page_Print.calls kj2 a0_0 a0_1 a0_2 a0_3 a0_4 a0_5 t372 t373 t374 _ A11.out).mono ?_); rintro e w16 ⟨rfl, hb⟩; refine ⟨_, rfl, ?_⟩; have n0_ := Aside0.mk (blk_below (g := gb370) (o := .cells #[.int .u8 a0_0, .int .u64 a0_1, .int .u32 a0_2, .int .u32 a0_3, .string a0_4, .string a0_5] 27 (0, 0)) (by (with_reducible repeat (first | refine blk_drewN ?_ _ | refine blk_drew ?_ | refine blk_alloc ?_ _)); exact BK370.out) hb); have n1_ := Aside0.mk (below_step (by repeat (first | (with_reducible first | exact HB.out | apply below_alloc | apply pw_below_drewN | apply below_drew1 | refine below_set ?_ GE370.out) | exact HB.out)) hb); clear BK370; clear HB; have BK370 := n0_; have HB := n1_; clear n0_ n1_; (try clear hb); (try clear hb2); (try clear hk); (try clear hi)) | ((with_reducible refine gate_dst (N := 6) rfl ?_); (try (refine gate_guard (by rfl) ?_; dsimp only)); refine box_event ?hg (N := 6) ?hd (cs := #[.int .i64 0, .int .i64 0]) (t := 32) ?hr ?_; (case hd => rfl); (case hg => rfl); (case hr => first | (go_simp; done) | (go_simp; rfl)); intro gb375 hg w17 hbox hb; have n0_ := Aside0.mk (blk_below (g := gb370) (o := .cells #[.int .u8 a0_0, .int .u64 a0_1, .int .u32 a0_2, .int .u32 a0_3, .string a0_4, .string a0_5] 27 (0, 0)) (by (with_reducible repeat (first | refine blk_drewN ?_ _ | refine blk_drew ?_ | refine blk_alloc ?_ _)); exact BK370.out) hb); have n1_ := Aside0.mk (below_step (by repeat (first | (with_reducible first | exact HB.out | apply below_alloc | apply pw_below_drewN | apply below_drew1 | refine below_set ?_ GE370.out) | exact HB.out)) hb); have n2_ := Aside0.mk (hbox); have n3_ := Aside0.mk ((by rw [hg]; exact (below_size (by repeat (first | (with_reducible first | exact HB.out | apply below_alloc | apply pw_below_drewN | apply below_drew1 | refine below_set ?_ GE370.out) | exact HB.out))) : w.heap.size ≤ gb375)); have n4_ := Aside0.mk ((by rw [hg]; exact (below_size (by repeat (first | (with_reducible first | exact HB.out | apply below_alloc | apply pw_below_drewN | apply below_drew1 | refine below_set ?_ GE370.out) | exact HB.out))) : w.heap.size ≤ gb375)); have n5_ := Aside0.mk ((by rw [hg]; exact Nat.ne_of_lt (blk_lt (g := gb370) (o := .cells #[.int .u8 a0_0, .int .u64 a0_1, .int .u32 a0_2, .int .u32 a0_3, .string a0_4, .string a0_5] 27 (0, 0)) (by (with_reducible repeat (first | refine blk_drewN ?_ _ | refine blk_drew ?_ | refine blk_alloc ?_ _)); exact BK370.out)) : gb370 ≠ gb375)); have n6_ := Aside0.mk ((by rw [hg]; exact Nat.ne_of_gt (blk_lt (g := gb370) (o := .cells #[.int .u8 a0_0, .int .u64 a0_1, .int .u32 a0_2, .int .u32 a0_3, .string a0_4, .string a0_5] 27 (0, 0)) (by (with_reducible repeat (first | refine blk_drewN ?_ _ | refine blk_drew ?_ | refine blk_alloc ?_ _)); exact BK370.out)) : gb375 ≠ gb370)); clear BK370; clear HB; have BK370 := n0_; have HB := n1_; have BK375 := n2_; have GW375 := n3_; have GE375 := n4_; have NB370_375 := n5_; have NB375_370 := n6_; clear n0_ n1_ n2_ n3_ n4_ n5_ n6_; clear hb hbox hg; have hnb18 := NB375_370.out; have hnc18 := NB370_375.out; have hcz19_0 : w17.cell? ⟨gb375, 0, none⟩ = some (.int .i64 0) := (blk_cell BK375.out 0).trans rfl; have hcz19_1 : w17.cell? ⟨gb375, 1, none⟩ = some (.int .i64 0) := (blk_cell BK375.out 1).trans rfl; have hfz19_0 := blk_frozen BK375.out 0; have hfz19_1 := blk_frozen BK375.out 1; have hcz20_0 : w17.cell? ⟨gb370, 0, none⟩ = some (.int .u8 a0_0) := (blk_cell BK370.out 0).trans rfl; have hcz20_1 : w17.cell? ⟨gb370, 1, none⟩ = some (.int .u64 a0_1) := (blk_cell BK370.out 1).trans rfl; have hcz20_2 : w17.cell? ⟨gb370, 2, none⟩ = some (.int .u32 a0_2) := (blk_cell BK370.out 2).trans rfl; have hcz20_3 : w17.cell? ⟨gb370, 3, none⟩ = some (.int .u32 a0_3) := (blk_cell BK370.out 3).trans rfl; have hcz20_4 : w17.cell? ⟨gb370, 4, none⟩ = some (.string a0_4) := (blk_cell BK370.out 4).trans rfl; have hcz20_5 : w17.cell? ⟨gb370, 5, none⟩ = some (.string a0_5) := (blk_cell BK370.out 5).trans rfl; have hfz20_0 := blk_frozen BK370.out 0; have hfz20_1 := blk_frozen BK370.out 1; have hfz20_2 := blk_frozen BK370.out 2; have hfz20_3 := blk_frozen BK370.out 3; have hfz20_4 := blk_frozen BK370.out 4; have hfz20_5 := blk_frozen BK370.out 5) | ((with_reducible refine gate_callee (f := 16) rfl ?_); refine goesL_ (some 28) rfl rfl Try.func16 (by kernel_rfl) rfl #[.agg #[.int .u8 a0_0, .int .u64 a0_1, .int .u32 a0_2, .int .u32 a0_3, .string a0_4, .string a0_5]] rfl (by (try simp only [List.map_toArray, List.map_cons, List.map_nil]); first | done | rfl | (simp only [List.length_drop, List.length_take]; rfl)) ?_; (with_reducible refine (diacriticlaw17_Of.calls a0_0 a0_1 a0_2 a0_3 a0_4 a0_5 t376 t377 t378 t379 t380 t381 _ A12.out).mono ?_); rintro e w21 ⟨rfl, hb⟩; refine ⟨_, rfl, ?_⟩; have n0_ := Aside0.mk (blk_below (g := gb370) (o := .cells #[.int .u8 a0_0, .int .u64 a0_1, .int .u32 a0_2, .int .u32 a0_3, .string a0_4, .string a0_5] 27 (0, 0)) (by (with_reducible repeat (first | refine blk_drewN ?_ _ | refine blk_drew ?_ | refine blk_alloc ?_ _)); refine blk_far ?_ NB370_375.out _; (with_reducible repeat (first | refine blk_drewN ?_ _ | refine blk_drew ?_ | refine blk_alloc ?_ _)); refine blk_far ?_ NB370_375.out _; (with_reducible repeat (first | refine blk_drewN ?_ _ | refine blk_drew ?_ | refine blk_alloc ?_ _)); exact BK370.out) hb); have n1_ := Aside0.mk (blk_below (g := gb375) (o := .cells #[.int .i64 t373, .int .i64 t374] 32 (0, 0)) (by (with_reducible repeat (first | refine blk_drewN ?_ _ | refine blk_drew ?_ | refine blk_alloc ?_ _)); refine blk_put (cs := #[.int .i64 t373, .int .i64 0]) ?_ 1 _ rfl; (with_reducible repeat (first | refine blk_drewN ?_ _ | refine blk_drew ?_ | refine blk_alloc ?_ _)); refine blk_put (cs := #[.int .i64 0, .int .i64 0]) ?_ 0 _ rfl; (with_reducible repeat (first | refine blk_drewN ?_ _ | refine blk_drew ?_ | refine blk_alloc ?_ _)); exact BK375.out) hb); have n2_ := Aside0.mk (below_step (by repeat (first | (with_reducible first | exact HB.out | apply below_alloc | apply pw_below_drewN | apply below_drew1 | refine below_set ?_ GE370.out | refine below_set ?_ GE375.out) | exact HB.out)) hb); clear BK370; clear BK375; clear HB; have BK370 := n0_; have BK375 := n1_; have HB := n2_; clear n0_ n1_ n2_; (try clear hb); (try clear hb2); (try clear hk); (try clear hi)) | ((with_reducible refine gate_callee (f := 15) rfl ?_); refine goesL_ (some 29) rfl rfl Try.func15 (by kernel_rfl) rfl #[.agg #[.int .i64 t376, .int .u64 t377, .int .u64 t378, .int .u64 t379, .string t380, .string t381]] rfl (by (try simp only [List.map_toArray, List.map_cons, List.map_nil]); first | done | rfl | (simp only [List.length_drop, List.length_take]; rfl)) ?_; (with_reducible refine (diacriticref17_Check.calls kj2 t376 t377 t378 t379 t380 t381 t382 _ A13.out).mono ?_); rintro e w22 ⟨rfl, hb⟩; refine ⟨_, rfl, ?_⟩; have n0_ := Aside0.mk (blk_below (g := gb370) (o := .cells #[.int .u8 a0_0, .int .u64 a0_1, .int .u32 a0_2, .int .u32 a0_3, .string a0_4, .string a0_5] 27 (0, 0)) (by (with_reducible repeat (first | refine blk_drewN ?_ _ | refine blk_drew ?_ | refine blk_alloc ?_ _)); exact BK370.out) hb); have n1_ := Aside0.mk (blk_below (g := gb375) (o := .cells #[.int .i64 t373, .int .i64 t374] 32 (0, 0)) (by (with_reducible repeat (first | refine blk_drewN ?_ _ | refine blk_drew ?_ | refine blk_alloc ?_ _)); exact BK375.out) hb); have n2_ := Aside0.mk (below_step (by repeat (first | (with_reducible first | exact HB.out | apply below_alloc | apply pw_below_drewN | apply below_drew1 | refine below_set ?_ GE370.out | refine below_set ?_ GE375.out) | exact HB.out)) hb); clear BK370; clear BK375; clear HB; have BK370 := n0_; have BK375 := n1_; have HB := n2_; clear n0_ n1_ n2_; (try clear hb); (try clear hb2); (try clear hk); (try clear hi)))
        (try simp only [Act.put, List.setIfInBounds_toArray, List.set_cons_zero, List.set_cons_succ])
        go_cut [55] (fun v55 wc => ∃ (kq : Nat) (x55_13 : Bool), v55 = .bool x55_13 ∧ Aside0 (diacriticlaw17_PagePrints.j1 kq t372 t382 x55_13 a0_0 a0_1 a0_2 a0_3 a0_4 a0_5 = some r) ∧ Aside0 (kq ≤ kj2) ∧ Aside0 (wc.heap[gb370]? = some (.cells #[.int .u8 a0_0, .int .u64 a0_1, .int .u32 a0_2, .int .u32 a0_3, .string a0_4, .string a0_5] 27 (0, 0))) ∧ Aside0 (wc.heap[gb375]? = some (.cells #[.int .i64 t373, .int .i64 t374] 32 (0, 0))) ∧ Aside0 (Below w.heap.size w wc))
        case first =>
          have H := HC14.out
          clear HC14
          replace H := Option.bind_eq_some_iff.mp H
          obtain ⟨⟨t383, t384⟩, A230, H⟩ := H
          replace H : (if (!(t373 == t383) || (!(t374 == t384))) = true then (diacriticlaw17_PagePrints.j1 kj2 t372 t382 true a0_0 a0_1 a0_2 a0_3 a0_4 a0_5) else ((page_Page_Check.f kj2 a0_0 a0_1 a0_2 a0_3 a0_4 a0_5).bind fun bt385 => (if (!(bt385.1 == t373) || (!(bt385.2 == t374))) = true then (diacriticlaw17_PagePrints.j1 kj2 t372 t382 true a0_0 a0_1 a0_2 a0_3 a0_4 a0_5) else ((page_Head_Has.f a0_0 a0_1 a0_2 a0_3 a1).bind fun t387 => (diacriticlaw17_PagePrints.j1 kj2 t372 t382 (t387 != ((Go.bits .or .u8 a0_0 a1) == a0_0)) a0_0 a0_1 a0_2 a0_3 a0_4 a0_5))))) = some r := H
          have A23 := Aside0.mk A230
          clear A230
          by_cases c24 : (!(t373 == t383) || (!(t374 == t384))) = true
          · rw [if_pos c24] at H
            have c24b0 : (!(t373 == t383) || (!(t374 == t384))) = true := c24
            clear c24
            (first | rw [c24b0] | (simp only [i64_w, i32_w]; rw [c24b0]) | skip)
            have H' := Aside0.mk H
            clear H
            try go_wp2
            have n0_ := Aside0.mk (blk_drew BK370.out)
            have n1_ := Aside0.mk (blk_drew BK375.out)
            have n2_ := Aside0.mk (below_drew1 HB.out)
            clear BK370
            clear BK375
            clear HB
            have BK370 := n0_
            have BK375 := n1_
            have HB := n2_
            clear n0_ n1_ n2_
            refine start_ (n := 26) (S := fun w' => w'.cell? ⟨gb375, 0, none⟩ = some (.int .i64 t373) ∧ w'.cell? ⟨gb375, 1, none⟩ = some (.int .i64 t374)) (ds := []) #[false, false, false, false, false, false, false, false, false, false, false, false, false, false, false, false, false, false, false, false, false, false, false, false, false, false] (by kernel_rfl) rfl rfl ⟨(blk_cell BK375.out 0).trans rfl, (blk_cell BK375.out 1).trans rfl⟩ (fun hHeld => ?_); refine with_tabW diacriticlaw17_PagePrints.tab5 diacriticlaw17_PagePrints.bits5 (fun HT_ HW_ => ?_)
            generalize w22.drew = w25 at BK370 BK375 HB hHeld ⊢
            refine pure_ (i := 1) (N := some 31) (v := ?_) (a' := ?_) #[false, true, false, false, false, false, false, false, false, false, false, false, false, false, false, false, false, false, false, false, false, false, false, false, false, false] rfl rfl (any_of HT_.out (by kernel_rfl)) (fun _ _ _ h => h) (Or.inl ⟨by rfl, ?_⟩) ?_ ?_
            rotate_left
            · intro w'
              go_simp
              with_reducible rfl
            rotate_left
            · simp only [Act.put, List.setIfInBounds_toArray, List.set_cons_zero, List.set_cons_succ, i64_w, i32_w]
              rfl
            refine take_ (i := 0) (N := some 30) (v := ?_) (a' := ?_) #[true, true, false, false, false, false, false, false, false, false, false, false, false, false, false, false, false, false, false, false, false, false, false, false, false, false] rfl rfl (take_ofW HT_.out HW_.out (by kernel_rfl)) (fun _ _ _ h => h) (Or.inl ⟨by rfl, ?_⟩) hHeld ?_ ?_
            rotate_left
            · rintro w' ⟨s0, s1⟩
              go_simp
              with_reducible rfl
            rotate_left
            · simp only [Act.put, List.setIfInBounds_toArray, List.set_cons_zero, List.set_cons_succ, i64_w, i32_w]
              rfl
            refine one_ (i := 2) (N := some 32) #[true, true, true, false, false, false, false, false, false, false, false, false, false, false, false, false, false, false, false, false, false, false, false, false, false, false] rfl rfl (one_of HT_.out (by kernel_rfl)) (by decide) (fun K hK => ?_)
            refine goes_ Try.func17 (by kernel_rfl) rfl #[.int .i64 t382, .int .i64 0] (by rfl) rfl rfl (by (try simp only [List.map_toArray, List.map_cons, List.map_nil]); first | done | rfl | (simp only [List.length_drop, List.length_take]; rfl)) ?_
            with_reducible refine (diacriticlaw09_Fault.calls t382 0 t383 t384 _ A23.out).mono ?_
            rintro e w26 ⟨rfl, hb⟩
            refine ⟨_, rfl, ?_⟩
            have n0_ := Aside0.mk (blk_below (g := gb370) (o := .cells #[.int .u8 a0_0, .int .u64 a0_1, .int .u32 a0_2, .int .u32 a0_3, .string a0_4, .string a0_5] 27 (0, 0)) (by (with_reducible repeat (first | refine blk_drewN ?_ _ | refine blk_drew ?_ | refine blk_alloc ?_ _)); exact BK370.out) hb)
            have n1_ := Aside0.mk (blk_below (g := gb375) (o := .cells #[.int .i64 t373, .int .i64 t374] 32 (0, 0)) (by (with_reducible repeat (first | refine blk_drewN ?_ _ | refine blk_drew ?_ | refine blk_alloc ?_ _)); exact BK375.out) hb)
            have n2_ := Aside0.mk (below_step (by repeat (first | (with_reducible first | exact HB.out | apply below_alloc | apply pw_below_drewN | apply below_drew1 | refine below_set ?_ GE370.out | refine below_set ?_ GE375.out) | exact HB.out)) hb)
            clear BK370
            clear BK375
            clear HB
            have BK370 := n0_
            have BK375 := n1_
            have HB := n2_
            clear n0_ n1_ n2_
            (try clear hb)
            (try clear hb2)
            (try clear hk)
            (try clear hi)
            refine hK.out _ _ ⟨(blk_cell BK375.out 0).trans rfl, (blk_cell BK375.out 1).trans rfl⟩ (fun hHeld => ?_)
            clear hK K
            refine norm_ (a' := ?_) ?_ ?_
            rotate_left
            · show Act.put _ (some 32) _ = _
              simp only [Act.put, List.setIfInBounds_toArray, List.set_cons_zero, List.set_cons_succ, i64_w, i32_w]
              rfl
            refine pure_ (i := 3) (N := some 33) (v := ?_) (a' := ?_) #[true, true, true, true, false, false, false, false, false, false, false, false, false, false, false, false, false, false, false, false, false, false, false, false, false, false] rfl rfl (any_of HT_.out (by kernel_rfl)) (fun _ _ _ h => h) (Or.inl ⟨by rfl, ?_⟩) ?_ ?_
            rotate_left
            · intro w'
              go_simp
              with_reducible rfl
            rotate_left
            · simp only [Act.put, List.setIfInBounds_toArray, List.set_cons_zero, List.set_cons_succ, i64_w, i32_w]
              rfl
            refine pure_ (i := 4) (N := some 34) (v := ?_) (a' := ?_) #[true, true, true, true, true, false, false, false, false, false, false, false, false, false, false, false, false, false, false, false, false, false, false, false, false, false] rfl rfl (any_of HT_.out (by kernel_rfl)) (fun _ _ _ h => h) (Or.inl ⟨by rfl, ?_⟩) ?_ ?_
            rotate_left
            · intro w'
              go_simp
              with_reducible rfl
            rotate_left
            · simp only [Act.put, List.setIfInBounds_toArray, List.set_cons_zero, List.set_cons_succ, i64_w, i32_w]
              rfl
            refine pure_ (i := 5) (N := some 35) (v := undef) (a' := ?_) #[true, true, true, true, true, true, false, false, false, false, false, false, false, false, false, false, false, false, false, false, false, false, false, false, false, false] rfl rfl (any_of HT_.out (by kernel_rfl)) (fun _ _ _ h => h) (Or.inr ⟨by rfl, rfl⟩) ?_ ?_
            rotate_left
            · simp only [Act.put, List.setIfInBounds_toArray, List.set_cons_zero, List.set_cons_succ, i64_w, i32_w]
              rfl
            refine pure_ (i := 6) (N := some 36) (v := undef) (a' := ?_) #[true, true, true, true, true, true, true, false, false, false, false, false, false, false, false, false, false, false, false, false, false, false, false, false, false, false] rfl rfl (any_of HT_.out (by kernel_rfl)) (fun _ _ _ h => h) (Or.inr ⟨by rfl, rfl⟩) ?_ ?_
            rotate_left
            · simp only [Act.put, List.setIfInBounds_toArray, List.set_cons_zero, List.set_cons_succ, i64_w, i32_w]
              rfl
            refine pure_ (i := 7) (N := some 37) (v := undef) (a' := ?_) #[true, true, true, true, true, true, true, true, false, false, false, false, false, false, false, false, false, false, false, false, false, false, false, false, false, false] rfl rfl (any_of HT_.out (by kernel_rfl)) (fun _ _ _ h => h) (Or.inr ⟨by rfl, rfl⟩) ?_ ?_
            rotate_left
            · simp only [Act.put, List.setIfInBounds_toArray, List.set_cons_zero, List.set_cons_succ, i64_w, i32_w]
              rfl
            refine pure_ (i := 8) (N := some 38) (v := undef) (a' := ?_) #[true, true, true, true, true, true, true, true, true, false, false, false, false, false, false, false, false, false, false, false, false, false, false, false, false, false] rfl rfl (any_of HT_.out (by kernel_rfl)) (fun _ _ _ h => h) (Or.inr ⟨by rfl, rfl⟩) ?_ ?_
            rotate_left
            · simp only [Act.put, List.setIfInBounds_toArray, List.set_cons_zero, List.set_cons_succ, i64_w, i32_w]
              rfl
            refine pure_ (i := 9) (N := some 39) (v := ?_) (a' := ?_) #[true, true, true, true, true, true, true, true, true, true, false, false, false, false, false, false, false, false, false, false, false, false, false, false, false, false] rfl rfl (any_of HT_.out (by kernel_rfl)) (fun _ _ _ h => h) (Or.inl ⟨by rfl, ?_⟩) ?_ ?_
            rotate_left
            · intro w'
              go_simp
              with_reducible rfl
            rotate_left
            · simp only [Act.put, List.setIfInBounds_toArray, List.set_cons_zero, List.set_cons_succ, i64_w, i32_w]
              rfl
            refine pure_ (i := 10) (N := some 40) (v := ?_) (a' := ?_) #[true, true, true, true, true, true, true, true, true, true, true, false, false, false, false, false, false, false, false, false, false, false, false, false, false, false] rfl rfl (any_of HT_.out (by kernel_rfl)) (fun _ _ _ h => h) (Or.inl ⟨by rfl, ?_⟩) ?_ ?_
            rotate_left
            · intro w'
              go_simp
              with_reducible rfl
            rotate_left
            · simp only [Act.put, List.setIfInBounds_toArray, List.set_cons_zero, List.set_cons_succ, i64_w, i32_w]
              rfl
            refine pure_ (i := 11) (N := some 41) (v := undef) (a' := ?_) #[true, true, true, true, true, true, true, true, true, true, true, true, false, false, false, false, false, false, false, false, false, false, false, false, false, false] rfl rfl (any_of HT_.out (by kernel_rfl)) (fun _ _ _ h => h) (Or.inr ⟨by rfl, rfl⟩) ?_ ?_
            rotate_left
            · simp only [Act.put, List.setIfInBounds_toArray, List.set_cons_zero, List.set_cons_succ, i64_w, i32_w]
              rfl
            refine pure_ (i := 12) (N := some 42) (v := undef) (a' := ?_) #[true, true, true, true, true, true, true, true, true, true, true, true, true, false, false, false, false, false, false, false, false, false, false, false, false, false] rfl rfl (any_of HT_.out (by kernel_rfl)) (fun _ _ _ h => h) (Or.inr ⟨by rfl, rfl⟩) ?_ ?_
            rotate_left
            · simp only [Act.put, List.setIfInBounds_toArray, List.set_cons_zero, List.set_cons_succ, i64_w, i32_w]
              rfl
            refine pure_ (i := 13) (N := some 43) (v := undef) (a' := ?_) #[true, true, true, true, true, true, true, true, true, true, true, true, true, true, false, false, false, false, false, false, false, false, false, false, false, false] rfl rfl (any_of HT_.out (by kernel_rfl)) (fun _ _ _ h => h) (Or.inr ⟨by rfl, rfl⟩) ?_ ?_
            rotate_left
            · simp only [Act.put, List.setIfInBounds_toArray, List.set_cons_zero, List.set_cons_succ, i64_w, i32_w]
              rfl
            refine pure_ (i := 14) (N := some 44) (v := undef) (a' := ?_) #[true, true, true, true, true, true, true, true, true, true, true, true, true, true, true, false, false, false, false, false, false, false, false, false, false, false] rfl rfl (any_of HT_.out (by kernel_rfl)) (fun _ _ _ h => h) (Or.inr ⟨by rfl, rfl⟩) ?_ ?_
            rotate_left
            · simp only [Act.put, List.setIfInBounds_toArray, List.set_cons_zero, List.set_cons_succ, i64_w, i32_w]
              rfl
            refine pure_ (i := 15) (N := some 45) (v := undef) (a' := ?_) #[true, true, true, true, true, true, true, true, true, true, true, true, true, true, true, true, false, false, false, false, false, false, false, false, false, false] rfl rfl (any_of HT_.out (by kernel_rfl)) (fun _ _ _ h => h) (Or.inr ⟨by rfl, rfl⟩) ?_ ?_
            rotate_left
            · simp only [Act.put, List.setIfInBounds_toArray, List.set_cons_zero, List.set_cons_succ, i64_w, i32_w]
              rfl
            refine pure_ (i := 16) (N := some 46) (v := undef) (a' := ?_) #[true, true, true, true, true, true, true, true, true, true, true, true, true, true, true, true, true, false, false, false, false, false, false, false, false, false] rfl rfl (any_of HT_.out (by kernel_rfl)) (fun _ _ _ h => h) (Or.inr ⟨by rfl, rfl⟩) ?_ ?_
            rotate_left
            · simp only [Act.put, List.setIfInBounds_toArray, List.set_cons_zero, List.set_cons_succ, i64_w, i32_w]
              rfl
            refine pure_ (i := 17) (N := some 47) (v := undef) (a' := ?_) #[true, true, true, true, true, true, true, true, true, true, true, true, true, true, true, true, true, true, false, false, false, false, false, false, false, false] rfl rfl (any_of HT_.out (by kernel_rfl)) (fun _ _ _ h => h) (Or.inr ⟨by rfl, rfl⟩) ?_ ?_
            rotate_left
            · simp only [Act.put, List.setIfInBounds_toArray, List.set_cons_zero, List.set_cons_succ, i64_w, i32_w]
              rfl
            refine pure_ (i := 18) (N := some 48) (v := undef) (a' := ?_) #[true, true, true, true, true, true, true, true, true, true, true, true, true, true, true, true, true, true, true, false, false, false, false, false, false, false] rfl rfl (any_of HT_.out (by kernel_rfl)) (fun _ _ _ h => h) (Or.inr ⟨by rfl, rfl⟩) ?_ ?_
            rotate_left
            · simp only [Act.put, List.setIfInBounds_toArray, List.set_cons_zero, List.set_cons_succ, i64_w, i32_w]
              rfl
            refine pure_ (i := 19) (N := some 49) (v := undef) (a' := ?_) #[true, true, true, true, true, true, true, true, true, true, true, true, true, true, true, true, true, true, true, true, false, false, false, false, false, false] rfl rfl (any_of HT_.out (by kernel_rfl)) (fun _ _ _ h => h) (Or.inr ⟨by rfl, rfl⟩) ?_ ?_
            rotate_left
            · simp only [Act.put, List.setIfInBounds_toArray, List.set_cons_zero, List.set_cons_succ, i64_w, i32_w]
              rfl
            refine pure_ (i := 20) (N := some 50) (v := undef) (a' := ?_) #[true, true, true, true, true, true, true, true, true, true, true, true, true, true, true, true, true, true, true, true, true, false, false, false, false, false] rfl rfl (any_of HT_.out (by kernel_rfl)) (fun _ _ _ h => h) (Or.inr ⟨by rfl, rfl⟩) ?_ ?_
            rotate_left
            · simp only [Act.put, List.setIfInBounds_toArray, List.set_cons_zero, List.set_cons_succ, i64_w, i32_w]
              rfl
            refine pure_ (i := 21) (N := some 51) (v := undef) (a' := ?_) #[true, true, true, true, true, true, true, true, true, true, true, true, true, true, true, true, true, true, true, true, true, true, false, false, false, false] rfl rfl (any_of HT_.out (by kernel_rfl)) (fun _ _ _ h => h) (Or.inr ⟨by rfl, rfl⟩) ?_ ?_
            rotate_left
            · simp only [Act.put, List.setIfInBounds_toArray, List.set_cons_zero, List.set_cons_succ, i64_w, i32_w]
              rfl
            refine pure_ (i := 22) (N := some 52) (v := undef) (a' := ?_) #[true, true, true, true, true, true, true, true, true, true, true, true, true, true, true, true, true, true, true, true, true, true, true, false, false, false] rfl rfl (any_of HT_.out (by kernel_rfl)) (fun _ _ _ h => h) (Or.inr ⟨by rfl, rfl⟩) ?_ ?_
            rotate_left
            · simp only [Act.put, List.setIfInBounds_toArray, List.set_cons_zero, List.set_cons_succ, i64_w, i32_w]
              rfl
            refine pure_ (i := 23) (N := some 53) (v := undef) (a' := ?_) #[true, true, true, true, true, true, true, true, true, true, true, true, true, true, true, true, true, true, true, true, true, true, true, true, false, false] rfl rfl (any_of HT_.out (by kernel_rfl)) (fun _ _ _ h => h) (Or.inr ⟨by rfl, rfl⟩) ?_ ?_
            rotate_left
            · simp only [Act.put, List.setIfInBounds_toArray, List.set_cons_zero, List.set_cons_succ, i64_w, i32_w]
              rfl
            refine pure_ (i := 24) (N := some 54) (v := undef) (a' := ?_) #[true, true, true, true, true, true, true, true, true, true, true, true, true, true, true, true, true, true, true, true, true, true, true, true, true, false] rfl rfl (any_of HT_.out (by kernel_rfl)) (fun _ _ _ h => h) (Or.inr ⟨by rfl, rfl⟩) ?_ ?_
            rotate_left
            · simp only [Act.put, List.setIfInBounds_toArray, List.set_cons_zero, List.set_cons_succ, i64_w, i32_w]
              rfl
            refine pure_ (i := 25) (N := some 55) (v := ?_) (a' := ?_) #[true, true, true, true, true, true, true, true, true, true, true, true, true, true, true, true, true, true, true, true, true, true, true, true, true, true] rfl rfl (any_of HT_.out (by kernel_rfl)) (fun _ _ _ h => h) (Or.inl ⟨by rfl, ?_⟩) ?_ ?_
            rotate_left
            · intro w'
              go_simp
              with_reducible rfl
            rotate_left
            · simp only [Act.put, List.setIfInBounds_toArray, List.set_cons_zero, List.set_cons_succ, i64_w, i32_w]
              rfl
            refine done_ (done_of HT_.out (by kernel_rfl)) ?_
            try go_wp2
            go_meet
            case rel => exact ⟨_, (true), (by first | rfl | (simp; done) | (simp [*]; done) | (simp [beq_nil_isEmpty, bne_nil_isEmpty]; done)), H', ⟨by have := HJ2.out; first | omega | exact Nat.le_refl _⟩, ⟨by (with_reducible repeat (first | refine blk_drewN ?_ _ | refine blk_drew ?_ | refine blk_alloc ?_ _)); exact BK370.out⟩, ⟨by (with_reducible repeat (first | refine blk_drewN ?_ _ | refine blk_drew ?_ | refine blk_alloc ?_ _)); exact BK375.out⟩, ⟨by repeat (first | (with_reducible first | exact HB.out | apply below_alloc | apply pw_below_drewN | apply below_drew1 | refine below_set ?_ GE370.out | refine below_set ?_ GE375.out) | exact HB.out)⟩⟩
          · rw [if_neg c24] at H
            have c24b0 : (!(t373 == t383) || (!(t374 == t384))) = false := by simpa using c24
            clear c24
            (first | rw [c24b0] | (simp only [i64_w, i32_w]; rw [c24b0]) | skip)
            replace H := Option.bind_eq_some_iff.mp H
            obtain ⟨⟨t385, t386⟩, A270, H⟩ := H
            replace H : (if (!(t385 == t373) || (!(t386 == t374))) = true then (diacriticlaw17_PagePrints.j1 kj2 t372 t382 true a0_0 a0_1 a0_2 a0_3 a0_4 a0_5) else ((page_Head_Has.f a0_0 a0_1 a0_2 a0_3 a1).bind fun t387 => (diacriticlaw17_PagePrints.j1 kj2 t372 t382 (t387 != ((Go.bits .or .u8 a0_0 a1) == a0_0)) a0_0 a0_1 a0_2 a0_3 a0_4 a0_5))) = some r := H
            have A27 := Aside0.mk A270
            clear A270
            by_cases c28 : (!(t385 == t373) || (!(t386 == t374))) = true
            · rw [if_pos c28] at H
              have c28b0 : (!(t385 == t373) || (!(t386 == t374))) = true := c28
              clear c28
              have H' := Aside0.mk H
              clear H
              try go_wp2
              have n0_ := Aside0.mk (blk_drew BK370.out)
              have n1_ := Aside0.mk (blk_drew BK375.out)
              have n2_ := Aside0.mk (below_drew1 HB.out)
              clear BK370
              clear BK375
              clear HB
              have BK370 := n0_
              have BK375 := n1_
              have HB := n2_
              clear n0_ n1_ n2_
              refine start_ (n := 26) (S := fun w' => w'.cell? ⟨gb375, 0, none⟩ = some (.int .i64 t373) ∧ w'.cell? ⟨gb375, 1, none⟩ = some (.int .i64 t374) ∧ w'.cell? ⟨gb370, 0, none⟩ = some (.int .u8 a0_0) ∧ w'.cell? ⟨gb370, 1, none⟩ = some (.int .u64 a0_1) ∧ w'.cell? ⟨gb370, 2, none⟩ = some (.int .u32 a0_2) ∧ w'.cell? ⟨gb370, 3, none⟩ = some (.int .u32 a0_3) ∧ w'.cell? ⟨gb370, 4, none⟩ = some (.string a0_4) ∧ w'.cell? ⟨gb370, 5, none⟩ = some (.string a0_5)) (ds := []) #[false, false, false, false, false, false, false, false, false, false, false, false, false, false, false, false, false, false, false, false, false, false, false, false, false, false] (by kernel_rfl) rfl rfl ⟨(blk_cell BK375.out 0).trans rfl, (blk_cell BK375.out 1).trans rfl, (blk_cell BK370.out 0).trans rfl, (blk_cell BK370.out 1).trans rfl, (blk_cell BK370.out 2).trans rfl, (blk_cell BK370.out 3).trans rfl, (blk_cell BK370.out 4).trans rfl, (blk_cell BK370.out 5).trans rfl⟩ (fun hHeld => ?_); refine with_tabW diacriticlaw17_PagePrints.tab5 diacriticlaw17_PagePrints.bits5 (fun HT_ HW_ => ?_)
              generalize w22.drew = w29 at BK370 BK375 HB hHeld ⊢
              refine pure_ (i := 1) (N := some 31) (v := ?_) (a' := ?_) #[false, true, false, false, false, false, false, false, false, false, false, false, false, false, false, false, false, false, false, false, false, false, false, false, false, false] rfl rfl (any_of HT_.out (by kernel_rfl)) (fun _ _ _ h => h) (Or.inl ⟨by rfl, ?_⟩) ?_ ?_
              rotate_left
              · intro w'
                go_simp
                with_reducible rfl
              rotate_left
              · simp only [Act.put, List.setIfInBounds_toArray, List.set_cons_zero, List.set_cons_succ, i64_w, i32_w]
                rfl
              refine take_ (i := 0) (N := some 30) (v := ?_) (a' := ?_) #[true, true, false, false, false, false, false, false, false, false, false, false, false, false, false, false, false, false, false, false, false, false, false, false, false, false] rfl rfl (take_ofW HT_.out HW_.out (by kernel_rfl)) (fun _ _ _ h => h) (Or.inl ⟨by rfl, ?_⟩) hHeld ?_ ?_
              rotate_left
              · rintro w' ⟨s0, s1, s2, s3, s4, s5, s6, s7⟩
                go_simp
                with_reducible rfl
              rotate_left
              · simp only [Act.put, List.setIfInBounds_toArray, List.set_cons_zero, List.set_cons_succ, i64_w, i32_w]
                rfl
              refine one_ (i := 2) (N := some 32) #[true, true, true, false, false, false, false, false, false, false, false, false, false, false, false, false, false, false, false, false, false, false, false, false, false, false] rfl rfl (one_of HT_.out (by kernel_rfl)) (by decide) (fun K hK => ?_)
              refine goes_ Try.func17 (by kernel_rfl) rfl #[.int .i64 t382, .int .i64 0] (by rfl) rfl rfl (by (try simp only [List.map_toArray, List.map_cons, List.map_nil]); first | done | rfl | (simp only [List.length_drop, List.length_take]; rfl)) ?_
              with_reducible refine (diacriticlaw09_Fault.calls t382 0 t383 t384 _ A23.out).mono ?_
              rintro e w30 ⟨rfl, hb⟩
              refine ⟨_, rfl, ?_⟩
              have n0_ := Aside0.mk (blk_below (g := gb370) (o := .cells #[.int .u8 a0_0, .int .u64 a0_1, .int .u32 a0_2, .int .u32 a0_3, .string a0_4, .string a0_5] 27 (0, 0)) (by (with_reducible repeat (first | refine blk_drewN ?_ _ | refine blk_drew ?_ | refine blk_alloc ?_ _)); exact BK370.out) hb)
              have n1_ := Aside0.mk (blk_below (g := gb375) (o := .cells #[.int .i64 t373, .int .i64 t374] 32 (0, 0)) (by (with_reducible repeat (first | refine blk_drewN ?_ _ | refine blk_drew ?_ | refine blk_alloc ?_ _)); exact BK375.out) hb)
              have n2_ := Aside0.mk (below_step (by repeat (first | (with_reducible first | exact HB.out | apply below_alloc | apply pw_below_drewN | apply below_drew1 | refine below_set ?_ GE370.out | refine below_set ?_ GE375.out) | exact HB.out)) hb)
              clear BK370
              clear BK375
              clear HB
              have BK370 := n0_
              have BK375 := n1_
              have HB := n2_
              clear n0_ n1_ n2_
              (try clear hb)
              (try clear hb2)
              (try clear hk)
              (try clear hi)
              refine hK.out _ _ ⟨(blk_cell BK375.out 0).trans rfl, (blk_cell BK375.out 1).trans rfl, (blk_cell BK370.out 0).trans rfl, (blk_cell BK370.out 1).trans rfl, (blk_cell BK370.out 2).trans rfl, (blk_cell BK370.out 3).trans rfl, (blk_cell BK370.out 4).trans rfl, (blk_cell BK370.out 5).trans rfl⟩ (fun hHeld => ?_)
              clear hK K
              refine norm_ (a' := ?_) ?_ ?_
              rotate_left
              · show Act.put _ (some 32) _ = _
                simp only [Act.put, List.setIfInBounds_toArray, List.set_cons_zero, List.set_cons_succ, i64_w, i32_w]
                rfl
              refine pure_ (i := 3) (N := some 33) (v := ?_) (a' := ?_) #[true, true, true, true, false, false, false, false, false, false, false, false, false, false, false, false, false, false, false, false, false, false, false, false, false, false] rfl rfl (any_of HT_.out (by kernel_rfl)) (fun _ _ _ h => h) (Or.inl ⟨by rfl, ?_⟩) ?_ ?_
              rotate_left
              · intro w'
                go_simp
                with_reducible rfl
              rotate_left
              · simp only [Act.put, List.setIfInBounds_toArray, List.set_cons_zero, List.set_cons_succ, i64_w, i32_w]
                rfl
              refine pure_ (i := 4) (N := some 34) (v := ?_) (a' := ?_) #[true, true, true, true, true, false, false, false, false, false, false, false, false, false, false, false, false, false, false, false, false, false, false, false, false, false] rfl rfl (any_of HT_.out (by kernel_rfl)) (fun _ _ _ h => h) (Or.inl ⟨by rfl, ?_⟩) ?_ ?_
              rotate_left
              · intro w'
                go_simp
                with_reducible rfl
              rotate_left
              · simp only [Act.put, List.setIfInBounds_toArray, List.set_cons_zero, List.set_cons_succ, i64_w, i32_w]
                rfl
              refine take_ (i := 5) (N := some 35) (v := ?_) (a' := ?_) #[true, true, true, true, true, true, false, false, false, false, false, false, false, false, false, false, false, false, false, false, false, false, false, false, false, false] rfl rfl (take_ofW HT_.out HW_.out (by kernel_rfl)) (fun _ _ _ h => h) (Or.inl ⟨by rfl, ?_⟩) hHeld ?_ ?_
              rotate_left
              · rintro w' ⟨s0, s1, s2, s3, s4, s5, s6, s7⟩
                go_simp
                with_reducible rfl
              rotate_left
              · simp only [Act.put, List.setIfInBounds_toArray, List.set_cons_zero, List.set_cons_succ, i64_w, i32_w]
                rfl
              refine take_ (i := 7) (N := some 37) (v := ?_) (a' := ?_) #[true, true, true, true, true, true, false, true, false, false, false, false, false, false, false, false, false, false, false, false, false, false, false, false, false, false] rfl rfl (take_ofW HT_.out HW_.out (by kernel_rfl)) (fun _ _ _ h => h) (Or.inl ⟨by rfl, ?_⟩) hHeld ?_ ?_
              rotate_left
              · rintro w' ⟨s0, s1, s2, s3, s4, s5, s6, s7⟩
                go_simp
                with_reducible rfl
              rotate_left
              · simp only [Act.put, List.setIfInBounds_toArray, List.set_cons_zero, List.set_cons_succ, i64_w, i32_w]
                rfl
              refine one_ (i := 6) (N := some 36) #[true, true, true, true, true, true, true, true, false, false, false, false, false, false, false, false, false, false, false, false, false, false, false, false, false, false] rfl rfl (one_of HT_.out (by kernel_rfl)) (by decide) (fun K hK => ?_)
              refine goes_ Try.func18 (by kernel_rfl) rfl #[.agg #[.int .u8 a0_0, .int .u64 a0_1, .int .u32 a0_2, .int .u32 a0_3, .string a0_4, .string a0_5]] (by rfl) rfl rfl (by (try simp only [List.map_toArray, List.map_cons, List.map_nil]); first | done | rfl | (simp only [List.length_drop, List.length_take]; rfl)) ?_
              with_reducible refine (page_Page_Check.calls kj2 a0_0 a0_1 a0_2 a0_3 a0_4 a0_5 t385 t386 _ A27.out).mono ?_
              rintro e w31 ⟨rfl, hb⟩
              refine ⟨_, rfl, ?_⟩
              have n0_ := Aside0.mk (blk_below (g := gb370) (o := .cells #[.int .u8 a0_0, .int .u64 a0_1, .int .u32 a0_2, .int .u32 a0_3, .string a0_4, .string a0_5] 27 (0, 0)) (by (with_reducible repeat (first | refine blk_drewN ?_ _ | refine blk_drew ?_ | refine blk_alloc ?_ _)); exact BK370.out) hb)
              have n1_ := Aside0.mk (blk_below (g := gb375) (o := .cells #[.int .i64 t373, .int .i64 t374] 32 (0, 0)) (by (with_reducible repeat (first | refine blk_drewN ?_ _ | refine blk_drew ?_ | refine blk_alloc ?_ _)); exact BK375.out) hb)
              have n2_ := Aside0.mk (below_step (by repeat (first | (with_reducible first | exact HB.out | apply below_alloc | apply pw_below_drewN | apply below_drew1 | refine below_set ?_ GE370.out | refine below_set ?_ GE375.out) | exact HB.out)) hb)
              clear BK370
              clear BK375
              clear HB
              have BK370 := n0_
              have BK375 := n1_
              have HB := n2_
              clear n0_ n1_ n2_
              (try clear hb)
              (try clear hb2)
              (try clear hk)
              (try clear hi)
              refine hK.out _ _ ⟨(blk_cell BK375.out 0).trans rfl, (blk_cell BK375.out 1).trans rfl, (blk_cell BK370.out 0).trans rfl, (blk_cell BK370.out 1).trans rfl, (blk_cell BK370.out 2).trans rfl, (blk_cell BK370.out 3).trans rfl, (blk_cell BK370.out 4).trans rfl, (blk_cell BK370.out 5).trans rfl⟩ (fun hHeld => ?_)
              clear hK K
              refine norm_ (a' := ?_) ?_ ?_
              rotate_left
              · show Act.put _ (some 36) _ = _
                simp only [Act.put, List.setIfInBounds_toArray, List.set_cons_zero, List.set_cons_succ, i64_w, i32_w]
                rfl
              refine pure_ (i := 8) (N := some 38) (v := ?_) (a' := ?_) #[true, true, true, true, true, true, true, true, true, false, false, false, false, false, false, false, false, false, false, false, false, false, false, false, false, false] rfl rfl (any_of HT_.out (by kernel_rfl)) (fun _ _ _ h => h) (Or.inl ⟨by rfl, ?_⟩) ?_ ?_
              rotate_left
              · intro w'
                go_simp
                with_reducible rfl
              rotate_left
              · simp only [Act.put, List.setIfInBounds_toArray, List.set_cons_zero, List.set_cons_succ, i64_w, i32_w]
                rfl
              refine pure_ (i := 9) (N := some 39) (v := ?_) (a' := ?_) #[true, true, true, true, true, true, true, true, true, true, false, false, false, false, false, false, false, false, false, false, false, false, false, false, false, false] rfl rfl (any_of HT_.out (by kernel_rfl)) (fun _ _ _ h => h) (Or.inl ⟨by rfl, ?_⟩) ?_ ?_
              rotate_left
              · intro w'
                go_simp
                with_reducible rfl
              rotate_left
              · simp only [Act.put, List.setIfInBounds_toArray, List.set_cons_zero, List.set_cons_succ, i64_w, i32_w]
                rfl
              refine pure_ (i := 10) (N := some 40) (v := ?_) (a' := ?_) #[true, true, true, true, true, true, true, true, true, true, true, false, false, false, false, false, false, false, false, false, false, false, false, false, false, false] rfl rfl (any_of HT_.out (by kernel_rfl)) (fun _ _ _ h => h) (Or.inl ⟨by rfl, ?_⟩) ?_ ?_
              rotate_left
              · intro w'
                go_simp
                with_reducible rfl
              rotate_left
              · simp only [Act.put, List.setIfInBounds_toArray, List.set_cons_zero, List.set_cons_succ, i64_w, i32_w]
                rfl
              refine pure_ (i := 11) (N := some 41) (v := undef) (a' := ?_) #[true, true, true, true, true, true, true, true, true, true, true, true, false, false, false, false, false, false, false, false, false, false, false, false, false, false] rfl rfl (any_of HT_.out (by kernel_rfl)) (fun _ _ _ h => h) (Or.inr ⟨by rfl, rfl⟩) ?_ ?_
              rotate_left
              · simp only [Act.put, List.setIfInBounds_toArray, List.set_cons_zero, List.set_cons_succ, i64_w, i32_w]
                rfl
              refine pure_ (i := 12) (N := some 42) (v := undef) (a' := ?_) #[true, true, true, true, true, true, true, true, true, true, true, true, true, false, false, false, false, false, false, false, false, false, false, false, false, false] rfl rfl (any_of HT_.out (by kernel_rfl)) (fun _ _ _ h => h) (Or.inr ⟨by rfl, rfl⟩) ?_ ?_
              rotate_left
              · simp only [Act.put, List.setIfInBounds_toArray, List.set_cons_zero, List.set_cons_succ, i64_w, i32_w]
                rfl
              refine pure_ (i := 13) (N := some 43) (v := undef) (a' := ?_) #[true, true, true, true, true, true, true, true, true, true, true, true, true, true, false, false, false, false, false, false, false, false, false, false, false, false] rfl rfl (any_of HT_.out (by kernel_rfl)) (fun _ _ _ h => h) (Or.inr ⟨by rfl, rfl⟩) ?_ ?_
              rotate_left
              · simp only [Act.put, List.setIfInBounds_toArray, List.set_cons_zero, List.set_cons_succ, i64_w, i32_w]
                rfl
              refine pure_ (i := 14) (N := some 44) (v := undef) (a' := ?_) #[true, true, true, true, true, true, true, true, true, true, true, true, true, true, true, false, false, false, false, false, false, false, false, false, false, false] rfl rfl (any_of HT_.out (by kernel_rfl)) (fun _ _ _ h => h) (Or.inr ⟨by rfl, rfl⟩) ?_ ?_
              rotate_left
              · simp only [Act.put, List.setIfInBounds_toArray, List.set_cons_zero, List.set_cons_succ, i64_w, i32_w]
                rfl
              refine pure_ (i := 15) (N := some 45) (v := undef) (a' := ?_) #[true, true, true, true, true, true, true, true, true, true, true, true, true, true, true, true, false, false, false, false, false, false, false, false, false, false] rfl rfl (any_of HT_.out (by kernel_rfl)) (fun _ _ _ h => h) (Or.inr ⟨by rfl, rfl⟩) ?_ ?_
              rotate_left
              · simp only [Act.put, List.setIfInBounds_toArray, List.set_cons_zero, List.set_cons_succ, i64_w, i32_w]
                rfl
              refine pure_ (i := 16) (N := some 46) (v := undef) (a' := ?_) #[true, true, true, true, true, true, true, true, true, true, true, true, true, true, true, true, true, false, false, false, false, false, false, false, false, false] rfl rfl (any_of HT_.out (by kernel_rfl)) (fun _ _ _ h => h) (Or.inr ⟨by rfl, rfl⟩) ?_ ?_
              rotate_left
              · simp only [Act.put, List.setIfInBounds_toArray, List.set_cons_zero, List.set_cons_succ, i64_w, i32_w]
                rfl
              refine pure_ (i := 17) (N := some 47) (v := undef) (a' := ?_) #[true, true, true, true, true, true, true, true, true, true, true, true, true, true, true, true, true, true, false, false, false, false, false, false, false, false] rfl rfl (any_of HT_.out (by kernel_rfl)) (fun _ _ _ h => h) (Or.inr ⟨by rfl, rfl⟩) ?_ ?_
              rotate_left
              · simp only [Act.put, List.setIfInBounds_toArray, List.set_cons_zero, List.set_cons_succ, i64_w, i32_w]
                rfl
              refine pure_ (i := 18) (N := some 48) (v := undef) (a' := ?_) #[true, true, true, true, true, true, true, true, true, true, true, true, true, true, true, true, true, true, true, false, false, false, false, false, false, false] rfl rfl (any_of HT_.out (by kernel_rfl)) (fun _ _ _ h => h) (Or.inr ⟨by rfl, rfl⟩) ?_ ?_
              rotate_left
              · simp only [Act.put, List.setIfInBounds_toArray, List.set_cons_zero, List.set_cons_succ, i64_w, i32_w]
                rfl
              refine pure_ (i := 19) (N := some 49) (v := undef) (a' := ?_) #[true, true, true, true, true, true, true, true, true, true, true, true, true, true, true, true, true, true, true, true, false, false, false, false, false, false] rfl rfl (any_of HT_.out (by kernel_rfl)) (fun _ _ _ h => h) (Or.inr ⟨by rfl, rfl⟩) ?_ ?_
              rotate_left
              · simp only [Act.put, List.setIfInBounds_toArray, List.set_cons_zero, List.set_cons_succ, i64_w, i32_w]
                rfl
              refine pure_ (i := 20) (N := some 50) (v := undef) (a' := ?_) #[true, true, true, true, true, true, true, true, true, true, true, true, true, true, true, true, true, true, true, true, true, false, false, false, false, false] rfl rfl (any_of HT_.out (by kernel_rfl)) (fun _ _ _ h => h) (Or.inr ⟨by rfl, rfl⟩) ?_ ?_
              rotate_left
              · simp only [Act.put, List.setIfInBounds_toArray, List.set_cons_zero, List.set_cons_succ, i64_w, i32_w]
                rfl
              refine pure_ (i := 21) (N := some 51) (v := undef) (a' := ?_) #[true, true, true, true, true, true, true, true, true, true, true, true, true, true, true, true, true, true, true, true, true, true, false, false, false, false] rfl rfl (any_of HT_.out (by kernel_rfl)) (fun _ _ _ h => h) (Or.inr ⟨by rfl, rfl⟩) ?_ ?_
              rotate_left
              · simp only [Act.put, List.setIfInBounds_toArray, List.set_cons_zero, List.set_cons_succ, i64_w, i32_w]
                rfl
              refine pure_ (i := 22) (N := some 52) (v := undef) (a' := ?_) #[true, true, true, true, true, true, true, true, true, true, true, true, true, true, true, true, true, true, true, true, true, true, true, false, false, false] rfl rfl (any_of HT_.out (by kernel_rfl)) (fun _ _ _ h => h) (Or.inr ⟨by rfl, rfl⟩) ?_ ?_
              rotate_left
              · simp only [Act.put, List.setIfInBounds_toArray, List.set_cons_zero, List.set_cons_succ, i64_w, i32_w]
                rfl
              refine pure_ (i := 23) (N := some 53) (v := undef) (a' := ?_) #[true, true, true, true, true, true, true, true, true, true, true, true, true, true, true, true, true, true, true, true, true, true, true, true, false, false] rfl rfl (any_of HT_.out (by kernel_rfl)) (fun _ _ _ h => h) (Or.inr ⟨by rfl, rfl⟩) ?_ ?_
              rotate_left
              · simp only [Act.put, List.setIfInBounds_toArray, List.set_cons_zero, List.set_cons_succ, i64_w, i32_w]
                rfl
              refine pure_ (i := 24) (N := some 54) (v := undef) (a' := ?_) #[true, true, true, true, true, true, true, true, true, true, true, true, true, true, true, true, true, true, true, true, true, true, true, true, true, false] rfl rfl (any_of HT_.out (by kernel_rfl)) (fun _ _ _ h => h) (Or.inr ⟨by rfl, rfl⟩) ?_ ?_
              rotate_left
              · simp only [Act.put, List.setIfInBounds_toArray, List.set_cons_zero, List.set_cons_succ, i64_w, i32_w]
                rfl
              refine pure_ (i := 25) (N := some 55) (v := ?_) (a' := ?_) #[true, true, true, true, true, true, true, true, true, true, true, true, true, true, true, true, true, true, true, true, true, true, true, true, true, true] rfl rfl (any_of HT_.out (by kernel_rfl)) (fun _ _ _ h => h) (Or.inl ⟨by rfl, ?_⟩) ?_ ?_
              rotate_left
              · intro w'
                go_simp
                with_reducible rfl
              rotate_left
              · simp only [Act.put, List.setIfInBounds_toArray, List.set_cons_zero, List.set_cons_succ, i64_w, i32_w]
                rfl
              refine done_ (done_of HT_.out (by kernel_rfl)) ?_
              try go_wp2
              go_meet
              case rel => exact ⟨_, (true), (by first | rfl | (simp; done) | (simp [*]; done) | (simp [beq_nil_isEmpty, bne_nil_isEmpty]; done)), H', ⟨by have := HJ2.out; first | omega | exact Nat.le_refl _⟩, ⟨by (with_reducible repeat (first | refine blk_drewN ?_ _ | refine blk_drew ?_ | refine blk_alloc ?_ _)); exact BK370.out⟩, ⟨by (with_reducible repeat (first | refine blk_drewN ?_ _ | refine blk_drew ?_ | refine blk_alloc ?_ _)); exact BK375.out⟩, ⟨by repeat (first | (with_reducible first | exact HB.out | apply below_alloc | apply pw_below_drewN | apply below_drew1 | refine below_set ?_ GE370.out | refine below_set ?_ GE375.out) | exact HB.out)⟩⟩
            · rw [if_neg c28] at H
              have c28b0 : (!(t385 == t373) || (!(t386 == t374))) = false := by simpa using c28
              clear c28
              replace H := Option.bind_eq_some_iff.mp H
              obtain ⟨t387, A320, H⟩ := H
              replace H : (diacriticlaw17_PagePrints.j1 kj2 t372 t382 (t387 != ((Go.bits .or .u8 a0_0 a1) == a0_0)) a0_0 a0_1 a0_2 a0_3 a0_4 a0_5) = some r := H
              have A32 := Aside0.mk A320
              clear A320
              have H' := Aside0.mk H
              clear H
              try go_wp2
              have n0_ := Aside0.mk (blk_drew BK370.out)
              have n1_ := Aside0.mk (blk_drew BK375.out)
              have n2_ := Aside0.mk (below_drew1 HB.out)
              clear BK370
              clear BK375
              clear HB
              have BK370 := n0_
              have BK375 := n1_
              have HB := n2_
              clear n0_ n1_ n2_
              refine start_ (n := 26) (S := fun w' => w'.cell? ⟨gb375, 0, none⟩ = some (.int .i64 t373) ∧ w'.cell? ⟨gb375, 1, none⟩ = some (.int .i64 t374) ∧ w'.cell? ⟨gb370, 0, none⟩ = some (.int .u8 a0_0) ∧ w'.cell? ⟨gb370, 1, none⟩ = some (.int .u64 a0_1) ∧ w'.cell? ⟨gb370, 2, none⟩ = some (.int .u32 a0_2) ∧ w'.cell? ⟨gb370, 3, none⟩ = some (.int .u32 a0_3) ∧ w'.cell? ⟨gb370, 4, none⟩ = some (.string a0_4) ∧ w'.cell? ⟨gb370, 5, none⟩ = some (.string a0_5)) (ds := []) #[false, false, false, false, false, false, false, false, false, false, false, false, false, false, false, false, false, false, false, false, false, false, false, false, false, false] (by kernel_rfl) rfl rfl ⟨(blk_cell BK375.out 0).trans rfl, (blk_cell BK375.out 1).trans rfl, (blk_cell BK370.out 0).trans rfl, (blk_cell BK370.out 1).trans rfl, (blk_cell BK370.out 2).trans rfl, (blk_cell BK370.out 3).trans rfl, (blk_cell BK370.out 4).trans rfl, (blk_cell BK370.out 5).trans rfl⟩ (fun hHeld => ?_); refine with_tabW diacriticlaw17_PagePrints.tab5 diacriticlaw17_PagePrints.bits5 (fun HT_ HW_ => ?_)
              generalize w22.drew = w33 at BK370 BK375 HB hHeld ⊢
              refine pure_ (i := 1) (N := some 31) (v := ?_) (a' := ?_) #[false, true, false, false, false, false, false, false, false, false, false, false, false, false, false, false, false, false, false, false, false, false, false, false, false, false] rfl rfl (any_of HT_.out (by kernel_rfl)) (fun _ _ _ h => h) (Or.inl ⟨by rfl, ?_⟩) ?_ ?_
              rotate_left
              · intro w'
                go_simp
                with_reducible rfl
              rotate_left
              · simp only [Act.put, List.setIfInBounds_toArray, List.set_cons_zero, List.set_cons_succ, i64_w, i32_w]
                rfl
              refine take_ (i := 0) (N := some 30) (v := ?_) (a' := ?_) #[true, true, false, false, false, false, false, false, false, false, false, false, false, false, false, false, false, false, false, false, false, false, false, false, false, false] rfl rfl (take_ofW HT_.out HW_.out (by kernel_rfl)) (fun _ _ _ h => h) (Or.inl ⟨by rfl, ?_⟩) hHeld ?_ ?_
              rotate_left
              · rintro w' ⟨s0, s1, s2, s3, s4, s5, s6, s7⟩
                go_simp
                with_reducible rfl
              rotate_left
              · simp only [Act.put, List.setIfInBounds_toArray, List.set_cons_zero, List.set_cons_succ, i64_w, i32_w]
                rfl
              refine one_ (i := 2) (N := some 32) #[true, true, true, false, false, false, false, false, false, false, false, false, false, false, false, false, false, false, false, false, false, false, false, false, false, false] rfl rfl (one_of HT_.out (by kernel_rfl)) (by decide) (fun K hK => ?_)
              refine goes_ Try.func17 (by kernel_rfl) rfl #[.int .i64 t382, .int .i64 0] (by rfl) rfl rfl (by (try simp only [List.map_toArray, List.map_cons, List.map_nil]); first | done | rfl | (simp only [List.length_drop, List.length_take]; rfl)) ?_
              with_reducible refine (diacriticlaw09_Fault.calls t382 0 t383 t384 _ A23.out).mono ?_
              rintro e w34 ⟨rfl, hb⟩
              refine ⟨_, rfl, ?_⟩
              have n0_ := Aside0.mk (blk_below (g := gb370) (o := .cells #[.int .u8 a0_0, .int .u64 a0_1, .int .u32 a0_2, .int .u32 a0_3, .string a0_4, .string a0_5] 27 (0, 0)) (by (with_reducible repeat (first | refine blk_drewN ?_ _ | refine blk_drew ?_ | refine blk_alloc ?_ _)); exact BK370.out) hb)
              have n1_ := Aside0.mk (blk_below (g := gb375) (o := .cells #[.int .i64 t373, .int .i64 t374] 32 (0, 0)) (by (with_reducible repeat (first | refine blk_drewN ?_ _ | refine blk_drew ?_ | refine blk_alloc ?_ _)); exact BK375.out) hb)
              have n2_ := Aside0.mk (below_step (by repeat (first | (with_reducible first | exact HB.out | apply below_alloc | apply pw_below_drewN | apply below_drew1 | refine below_set ?_ GE370.out | refine below_set ?_ GE375.out) | exact HB.out)) hb)
              clear BK370
              clear BK375
              clear HB
              have BK370 := n0_
              have BK375 := n1_
              have HB := n2_
              clear n0_ n1_ n2_
              (try clear hb)
              (try clear hb2)
              (try clear hk)
              (try clear hi)
              refine hK.out _ _ ⟨(blk_cell BK375.out 0).trans rfl, (blk_cell BK375.out 1).trans rfl, (blk_cell BK370.out 0).trans rfl, (blk_cell BK370.out 1).trans rfl, (blk_cell BK370.out 2).trans rfl, (blk_cell BK370.out 3).trans rfl, (blk_cell BK370.out 4).trans rfl, (blk_cell BK370.out 5).trans rfl⟩ (fun hHeld => ?_)
              clear hK K
              refine norm_ (a' := ?_) ?_ ?_
              rotate_left
              · show Act.put _ (some 32) _ = _
                simp only [Act.put, List.setIfInBounds_toArray, List.set_cons_zero, List.set_cons_succ, i64_w, i32_w]
                rfl
              refine pure_ (i := 3) (N := some 33) (v := ?_) (a' := ?_) #[true, true, true, true, false, false, false, false, false, false, false, false, false, false, false, false, false, false, false, false, false, false, false, false, false, false] rfl rfl (any_of HT_.out (by kernel_rfl)) (fun _ _ _ h => h) (Or.inl ⟨by rfl, ?_⟩) ?_ ?_
              rotate_left
              · intro w'
                go_simp
                with_reducible rfl
              rotate_left
              · simp only [Act.put, List.setIfInBounds_toArray, List.set_cons_zero, List.set_cons_succ, i64_w, i32_w]
                rfl
              refine pure_ (i := 4) (N := some 34) (v := ?_) (a' := ?_) #[true, true, true, true, true, false, false, false, false, false, false, false, false, false, false, false, false, false, false, false, false, false, false, false, false, false] rfl rfl (any_of HT_.out (by kernel_rfl)) (fun _ _ _ h => h) (Or.inl ⟨by rfl, ?_⟩) ?_ ?_
              rotate_left
              · intro w'
                go_simp
                with_reducible rfl
              rotate_left
              · simp only [Act.put, List.setIfInBounds_toArray, List.set_cons_zero, List.set_cons_succ, i64_w, i32_w]
                rfl
              refine take_ (i := 5) (N := some 35) (v := ?_) (a' := ?_) #[true, true, true, true, true, true, false, false, false, false, false, false, false, false, false, false, false, false, false, false, false, false, false, false, false, false] rfl rfl (take_ofW HT_.out HW_.out (by kernel_rfl)) (fun _ _ _ h => h) (Or.inl ⟨by rfl, ?_⟩) hHeld ?_ ?_
              rotate_left
              · rintro w' ⟨s0, s1, s2, s3, s4, s5, s6, s7⟩
                go_simp
                with_reducible rfl
              rotate_left
              · simp only [Act.put, List.setIfInBounds_toArray, List.set_cons_zero, List.set_cons_succ, i64_w, i32_w]
                rfl
              refine take_ (i := 7) (N := some 37) (v := ?_) (a' := ?_) #[true, true, true, true, true, true, false, true, false, false, false, false, false, false, false, false, false, false, false, false, false, false, false, false, false, false] rfl rfl (take_ofW HT_.out HW_.out (by kernel_rfl)) (fun _ _ _ h => h) (Or.inl ⟨by rfl, ?_⟩) hHeld ?_ ?_
              rotate_left
              · rintro w' ⟨s0, s1, s2, s3, s4, s5, s6, s7⟩
                go_simp
                with_reducible rfl
              rotate_left
              · simp only [Act.put, List.setIfInBounds_toArray, List.set_cons_zero, List.set_cons_succ, i64_w, i32_w]
                rfl
              refine one_ (i := 6) (N := some 36) #[true, true, true, true, true, true, true, true, false, false, false, false, false, false, false, false, false, false, false, false, false, false, false, false, false, false] rfl rfl (one_of HT_.out (by kernel_rfl)) (by decide) (fun K hK => ?_)
              refine goes_ Try.func18 (by kernel_rfl) rfl #[.agg #[.int .u8 a0_0, .int .u64 a0_1, .int .u32 a0_2, .int .u32 a0_3, .string a0_4, .string a0_5]] (by rfl) rfl rfl (by (try simp only [List.map_toArray, List.map_cons, List.map_nil]); first | done | rfl | (simp only [List.length_drop, List.length_take]; rfl)) ?_
              with_reducible refine (page_Page_Check.calls kj2 a0_0 a0_1 a0_2 a0_3 a0_4 a0_5 t385 t386 _ A27.out).mono ?_
              rintro e w35 ⟨rfl, hb⟩
              refine ⟨_, rfl, ?_⟩
              have n0_ := Aside0.mk (blk_below (g := gb370) (o := .cells #[.int .u8 a0_0, .int .u64 a0_1, .int .u32 a0_2, .int .u32 a0_3, .string a0_4, .string a0_5] 27 (0, 0)) (by (with_reducible repeat (first | refine blk_drewN ?_ _ | refine blk_drew ?_ | refine blk_alloc ?_ _)); exact BK370.out) hb)
              have n1_ := Aside0.mk (blk_below (g := gb375) (o := .cells #[.int .i64 t373, .int .i64 t374] 32 (0, 0)) (by (with_reducible repeat (first | refine blk_drewN ?_ _ | refine blk_drew ?_ | refine blk_alloc ?_ _)); exact BK375.out) hb)
              have n2_ := Aside0.mk (below_step (by repeat (first | (with_reducible first | exact HB.out | apply below_alloc | apply pw_below_drewN | apply below_drew1 | refine below_set ?_ GE370.out | refine below_set ?_ GE375.out) | exact HB.out)) hb)
              clear BK370
              clear BK375
              clear HB
              have BK370 := n0_
              have BK375 := n1_
              have HB := n2_
              clear n0_ n1_ n2_
              (try clear hb)
              (try clear hb2)
              (try clear hk)
              (try clear hi)
              refine hK.out _ _ ⟨(blk_cell BK375.out 0).trans rfl, (blk_cell BK375.out 1).trans rfl, (blk_cell BK370.out 0).trans rfl, (blk_cell BK370.out 1).trans rfl, (blk_cell BK370.out 2).trans rfl, (blk_cell BK370.out 3).trans rfl, (blk_cell BK370.out 4).trans rfl, (blk_cell BK370.out 5).trans rfl⟩ (fun hHeld => ?_)
              clear hK K
              refine norm_ (a' := ?_) ?_ ?_
              rotate_left
              · show Act.put _ (some 36) _ = _
                simp only [Act.put, List.setIfInBounds_toArray, List.set_cons_zero, List.set_cons_succ, i64_w, i32_w]
                rfl
              refine pure_ (i := 8) (N := some 38) (v := ?_) (a' := ?_) #[true, true, true, true, true, true, true, true, true, false, false, false, false, false, false, false, false, false, false, false, false, false, false, false, false, false] rfl rfl (any_of HT_.out (by kernel_rfl)) (fun _ _ _ h => h) (Or.inl ⟨by rfl, ?_⟩) ?_ ?_
              rotate_left
              · intro w'
                go_simp
                with_reducible rfl
              rotate_left
              · simp only [Act.put, List.setIfInBounds_toArray, List.set_cons_zero, List.set_cons_succ, i64_w, i32_w]
                rfl
              refine pure_ (i := 9) (N := some 39) (v := ?_) (a' := ?_) #[true, true, true, true, true, true, true, true, true, true, false, false, false, false, false, false, false, false, false, false, false, false, false, false, false, false] rfl rfl (any_of HT_.out (by kernel_rfl)) (fun _ _ _ h => h) (Or.inl ⟨by rfl, ?_⟩) ?_ ?_
              rotate_left
              · intro w'
                go_simp
                with_reducible rfl
              rotate_left
              · simp only [Act.put, List.setIfInBounds_toArray, List.set_cons_zero, List.set_cons_succ, i64_w, i32_w]
                rfl
              refine pure_ (i := 10) (N := some 40) (v := ?_) (a' := ?_) #[true, true, true, true, true, true, true, true, true, true, true, false, false, false, false, false, false, false, false, false, false, false, false, false, false, false] rfl rfl (any_of HT_.out (by kernel_rfl)) (fun _ _ _ h => h) (Or.inl ⟨by rfl, ?_⟩) ?_ ?_
              rotate_left
              · intro w'
                go_simp
                with_reducible rfl
              rotate_left
              · simp only [Act.put, List.setIfInBounds_toArray, List.set_cons_zero, List.set_cons_succ, i64_w, i32_w]
                rfl
              refine pure_ (i := 11) (N := some 41) (v := ?_) (a' := ?_) #[true, true, true, true, true, true, true, true, true, true, true, true, false, false, false, false, false, false, false, false, false, false, false, false, false, false] rfl rfl (any_of HT_.out (by kernel_rfl)) (fun _ _ _ h => h) (Or.inl ⟨by rfl, ?_⟩) ?_ ?_
              rotate_left
              · intro w'
                go_simp
                with_reducible rfl
              rotate_left
              · simp only [Act.put, List.setIfInBounds_toArray, List.set_cons_zero, List.set_cons_succ, i64_w, i32_w]
                rfl
              refine pure_ (i := 13) (N := some 43) (v := ?_) (a' := ?_) #[true, true, true, true, true, true, true, true, true, true, true, true, false, true, false, false, false, false, false, false, false, false, false, false, false, false] rfl rfl (any_of HT_.out (by kernel_rfl)) (fun _ _ _ h => h) (Or.inl ⟨by rfl, ?_⟩) ?_ ?_
              rotate_left
              · intro w'
                go_simp
                with_reducible rfl
              rotate_left
              · simp only [Act.put, List.setIfInBounds_toArray, List.set_cons_zero, List.set_cons_succ, i64_w, i32_w]
                rfl
              refine pure_ (i := 15) (N := some 45) (v := ?_) (a' := ?_) #[true, true, true, true, true, true, true, true, true, true, true, true, false, true, false, true, false, false, false, false, false, false, false, false, false, false] rfl rfl (any_of HT_.out (by kernel_rfl)) (fun _ _ _ h => h) (Or.inl ⟨by rfl, ?_⟩) ?_ ?_
              rotate_left
              · intro w'
                go_simp
                with_reducible rfl
              rotate_left
              · simp only [Act.put, List.setIfInBounds_toArray, List.set_cons_zero, List.set_cons_succ, i64_w, i32_w]
                rfl
              refine pure_ (i := 16) (N := some 46) (v := ?_) (a' := ?_) #[true, true, true, true, true, true, true, true, true, true, true, true, false, true, false, true, true, false, false, false, false, false, false, false, false, false] rfl rfl (any_of HT_.out (by kernel_rfl)) (fun _ _ _ h => h) (Or.inl ⟨by rfl, ?_⟩) ?_ ?_
              rotate_left
              · intro w'
                go_simp
                with_reducible rfl
              rotate_left
              · simp only [Act.put, List.setIfInBounds_toArray, List.set_cons_zero, List.set_cons_succ, i64_w, i32_w]
                rfl
              refine pure_ (i := 18) (N := some 48) (v := ?_) (a' := ?_) #[true, true, true, true, true, true, true, true, true, true, true, true, false, true, false, true, true, false, true, false, false, false, false, false, false, false] rfl rfl (any_of HT_.out (by kernel_rfl)) (fun _ _ _ h => h) (Or.inl ⟨by rfl, ?_⟩) ?_ ?_
              rotate_left
              · intro w'
                go_simp
                with_reducible rfl
              rotate_left
              · simp only [Act.put, List.setIfInBounds_toArray, List.set_cons_zero, List.set_cons_succ, i64_w, i32_w]
                rfl
              refine pure_ (i := 20) (N := some 50) (v := ?_) (a' := ?_) #[true, true, true, true, true, true, true, true, true, true, true, true, false, true, false, true, true, false, true, false, true, false, false, false, false, false] rfl rfl (any_of HT_.out (by kernel_rfl)) (fun _ _ _ h => h) (Or.inl ⟨by rfl, ?_⟩) ?_ ?_
              rotate_left
              · intro w'
                go_simp
                with_reducible rfl
              rotate_left
              · simp only [Act.put, List.setIfInBounds_toArray, List.set_cons_zero, List.set_cons_succ, i64_w, i32_w]
                rfl
              refine pure_ (i := 21) (N := some 51) (v := ?_) (a' := ?_) #[true, true, true, true, true, true, true, true, true, true, true, true, false, true, false, true, true, false, true, false, true, true, false, false, false, false] rfl rfl (any_of HT_.out (by kernel_rfl)) (fun _ _ _ h => h) (Or.inl ⟨by rfl, ?_⟩) ?_ ?_
              rotate_left
              · intro w'
                go_simp
                with_reducible rfl
              rotate_left
              · simp only [Act.put, List.setIfInBounds_toArray, List.set_cons_zero, List.set_cons_succ, i64_w, i32_w]
                rfl
              refine take_ (i := 12) (N := some 42) (v := ?_) (a' := ?_) #[true, true, true, true, true, true, true, true, true, true, true, true, true, true, false, true, true, false, true, false, true, true, false, false, false, false] rfl rfl (take_ofW HT_.out HW_.out (by kernel_rfl)) (fun _ _ _ h => h) (Or.inl ⟨by rfl, ?_⟩) hHeld ?_ ?_
              rotate_left
              · rintro w' ⟨s0, s1, s2, s3, s4, s5, s6, s7⟩
                go_simp
                with_reducible rfl
              rotate_left
              · simp only [Act.put, List.setIfInBounds_toArray, List.set_cons_zero, List.set_cons_succ, i64_w, i32_w]
                rfl
              refine take_ (i := 17) (N := some 47) (v := ?_) (a' := ?_) #[true, true, true, true, true, true, true, true, true, true, true, true, true, true, false, true, true, true, true, false, true, true, false, false, false, false] rfl rfl (take_ofW HT_.out HW_.out (by kernel_rfl)) (fun _ _ _ h => h) (Or.inl ⟨by rfl, ?_⟩) hHeld ?_ ?_
              rotate_left
              · rintro w' ⟨s0, s1, s2, s3, s4, s5, s6, s7⟩
                go_simp
                with_reducible rfl
              rotate_left
              · simp only [Act.put, List.setIfInBounds_toArray, List.set_cons_zero, List.set_cons_succ, i64_w, i32_w]
                rfl
              refine pure_ (i := 19) (N := some 49) (v := ?_) (a' := ?_) #[true, true, true, true, true, true, true, true, true, true, true, true, true, true, false, true, true, true, true, true, true, true, false, false, false, false] rfl rfl (any_of HT_.out (by kernel_rfl)) (fun _ _ _ h => h) (Or.inl ⟨by rfl, ?_⟩) ?_ ?_
              rotate_left
              · intro w'
                go_simp
                with_reducible rfl
              rotate_left
              · simp only [Act.put, List.setIfInBounds_toArray, List.set_cons_zero, List.set_cons_succ, i64_w, i32_w]
                rfl
              refine take_ (i := 22) (N := some 52) (v := ?_) (a' := ?_) #[true, true, true, true, true, true, true, true, true, true, true, true, true, true, false, true, true, true, true, true, true, true, true, false, false, false] rfl rfl (take_ofW HT_.out HW_.out (by kernel_rfl)) (fun _ _ _ h => h) (Or.inl ⟨by rfl, ?_⟩) hHeld ?_ ?_
              rotate_left
              · rintro w' ⟨s0, s1, s2, s3, s4, s5, s6, s7⟩
                go_simp
                with_reducible rfl
              rotate_left
              · simp only [Act.put, List.setIfInBounds_toArray, List.set_cons_zero, List.set_cons_succ, i64_w, i32_w]
                rfl
              refine pure_ (i := 23) (N := some 53) (v := ?_) (a' := ?_) #[true, true, true, true, true, true, true, true, true, true, true, true, true, true, false, true, true, true, true, true, true, true, true, true, false, false] rfl rfl (any_of HT_.out (by kernel_rfl)) (fun _ _ _ h => h) (Or.inl ⟨by rfl, ?_⟩) ?_ ?_
              rotate_left
              · intro w'
                go_simp
                with_reducible rfl
              rotate_left
              · simp only [Act.put, List.setIfInBounds_toArray, List.set_cons_zero, List.set_cons_succ, i64_w, i32_w]
                rfl
              refine one_ (i := 14) (N := some 44) #[true, true, true, true, true, true, true, true, true, true, true, true, true, true, true, true, true, true, true, true, true, true, true, true, false, false] rfl rfl (one_of HT_.out (by kernel_rfl)) (by decide) (fun K hK => ?_)
              refine goes_ Try.func19 (by kernel_rfl) rfl #[.agg #[.int .u8 a0_0, .int .u64 a0_1, .int .u32 a0_2, .int .u32 a0_3], .int .u8 a1] (by rfl) rfl rfl (by (try simp only [List.map_toArray, List.map_cons, List.map_nil]); first | done | rfl | (simp only [List.length_drop, List.length_take]; rfl)) ?_
              with_reducible refine (page_Head_Has.calls a0_0 a0_1 a0_2 a0_3 a1 t387 _ A32.out).mono ?_
              rintro e w36 ⟨rfl, hb⟩
              refine ⟨_, rfl, ?_⟩
              have n0_ := Aside0.mk (blk_below (g := gb370) (o := .cells #[.int .u8 a0_0, .int .u64 a0_1, .int .u32 a0_2, .int .u32 a0_3, .string a0_4, .string a0_5] 27 (0, 0)) (by (with_reducible repeat (first | refine blk_drewN ?_ _ | refine blk_drew ?_ | refine blk_alloc ?_ _)); exact BK370.out) hb)
              have n1_ := Aside0.mk (blk_below (g := gb375) (o := .cells #[.int .i64 t373, .int .i64 t374] 32 (0, 0)) (by (with_reducible repeat (first | refine blk_drewN ?_ _ | refine blk_drew ?_ | refine blk_alloc ?_ _)); exact BK375.out) hb)
              have n2_ := Aside0.mk (below_step (by repeat (first | (with_reducible first | exact HB.out | apply below_alloc | apply pw_below_drewN | apply below_drew1 | refine below_set ?_ GE370.out | refine below_set ?_ GE375.out) | exact HB.out)) hb)
              clear BK370
              clear BK375
              clear HB
              have BK370 := n0_
              have BK375 := n1_
              have HB := n2_
              clear n0_ n1_ n2_
              (try clear hb)
              (try clear hb2)
              (try clear hk)
              (try clear hi)
              refine hK.out _ _ ⟨(blk_cell BK375.out 0).trans rfl, (blk_cell BK375.out 1).trans rfl, (blk_cell BK370.out 0).trans rfl, (blk_cell BK370.out 1).trans rfl, (blk_cell BK370.out 2).trans rfl, (blk_cell BK370.out 3).trans rfl, (blk_cell BK370.out 4).trans rfl, (blk_cell BK370.out 5).trans rfl⟩ (fun hHeld => ?_)
              clear hK K
              refine norm_ (a' := ?_) ?_ ?_
              rotate_left
              · show Act.put _ (some 44) _ = _
                simp only [Act.put, List.setIfInBounds_toArray, List.set_cons_zero, List.set_cons_succ, i64_w, i32_w]
                rfl
              refine pure_ (i := 24) (N := some 54) (v := ?_) (a' := ?_) #[true, true, true, true, true, true, true, true, true, true, true, true, true, true, true, true, true, true, true, true, true, true, true, true, true, false] rfl rfl (any_of HT_.out (by kernel_rfl)) (fun _ _ _ h => h) (Or.inl ⟨by rfl, ?_⟩) ?_ ?_
              rotate_left
              · intro w'
                go_simp
                with_reducible rfl
              rotate_left
              · simp only [Act.put, List.setIfInBounds_toArray, List.set_cons_zero, List.set_cons_succ, i64_w, i32_w]
                rfl
              refine pure_ (i := 25) (N := some 55) (v := ?_) (a' := ?_) #[true, true, true, true, true, true, true, true, true, true, true, true, true, true, true, true, true, true, true, true, true, true, true, true, true, true] rfl rfl (any_of HT_.out (by kernel_rfl)) (fun _ _ _ h => h) (Or.inl ⟨by rfl, ?_⟩) ?_ ?_
              rotate_left
              · intro w'
                go_simp
                with_reducible rfl
              rotate_left
              · simp only [Act.put, List.setIfInBounds_toArray, List.set_cons_zero, List.set_cons_succ, i64_w, i32_w]
                rfl
              refine done_ (done_of HT_.out (by kernel_rfl)) ?_
              try go_wp2
              go_meet
              case rel => exact ⟨_, ((t387 != ((Go.bits .or .u8 a0_0 a1) == a0_0))), (by first | rfl | (simp; done) | (simp [*]; done) | (simp [beq_nil_isEmpty, bne_nil_isEmpty]; done)), H', ⟨by have := HJ2.out; first | omega | exact Nat.le_refl _⟩, ⟨by (with_reducible repeat (first | refine blk_drewN ?_ _ | refine blk_drew ?_ | refine blk_alloc ?_ _)); exact BK370.out⟩, ⟨by (with_reducible repeat (first | refine blk_drewN ?_ _ | refine blk_drew ?_ | refine blk_alloc ?_ _)); exact BK375.out⟩, ⟨by repeat (first | (with_reducible first | exact HB.out | apply below_alloc | apply pw_below_drewN | apply below_drew1 | refine below_set ?_ GE370.out | refine below_set ?_ GE375.out) | exact HB.out)⟩⟩
        case rest =>
          clear HC14
          try clear c1
          try clear c2
          try clear p2
          try clear c17
          try clear c18
          try clear c19
          try clear c24
          try clear c24b0
          try clear c28
          try clear c28b0
          obtain ⟨kq, x55_13, rfl, HA, HJ13, BK370, BK375, HB⟩ := hcut
          cases kq with
          | zero => exact absurd HA.out (by simp [diacriticlaw17_PagePrints.j1])
          | succ kj13 =>
            have H := HA.out
            clear HA
            simp only [diacriticlaw17_PagePrints.j1] at H
            by_cases c37 : x55_13 = true
            · subst c37
              have H1 : (some false) = some r := by rw [if_pos rfl] at H; exact H
              clear H
              have H := H1
              clear H1
              obtain rfl := Option.some.inj H
              go_wp2
              go_ret
              exact ⟨by first | rfl | (simp [errW_none, errW_some] <;> rfl) | (simp [*, errW_none, errW_some] <;> rfl), by repeat (first | (with_reducible first | exact HB.out | apply below_alloc | apply pw_below_drewN | apply below_drew1 | refine below_set ?_ GE370.out | refine below_set ?_ GE375.out) | exact HB.out)⟩
            · replace c37 := Bool.eq_false_iff.mpr c37
              subst c37
              have H1 : ((page_Page_Open.f a0_0 a0_1 a0_2 a0_3 a0_4 a0_5).bind fun t388 => (if (a0_4.size : Int) > 0 then (if 0 ≤ (wrap64 ((a0_4.size : Int) - 1)) then (if (wrap64 ((a0_4.size : Int) - 1)) < (a0_4.size : Int) then (diacriticlaw17_PagePrints.j2 kj13 t372 t382 (t388 != ((bt a0_4 (wrap64 ((a0_4.size : Int) - 1))) == 255)) a0_0 a0_1 a0_2 a0_3 a0_4 a0_5) else (none)) else (none)) else (diacriticlaw17_PagePrints.j2 kj13 t372 t382 (t388 != false) a0_0 a0_1 a0_2 a0_3 a0_4 a0_5))) = some r := by rw [if_neg (show ¬ (false = true) by decide)] at H; exact H
              clear H
              have H := H1
              clear H1
              have HC38 := Aside0.mk H
              clear H
              have hnb39 := NB370_375.out
              have hnc39 := NB375_370.out
              have hcz40_0 : wc.cell? ⟨gb370, 0, none⟩ = some (.int .u8 a0_0) := (blk_cell BK370.out 0).trans rfl
              have hcz40_1 : wc.cell? ⟨gb370, 1, none⟩ = some (.int .u64 a0_1) := (blk_cell BK370.out 1).trans rfl
              have hcz40_2 : wc.cell? ⟨gb370, 2, none⟩ = some (.int .u32 a0_2) := (blk_cell BK370.out 2).trans rfl
              have hcz40_3 : wc.cell? ⟨gb370, 3, none⟩ = some (.int .u32 a0_3) := (blk_cell BK370.out 3).trans rfl
              have hcz40_4 : wc.cell? ⟨gb370, 4, none⟩ = some (.string a0_4) := (blk_cell BK370.out 4).trans rfl
              have hcz40_5 : wc.cell? ⟨gb370, 5, none⟩ = some (.string a0_5) := (blk_cell BK370.out 5).trans rfl
              have hfz40_0 := blk_frozen BK370.out 0
              have hfz40_1 := blk_frozen BK370.out 1
              have hfz40_2 := blk_frozen BK370.out 2
              have hfz40_3 := blk_frozen BK370.out 3
              have hfz40_4 := blk_frozen BK370.out 4
              have hfz40_5 := blk_frozen BK370.out 5
              go_upto_region 8 with (fail)
              go_cut [71] (fun v71 wc => ∃ (kq : Nat) (x71_37 : Bool), v71 = .bool x71_37 ∧ Aside0 (diacriticlaw17_PagePrints.j2 kq t372 t382 x71_37 a0_0 a0_1 a0_2 a0_3 a0_4 a0_5 = some r) ∧ Aside0 (kq ≤ kj13) ∧ Aside0 (wc.heap[gb370]? = some (.cells #[.int .u8 a0_0, .int .u64 a0_1, .int .u32 a0_2, .int .u32 a0_3, .string a0_4, .string a0_5] 27 (0, 0))) ∧ Aside0 (wc.heap[gb375]? = some (.cells #[.int .i64 t373, .int .i64 t374] 32 (0, 0))) ∧ Aside0 (Below w.heap.size w wc))
              case first =>
                have H := HC38.out
                clear HC38
                replace H := Option.bind_eq_some_iff.mp H
                obtain ⟨t388, A410, H⟩ := H
                replace H : (if (a0_4.size : Int) > 0 then (if 0 ≤ (wrap64 ((a0_4.size : Int) - 1)) then (if (wrap64 ((a0_4.size : Int) - 1)) < (a0_4.size : Int) then (diacriticlaw17_PagePrints.j2 kj13 t372 t382 (t388 != ((bt a0_4 (wrap64 ((a0_4.size : Int) - 1))) == 255)) a0_0 a0_1 a0_2 a0_3 a0_4 a0_5) else (none)) else (none)) else (diacriticlaw17_PagePrints.j2 kj13 t372 t382 (t388 != false) a0_0 a0_1 a0_2 a0_3 a0_4 a0_5)) = some r := H
                have A41 := Aside0.mk A410
                clear A410
                by_cases c42 : (a0_4.size : Int) > 0
                · rw [if_pos c42] at H
                  have c42b0 : decide (0 < (a0_4.size : Int)) = true := decide_eq_true c42
                  have c42b1 : decide (0 < a0_4.size) = true := decide_eq_true (by omega)
                  clear c42
                  (first | rw [c42b0] | (simp only [i64_w, i32_w]; rw [c42b0]) | skip)
                  obtain ⟨ji43, hji43⟩ : ∃ j_ : Int, (wrap64 ((a0_4.size : Int) - 1)) = j_ := ⟨_, rfl⟩
                  replace H : (if 0 ≤ (ji43) then (if (ji43) < (a0_4.size : Int) then (diacriticlaw17_PagePrints.j2 kj13 t372 t382 (t388 != ((bt a0_4 (ji43)) == 255)) a0_0 a0_1 a0_2 a0_3 a0_4 a0_5) else (none)) else (none)) = some r := by first | (rw [hji43] at H; exact H) | (simp only [hji43] at H ⊢; exact H)
                  (try rw [hji43] at A41)
                  have hji43w : (IntKind.i64.wrap ((a0_4.size : Int) - 1)) = ji43 := (i64_w _).trans hji43
                  by_cases c44 : 0 ≤ (ji43)
                  · rw [if_pos c44] at H
                    have c44b0 : decide (0 ≤ (ji43)) = true := decide_eq_true c44
                    clear c44
                    by_cases c45 : (ji43) < (a0_4.size : Int)
                    · rw [if_pos c45] at H
                      have c45b0 : decide ((ji43) < (a0_4.size : Int)) = true := decide_eq_true c45
                      clear c45
                      have H' := Aside0.mk H
                      clear H
                      have hnb47 := NB370_375.out
                      have hnc47 := NB375_370.out
                      have hcz48_0 : wc.cell? ⟨gb370, 0, none⟩ = some (.int .u8 a0_0) := (blk_cell BK370.out 0).trans rfl
                      have hcz48_1 : wc.cell? ⟨gb370, 1, none⟩ = some (.int .u64 a0_1) := (blk_cell BK370.out 1).trans rfl
                      have hcz48_2 : wc.cell? ⟨gb370, 2, none⟩ = some (.int .u32 a0_2) := (blk_cell BK370.out 2).trans rfl
                      have hcz48_3 : wc.cell? ⟨gb370, 3, none⟩ = some (.int .u32 a0_3) := (blk_cell BK370.out 3).trans rfl
                      have hcz48_4 : wc.cell? ⟨gb370, 4, none⟩ = some (.string a0_4) := (blk_cell BK370.out 4).trans rfl
                      have hcz48_5 : wc.cell? ⟨gb370, 5, none⟩ = some (.string a0_5) := (blk_cell BK370.out 5).trans rfl
                      have hfz48_0 := blk_frozen BK370.out 0
                      have hfz48_1 := blk_frozen BK370.out 1
                      have hfz48_2 := blk_frozen BK370.out 2
                      have hfz48_3 := blk_frozen BK370.out 3
                      have hfz48_4 := blk_frozen BK370.out 4
                      have hfz48_5 := blk_frozen BK370.out 5
                      go_wp2_with (first | ((with_reducible refine gate_callee (f := 20) rfl ?_); refine goesL_ (some 60) rfl rfl Try.func20 (by kernel_rfl) rfl #[.agg #[.int .u8 a0_0, .int .u64 a0_1, .int .u32 a0_2, .int .u32 a0_3, .string a0_4, .string a0_5]] rfl (by (try simp only [List.map_toArray, List.map_cons, List.map_nil]); first | done | rfl | (simp only [List.length_drop, List.length_take]; rfl)) ?_; (with_reducible refine (page_Page_Open.calls a0_0 a0_1 a0_2 a0_3 a0_4 a0_5 t388 _ A41.out).mono ?_); rintro e w49 ⟨rfl, hb⟩; refine ⟨_, rfl, ?_⟩; have n0_ := Aside0.mk (blk_below (g := gb370) (o := .cells #[.int .u8 a0_0, .int .u64 a0_1, .int .u32 a0_2, .int .u32 a0_3, .string a0_4, .string a0_5] 27 (0, 0)) (by (with_reducible repeat (first | refine blk_drewN ?_ _ | refine blk_drew ?_ | refine blk_alloc ?_ _)); exact BK370.out) hb); have n1_ := Aside0.mk (blk_below (g := gb375) (o := .cells #[.int .i64 t373, .int .i64 t374] 32 (0, 0)) (by (with_reducible repeat (first | refine blk_drewN ?_ _ | refine blk_drew ?_ | refine blk_alloc ?_ _)); exact BK375.out) hb); have n2_ := Aside0.mk (below_step (by repeat (first | (with_reducible first | exact HB.out | apply below_alloc | apply pw_below_drewN | apply below_drew1 | refine below_set ?_ GE370.out | refine below_set ?_ GE375.out) | exact HB.out)) hb); clear BK370; clear BK375; clear HB; have BK370 := n0_; have BK375 := n1_; have HB := n2_; clear n0_ n1_ n2_; (try clear hb); (try clear hb2); (try clear hk); (try clear hi); have hcz50_0 : w49.cell? ⟨gb370, 0, none⟩ = some (.int .u8 a0_0) := (blk_cell BK370.out 0).trans rfl; have hcz50_1 : w49.cell? ⟨gb370, 1, none⟩ = some (.int .u64 a0_1) := (blk_cell BK370.out 1).trans rfl; have hcz50_2 : w49.cell? ⟨gb370, 2, none⟩ = some (.int .u32 a0_2) := (blk_cell BK370.out 2).trans rfl; have hcz50_3 : w49.cell? ⟨gb370, 3, none⟩ = some (.int .u32 a0_3) := (blk_cell BK370.out 3).trans rfl; have hcz50_4 : w49.cell? ⟨gb370, 4, none⟩ = some (.string a0_4) := (blk_cell BK370.out 4).trans rfl; have hcz50_5 : w49.cell? ⟨gb370, 5, none⟩ = some (.string a0_5) := (blk_cell BK370.out 5).trans rfl; have hfz50_0 := blk_frozen BK370.out 0; have hfz50_1 := blk_frozen BK370.out 1; have hfz50_2 := blk_frozen BK370.out 2; have hfz50_3 := blk_frozen BK370.out 3; have hfz50_4 := blk_frozen BK370.out 4; have hfz50_5 := blk_frozen BK370.out 5; have p46 : 0 ≤ ((ji43) : Int) := of_decide_eq_true (by first | (with_reducible assumption) | assumption); have q46 : (ji43) < (a0_4.size : Int) := of_decide_eq_true (by first | (with_reducible assumption) | assumption); have hx46 := bt_at a0_4 (ji43); replace p46 := eq_true p46; replace q46 := eq_true q46))
                      go_meet
                      case rel => exact ⟨_, ((t388 != ((bt a0_4 (ji43)) == 255))), (by first | rfl | (simp; done) | (simp only [← hji43] <;> (first | rfl | simp)) | (simp [*]; done)), H', ⟨by have := HJ2.out; have := HJ13.out; first | omega | exact Nat.le_refl _⟩, ⟨by (with_reducible repeat (first | refine blk_drewN ?_ _ | refine blk_drew ?_ | refine blk_alloc ?_ _)); exact BK370.out⟩, ⟨by (with_reducible repeat (first | refine blk_drewN ?_ _ | refine blk_drew ?_ | refine blk_alloc ?_ _)); exact BK375.out⟩, ⟨by repeat (first | (with_reducible first | exact HB.out | apply below_alloc | apply pw_below_drewN | apply below_drew1 | refine below_set ?_ GE370.out | refine below_set ?_ GE375.out) | exact HB.out)⟩⟩
                    · rw [if_neg c45] at H
                      exact absurd H (by simp)
                  · rw [if_neg c44] at H
                    exact absurd H (by simp)
                · rw [if_neg c42] at H
                  have c42b0 : decide (0 < (a0_4.size : Int)) = false := decide_eq_false c42
                  have c42b1 : decide (0 < a0_4.size) = false := decide_eq_false (by omega)
                  clear c42
                  (first | rw [c42b0] | (simp only [i64_w, i32_w]; rw [c42b0]) | skip)
                  have H' := Aside0.mk H
                  clear H
                  have hnb51 := NB370_375.out
                  have hnc51 := NB375_370.out
                  have hcz52_0 : wc.cell? ⟨gb370, 0, none⟩ = some (.int .u8 a0_0) := (blk_cell BK370.out 0).trans rfl
                  have hcz52_1 : wc.cell? ⟨gb370, 1, none⟩ = some (.int .u64 a0_1) := (blk_cell BK370.out 1).trans rfl
                  have hcz52_2 : wc.cell? ⟨gb370, 2, none⟩ = some (.int .u32 a0_2) := (blk_cell BK370.out 2).trans rfl
                  have hcz52_3 : wc.cell? ⟨gb370, 3, none⟩ = some (.int .u32 a0_3) := (blk_cell BK370.out 3).trans rfl
                  have hcz52_4 : wc.cell? ⟨gb370, 4, none⟩ = some (.string a0_4) := (blk_cell BK370.out 4).trans rfl
                  have hcz52_5 : wc.cell? ⟨gb370, 5, none⟩ = some (.string a0_5) := (blk_cell BK370.out 5).trans rfl
                  have hfz52_0 := blk_frozen BK370.out 0
                  have hfz52_1 := blk_frozen BK370.out 1
                  have hfz52_2 := blk_frozen BK370.out 2
                  have hfz52_3 := blk_frozen BK370.out 3
                  have hfz52_4 := blk_frozen BK370.out 4
                  have hfz52_5 := blk_frozen BK370.out 5
                  go_wp2_with (first | ((with_reducible refine gate_callee (f := 20) rfl ?_); refine goesL_ (some 60) rfl rfl Try.func20 (by kernel_rfl) rfl #[.agg #[.int .u8 a0_0, .int .u64 a0_1, .int .u32 a0_2, .int .u32 a0_3, .string a0_4, .string a0_5]] rfl (by (try simp only [List.map_toArray, List.map_cons, List.map_nil]); first | done | rfl | (simp only [List.length_drop, List.length_take]; rfl)) ?_; (with_reducible refine (page_Page_Open.calls a0_0 a0_1 a0_2 a0_3 a0_4 a0_5 t388 _ A41.out).mono ?_); rintro e w53 ⟨rfl, hb⟩; refine ⟨_, rfl, ?_⟩; have n0_ := Aside0.mk (blk_below (g := gb370) (o := .cells #[.int .u8 a0_0, .int .u64 a0_1, .int .u32 a0_2, .int .u32 a0_3, .string a0_4, .string a0_5] 27 (0, 0)) (by (with_reducible repeat (first | refine blk_drewN ?_ _ | refine blk_drew ?_ | refine blk_alloc ?_ _)); exact BK370.out) hb); have n1_ := Aside0.mk (blk_below (g := gb375) (o := .cells #[.int .i64 t373, .int .i64 t374] 32 (0, 0)) (by (with_reducible repeat (first | refine blk_drewN ?_ _ | refine blk_drew ?_ | refine blk_alloc ?_ _)); exact BK375.out) hb); have n2_ := Aside0.mk (below_step (by repeat (first | (with_reducible first | exact HB.out | apply below_alloc | apply pw_below_drewN | apply below_drew1 | refine below_set ?_ GE370.out | refine below_set ?_ GE375.out) | exact HB.out)) hb); clear BK370; clear BK375; clear HB; have BK370 := n0_; have BK375 := n1_; have HB := n2_; clear n0_ n1_ n2_; (try clear hb); (try clear hb2); (try clear hk); (try clear hi)))
                  go_meet
                  case rel => exact ⟨_, ((t388 != false)), (by first | rfl | (simp; done) | (simp [*]; done) | (simp [beq_nil_isEmpty, bne_nil_isEmpty]; done)), H', ⟨by have := HJ2.out; have := HJ13.out; first | omega | exact Nat.le_refl _⟩, ⟨by (with_reducible repeat (first | refine blk_drewN ?_ _ | refine blk_drew ?_ | refine blk_alloc ?_ _)); exact BK370.out⟩, ⟨by (with_reducible repeat (first | refine blk_drewN ?_ _ | refine blk_drew ?_ | refine blk_alloc ?_ _)); exact BK375.out⟩, ⟨by repeat (first | (with_reducible first | exact HB.out | apply below_alloc | apply pw_below_drewN | apply below_drew1 | refine below_set ?_ GE370.out | refine below_set ?_ GE375.out) | exact HB.out)⟩⟩
              case rest =>
                clear HC38
                try clear c1
                try clear c2
                try clear p2
                try clear c3
                try clear c4
                try clear p4
                try clear q4
                try clear hx4
                try clear c5
                try clear p6
                try clear c17
                try clear c18
                try clear c19
                try clear c20
                try clear c24
                try clear c24b0
                try clear c28
                try clear c28b0
                try clear c37
                try clear c39
                try clear c42
                try clear c42b0
                try clear c42b1
                try clear c44
                try clear c44b0
                try clear c45
                try clear c45b0
                try clear p46
                try clear q46
                try clear hx46
                try clear c47
                try clear c51
                try clear hcz40_0
                try clear hcz40_1
                try clear hcz40_2
                try clear hcz40_3
                try clear hcz40_4
                try clear hcz40_5
                try clear hcz48_0
                try clear hcz48_1
                try clear hcz48_2
                try clear hcz48_3
                try clear hcz48_4
                try clear hcz48_5
                try clear hcz50_0
                try clear hcz50_1
                try clear hcz50_2
                try clear hcz50_3
                try clear hcz50_4
                try clear hcz50_5
                try clear hcz52_0
                try clear hcz52_1
                try clear hcz52_2
                try clear hcz52_3
                try clear hcz52_4
                try clear hcz52_5
                try clear hfz40_0
                try clear hfz40_1
                try clear hfz40_2
                try clear hfz40_3
                try clear hfz40_4
                try clear hfz40_5
                try clear hfz48_0
                try clear hfz48_1
                try clear hfz48_2
                try clear hfz48_3
                try clear hfz48_4
                try clear hfz48_5
                try clear hfz50_0
                try clear hfz50_1
                try clear hfz50_2
                try clear hfz50_3
                try clear hfz50_4
                try clear hfz50_5
                try clear hfz52_0
                try clear hfz52_1
                try clear hfz52_2
                try clear hfz52_3
                try clear hfz52_4
                try clear hfz52_5
                try clear p2
                try clear p46
                try clear q46
                obtain ⟨kq, x71_37, rfl, HA, HJ37, BK370, BK375, HB⟩ := hcut
                cases kq with
                | zero => exact absurd HA.out (by simp [diacriticlaw17_PagePrints.j2])
                | succ kj37 =>
                  have H := HA.out
                  clear HA
                  simp only [diacriticlaw17_PagePrints.j2] at H
                  by_cases c54 : x71_37 = true
                  · subst c54
                    have H1 : (some false) = some r := by rw [if_pos rfl] at H; exact H
                    clear H
                    have H := H1
                    clear H1
                    obtain rfl := Option.some.inj H
                    go_wp2
                    go_ret
                    exact ⟨by first | rfl | (simp [errW_none, errW_some] <;> rfl) | (simp [*, errW_none, errW_some] <;> rfl), by repeat (first | (with_reducible first | exact HB.out | apply below_alloc | apply pw_below_drewN | apply below_drew1 | refine below_set ?_ GE370.out | refine below_set ?_ GE375.out) | exact HB.out)⟩
                  · replace c54 := Bool.eq_false_iff.mpr c54
                    subst c54
                    have H1 : (if t382 = 0 then ((octet_Read.f t372).bind fun bt390 => ((page_Parse.f kj37 bt390.1 bt390.2.1 bt390.2.2.1 bt390.2.2.2.1 bt390.2.2.2.2).bind fun bt396 => ((diacriticlaw17_awake.f kj37).bind fun t409 => (if t409 = true then ((diacriticlaw17_Of.f a0_0 a0_1 a0_2 a0_3 a0_4 a0_5).bind fun bt410 => ((diacriticref17_Print.f kj37 bt410.1 bt410.2.1 bt410.2.2.1 bt410.2.2.2.1 bt410.2.2.2.2.1 bt410.2.2.2.2.2).bind fun t416 => (if t372.toList = t416.toList then (if bt396.2.2.2.2.2.2.1 = true then (some ((bt396.1 == a0_0 && (bt396.2.1 == a0_1 && (bt396.2.2.1 == a0_2 && (bt396.2.2.2.1 == a0_3)))) && (bt396.2.2.2.2.1.toList == a0_4.toList && (bt396.2.2.2.2.2.1.toList == a0_5.toList)))) else (some false)) else (some false)))) else (some false))))) else ((diacriticlaw17_awake.f kj37).bind fun t389 => (if t389 = true then (some (t372.toList == ([] : List UInt8))) else (some false)))) = some r := by rw [if_neg (show ¬ (false = true) by decide)] at H; exact H
                    clear H
                    have H := H1
                    clear H1
                    by_cases c55 : t382 = 0
                    · rw [if_pos c55] at H
                      have c55b0 : (t382 == 0) = true := beq_iff_eq.mpr c55
                      have c55b1 : (t382 != 0) = false := bne_eq_false_iff_eq.mpr c55
                      clear c55
                      replace H := Option.bind_eq_some_iff.mp H
                      obtain ⟨⟨t390, t391, t392, t393, t394⟩, A560, H⟩ := H
                      replace H : ((page_Parse.f kj37 t390 t391 t392 t393 t394).bind fun bt396 => ((diacriticlaw17_awake.f kj37).bind fun t409 => (if t409 = true then ((diacriticlaw17_Of.f a0_0 a0_1 a0_2 a0_3 a0_4 a0_5).bind fun bt410 => ((diacriticref17_Print.f kj37 bt410.1 bt410.2.1 bt410.2.2.1 bt410.2.2.2.1 bt410.2.2.2.2.1 bt410.2.2.2.2.2).bind fun t416 => (if t372.toList = t416.toList then (if bt396.2.2.2.2.2.2.1 = true then (some ((bt396.1 == a0_0 && (bt396.2.1 == a0_1 && (bt396.2.2.1 == a0_2 && (bt396.2.2.2.1 == a0_3)))) && (bt396.2.2.2.2.1.toList == a0_4.toList && (bt396.2.2.2.2.2.1.toList == a0_5.toList)))) else (some false)) else (some false)))) else (some false)))) = some r := H
                      have A56 := Aside0.mk A560
                      clear A560
                      replace H := Option.bind_eq_some_iff.mp H
                      obtain ⟨⟨t396, t397, t398, t399, t400, t401, t402, t403, t404, t405, t406, t407⟩, A570, H⟩ := H
                      replace H : ((diacriticlaw17_awake.f kj37).bind fun t409 => (if t409 = true then ((diacriticlaw17_Of.f a0_0 a0_1 a0_2 a0_3 a0_4 a0_5).bind fun bt410 => ((diacriticref17_Print.f kj37 bt410.1 bt410.2.1 bt410.2.2.1 bt410.2.2.2.1 bt410.2.2.2.2.1 bt410.2.2.2.2.2).bind fun t416 => (if t372.toList = t416.toList then (if t402 = true then (some ((t396 == a0_0 && (t397 == a0_1 && (t398 == a0_2 && (t399 == a0_3)))) && (t400.toList == a0_4.toList && (t401.toList == a0_5.toList)))) else (some false)) else (some false)))) else (some false))) = some r := H
                      have A57 := Aside0.mk A570
                      clear A570
                      replace H := Option.bind_eq_some_iff.mp H
                      obtain ⟨t409, A580, H⟩ := H
                      replace H : (if t409 = true then ((diacriticlaw17_Of.f a0_0 a0_1 a0_2 a0_3 a0_4 a0_5).bind fun bt410 => ((diacriticref17_Print.f kj37 bt410.1 bt410.2.1 bt410.2.2.1 bt410.2.2.2.1 bt410.2.2.2.2.1 bt410.2.2.2.2.2).bind fun t416 => (if t372.toList = t416.toList then (if t402 = true then (some ((t396 == a0_0 && (t397 == a0_1 && (t398 == a0_2 && (t399 == a0_3)))) && (t400.toList == a0_4.toList && (t401.toList == a0_5.toList)))) else (some false)) else (some false)))) else (some false)) = some r := H
                      have A58 := Aside0.mk A580
                      clear A580
                      by_cases c59 : t409 = true
                      · subst c59
                        have H1 : ((diacriticlaw17_Of.f a0_0 a0_1 a0_2 a0_3 a0_4 a0_5).bind fun bt410 => ((diacriticref17_Print.f kj37 bt410.1 bt410.2.1 bt410.2.2.1 bt410.2.2.2.1 bt410.2.2.2.2.1 bt410.2.2.2.2.2).bind fun t416 => (if t372.toList = t416.toList then (if t402 = true then (some ((t396 == a0_0 && (t397 == a0_1 && (t398 == a0_2 && (t399 == a0_3)))) && (t400.toList == a0_4.toList && (t401.toList == a0_5.toList)))) else (some false)) else (some false)))) = some r := by rw [if_pos rfl] at H; exact H
                        clear H
                        have H := H1
                        clear H1
                        replace H := Option.bind_eq_some_iff.mp H
                        obtain ⟨⟨t410, t411, t412, t413, t414, t415⟩, A600, H⟩ := H
                        replace H : ((diacriticref17_Print.f kj37 t410 t411 t412 t413 t414 t415).bind fun t416 => (if t372.toList = t416.toList then (if t402 = true then (some ((t396 == a0_0 && (t397 == a0_1 && (t398 == a0_2 && (t399 == a0_3)))) && (t400.toList == a0_4.toList && (t401.toList == a0_5.toList)))) else (some false)) else (some false))) = some r := H
                        have A60 := Aside0.mk A600
                        clear A600
                        replace H := Option.bind_eq_some_iff.mp H
                        obtain ⟨t416, A610, H⟩ := H
                        replace H : (if t372.toList = t416.toList then (if t402 = true then (some ((t396 == a0_0 && (t397 == a0_1 && (t398 == a0_2 && (t399 == a0_3)))) && (t400.toList == a0_4.toList && (t401.toList == a0_5.toList)))) else (some false)) else (some false)) = some r := H
                        have A61 := Aside0.mk A610
                        clear A610
                        by_cases c62 : t372.toList = t416.toList
                        · rw [if_pos c62] at H
                          have c62b0 : (t372.toList == t416.toList) = true := beq_iff_eq.mpr c62
                          have c62b1 : (t372.toList != t416.toList) = false := bne_eq_false_iff_eq.mpr c62
                          clear c62
                          by_cases c63 : t402 = true
                          · subst c63
                            have H1 : (some ((t396 == a0_0 && (t397 == a0_1 && (t398 == a0_2 && (t399 == a0_3)))) && (t400.toList == a0_4.toList && (t401.toList == a0_5.toList)))) = some r := by rw [if_pos rfl] at H; exact H
                            clear H
                            have H := H1
                            clear H1
                            obtain rfl := Option.some.inj H
                            go_wp2_with (first | ((with_reducible refine gate_callee (f := 14) rfl ?_); refine goesL_ (some 81) rfl rfl Try.func14 (by kernel_rfl) rfl #[.string t372] rfl (by (try simp only [List.map_toArray, List.map_cons, List.map_nil]); first | done | rfl | (simp only [List.length_drop, List.length_take]; rfl)) ?_; (with_reducible refine (octet_Read.calls t372 t390 t391 t392 t393 t394 w _ ?side1 A56.out).mono ?_); (case side1 => repeat (first | (with_reducible first | exact HB.out | apply below_alloc | apply pw_below_drewN | apply below_drew1 | refine below_set ?_ GE370.out | refine below_set ?_ GE375.out) | exact HB.out)); rintro e w64 ⟨g395, rfl, hi, hb, hb2⟩; refine ⟨_, rfl, ?_⟩; have n0_ := Aside0.mk (blk_below (g := gb370) (o := .cells #[.int .u8 a0_0, .int .u64 a0_1, .int .u32 a0_2, .int .u32 a0_3, .string a0_4, .string a0_5] 27 (0, 0)) (by (with_reducible repeat (first | refine blk_drewN ?_ _ | refine blk_drew ?_ | refine blk_alloc ?_ _)); exact BK370.out) hb2); have n1_ := Aside0.mk (blk_below (g := gb375) (o := .cells #[.int .i64 t373, .int .i64 t374] 32 (0, 0)) (by (with_reducible repeat (first | refine blk_drewN ?_ _ | refine blk_drew ?_ | refine blk_alloc ?_ _)); exact BK375.out) hb2); have n2_ := Aside0.mk (hb); have n3_ := Aside0.mk (hi); have n4_ := Aside0.mk (IsS81.ne_blk hi (blk_below (g := gb370) (o := .cells #[.int .u8 a0_0, .int .u64 a0_1, .int .u32 a0_2, .int .u32 a0_3, .string a0_4, .string a0_5] 27 (0, 0)) (by (with_reducible repeat (first | refine blk_drewN ?_ _ | refine blk_drew ?_ | refine blk_alloc ?_ _)); exact BK370.out) hb2) (by decide)); have n5_ := Aside0.mk (Ne.symm (IsS81.ne_blk hi (blk_below (g := gb370) (o := .cells #[.int .u8 a0_0, .int .u64 a0_1, .int .u32 a0_2, .int .u32 a0_3, .string a0_4, .string a0_5] 27 (0, 0)) (by (with_reducible repeat (first | refine blk_drewN ?_ _ | refine blk_drew ?_ | refine blk_alloc ?_ _)); exact BK370.out) hb2) (by decide))); have n6_ := Aside0.mk (IsS81.ne_blk hi (blk_below (g := gb375) (o := .cells #[.int .i64 t373, .int .i64 t374] 32 (0, 0)) (by (with_reducible repeat (first | refine blk_drewN ?_ _ | refine blk_drew ?_ | refine blk_alloc ?_ _)); exact BK375.out) hb2) (by decide)); have n7_ := Aside0.mk (Ne.symm (IsS81.ne_blk hi (blk_below (g := gb375) (o := .cells #[.int .i64 t373, .int .i64 t374] 32 (0, 0)) (by (with_reducible repeat (first | refine blk_drewN ?_ _ | refine blk_drew ?_ | refine blk_alloc ?_ _)); exact BK375.out) hb2) (by decide))); clear BK370; clear BK375; clear HB; have BK370 := n0_; have BK375 := n1_; have HB := n2_; have HI395 := n3_; have NB395_370 := n4_; have NB370_395 := n5_; have NB395_375 := n6_; have NB375_395 := n7_; clear n0_ n1_ n2_ n3_ n4_ n5_ n6_ n7_; (try clear hb); (try clear hb2); (try clear hk); (try clear hi)) | ((with_reducible refine gate_callee (f := 13) rfl ?_); refine goesL_ (some 82) rfl rfl Try.func13 (by kernel_rfl) rfl #[.pointer (some ⟨g395, 0, none⟩)] rfl (by (try simp only [List.map_toArray, List.map_cons, List.map_nil]); first | done | rfl | (simp only [List.length_drop, List.length_take]; rfl)) ?_; (with_reducible refine (page_Parse.calls kj37 g395 t390 t391 t392 t393 t394 t396 t397 t398 t399 t400 t401 true t403 t404 t405 t406 t407 w _ ?side1 ?side2 A57.out).mono ?_); (case side1 => repeat (first | (with_reducible first | exact HI395.out | apply IsS81.alloc | apply IsS81.drewN | apply IsS81.drew | apply IsS81.set_0 | apply IsS81.set_1 | apply IsS81.set_2 | apply IsS81.set_3 | apply IsS81.set_4 | refine IsS81.far ?_ NB395_370.out _ | refine IsS81.far ?_ NB395_375.out _) | exact HI395.out)); (case side2 => repeat (first | (with_reducible first | exact HB.out | apply below_alloc | apply pw_below_drewN | apply below_drew1 | refine below_set ?_ (IsS81.ge HI395.out) | refine below_set ?_ GE370.out | refine below_set ?_ GE375.out) | exact HB.out)); rintro e w65 ⟨rfl, hi, hb, hk⟩; refine ⟨_, rfl, ?_⟩; have n0_ := Aside0.mk (KeepBut.blk hk (g' := gb370) (o := .cells #[.int .u8 a0_0, .int .u64 a0_1, .int .u32 a0_2, .int .u32 a0_3, .string a0_4, .string a0_5] 27 (0, 0)) (by (with_reducible repeat (first | refine blk_drewN ?_ _ | refine blk_drew ?_ | refine blk_alloc ?_ _)); exact BK370.out) NB370_395.out (by simp)); have n1_ := Aside0.mk (KeepBut.blk hk (g' := gb375) (o := .cells #[.int .i64 t373, .int .i64 t374] 32 (0, 0)) (by (with_reducible repeat (first | refine blk_drewN ?_ _ | refine blk_drew ?_ | refine blk_alloc ?_ _)); exact BK375.out) NB375_395.out (by simp)); have n2_ := Aside0.mk (hb); have n3_ := Aside0.mk (hi); clear BK370; clear BK375; clear HB; clear HI395; have BK370 := n0_; have BK375 := n1_; have HB := n2_; have HI395 := n3_; clear n0_ n1_ n2_ n3_; (try clear hb); (try clear hb2); (try clear hk); (try clear hi)) | ((with_reducible refine gate_dst (N := 9) rfl ?_); (try (refine gate_guard (by rfl) ?_; dsimp only)); refine box_event ?hg (N := 9) ?hd (cs := #[.int .u8 0, .int .u64 0, .int .u32 0, .int .u32 0, .string (⟨#[]⟩ : ByteArray), .string (⟨#[]⟩ : ByteArray)]) (t := 27) ?hr ?_; (case hd => rfl); (case hg => rfl); (case hr => first | (go_simp; done) | (go_simp; rfl)); intro gb408 hg w66 hbox hb; have n0_ := Aside0.mk (blk_below (g := gb370) (o := .cells #[.int .u8 a0_0, .int .u64 a0_1, .int .u32 a0_2, .int .u32 a0_3, .string a0_4, .string a0_5] 27 (0, 0)) (by (with_reducible repeat (first | refine blk_drewN ?_ _ | refine blk_drew ?_ | refine blk_alloc ?_ _)); exact BK370.out) hb); have n1_ := Aside0.mk (blk_below (g := gb375) (o := .cells #[.int .i64 t373, .int .i64 t374] 32 (0, 0)) (by (with_reducible repeat (first | refine blk_drewN ?_ _ | refine blk_drew ?_ | refine blk_alloc ?_ _)); exact BK375.out) hb); have n2_ := Aside0.mk (IsS81.below (by repeat (first | (with_reducible first | exact HI395.out | apply IsS81.alloc | apply IsS81.drewN | apply IsS81.drew | apply IsS81.set_0 | apply IsS81.set_1 | apply IsS81.set_2 | apply IsS81.set_3 | apply IsS81.set_4 | refine IsS81.far ?_ NB395_370.out _ | refine IsS81.far ?_ NB395_375.out _) | exact HI395.out)) hb); have n3_ := Aside0.mk (below_step (by repeat (first | (with_reducible first | exact HB.out | apply below_alloc | apply pw_below_drewN | apply below_drew1 | refine below_set ?_ (IsS81.ge HI395.out) | refine below_set ?_ GE370.out | refine below_set ?_ GE375.out) | exact HB.out)) hb); have n4_ := Aside0.mk (hbox); have n5_ := Aside0.mk ((by rw [hg]; exact (below_size (by repeat (first | (with_reducible first | exact HB.out | apply below_alloc | apply pw_below_drewN | apply below_drew1 | refine below_set ?_ (IsS81.ge HI395.out) | refine below_set ?_ GE370.out | refine below_set ?_ GE375.out) | exact HB.out))) : w.heap.size ≤ gb408)); have n6_ := Aside0.mk ((by rw [hg]; exact (below_size (by repeat (first | (with_reducible first | exact HB.out | apply below_alloc | apply pw_below_drewN | apply below_drew1 | refine below_set ?_ (IsS81.ge HI395.out) | refine below_set ?_ GE370.out | refine below_set ?_ GE375.out) | exact HB.out))) : w.heap.size ≤ gb408)); have n7_ := Aside0.mk ((by rw [hg]; exact Nat.ne_of_lt (blk_lt (g := gb370) (o := .cells #[.int .u8 a0_0, .int .u64 a0_1, .int .u32 a0_2, .int .u32 a0_3, .string a0_4, .string a0_5] 27 (0, 0)) (by (with_reducible repeat (first | refine blk_drewN ?_ _ | refine blk_drew ?_ | refine blk_alloc ?_ _)); exact BK370.out)) : gb370 ≠ gb408)); have n8_ := Aside0.mk ((by rw [hg]; exact Nat.ne_of_gt (blk_lt (g := gb370) (o := .cells #[.int .u8 a0_0, .int .u64 a0_1, .int .u32 a0_2, .int .u32 a0_3, .string a0_4, .string a0_5] 27 (0, 0)) (by (with_reducible repeat (first | refine blk_drewN ?_ _ | refine blk_drew ?_ | refine blk_alloc ?_ _)); exact BK370.out)) : gb408 ≠ gb370)); have n9_ := Aside0.mk ((by rw [hg]; exact Nat.ne_of_lt (blk_lt (g := gb375) (o := .cells #[.int .i64 t373, .int .i64 t374] 32 (0, 0)) (by (with_reducible repeat (first | refine blk_drewN ?_ _ | refine blk_drew ?_ | refine blk_alloc ?_ _)); exact BK375.out)) : gb375 ≠ gb408)); have n10_ := Aside0.mk ((by rw [hg]; exact Nat.ne_of_gt (blk_lt (g := gb375) (o := .cells #[.int .i64 t373, .int .i64 t374] 32 (0, 0)) (by (with_reducible repeat (first | refine blk_drewN ?_ _ | refine blk_drew ?_ | refine blk_alloc ?_ _)); exact BK375.out)) : gb408 ≠ gb375)); have n11_ := Aside0.mk ((by rw [hg]; exact Nat.ne_of_lt (IsS81.lt (show IsS81 w _ g395 t403 t404 t405 t406 t407 from by repeat (first | (with_reducible first | exact HI395.out | apply IsS81.alloc | apply IsS81.drewN | apply IsS81.drew | apply IsS81.set_0 | apply IsS81.set_1 | apply IsS81.set_2 | apply IsS81.set_3 | apply IsS81.set_4 | refine IsS81.far ?_ NB395_370.out _ | refine IsS81.far ?_ NB395_375.out _) | exact HI395.out))) : g395 ≠ gb408)); have n12_ := Aside0.mk ((by rw [hg]; exact Nat.ne_of_gt (IsS81.lt (show IsS81 w _ g395 t403 t404 t405 t406 t407 from by repeat (first | (with_reducible first | exact HI395.out | apply IsS81.alloc | apply IsS81.drewN | apply IsS81.drew | apply IsS81.set_0 | apply IsS81.set_1 | apply IsS81.set_2 | apply IsS81.set_3 | apply IsS81.set_4 | refine IsS81.far ?_ NB395_370.out _ | refine IsS81.far ?_ NB395_375.out _) | exact HI395.out))) : gb408 ≠ g395)); clear BK370; clear BK375; clear HI395; clear HB; have BK370 := n0_; have BK375 := n1_; have HI395 := n2_; have HB := n3_; have BK408 := n4_; have GW408 := n5_; have GE408 := n6_; have NB370_408 := n7_; have NB408_370 := n8_; have NB375_408 := n9_; have NB408_375 := n10_; have NB395_408 := n11_; have NB408_395 := n12_; clear n0_ n1_ n2_ n3_ n4_ n5_ n6_ n7_ n8_ n9_ n10_ n11_ n12_; clear hb hbox hg; have hnb67 := NB408_370.out; have hnc67 := NB370_408.out; have hnb68 := NB408_375.out; have hnc68 := NB375_408.out; have hnb69 := NB408_395.out; have hnc69 := NB395_408.out; have hcz70_0 : w66.cell? ⟨gb408, 0, none⟩ = some (.int .u8 0) := (blk_cell BK408.out 0).trans rfl; have hcz70_1 : w66.cell? ⟨gb408, 1, none⟩ = some (.int .u64 0) := (blk_cell BK408.out 1).trans rfl; have hcz70_2 : w66.cell? ⟨gb408, 2, none⟩ = some (.int .u32 0) := (blk_cell BK408.out 2).trans rfl; have hcz70_3 : w66.cell? ⟨gb408, 3, none⟩ = some (.int .u32 0) := (blk_cell BK408.out 3).trans rfl; have hcz70_4 : w66.cell? ⟨gb408, 4, none⟩ = some (.string (⟨#[]⟩ : ByteArray)) := (blk_cell BK408.out 4).trans rfl; have hcz70_5 : w66.cell? ⟨gb408, 5, none⟩ = some (.string (⟨#[]⟩ : ByteArray)) := (blk_cell BK408.out 5).trans rfl; have hfz70_0 := blk_frozen BK408.out 0; have hfz70_1 := blk_frozen BK408.out 1; have hfz70_2 := blk_frozen BK408.out 2; have hfz70_3 := blk_frozen BK408.out 3; have hfz70_4 := blk_frozen BK408.out 4; have hfz70_5 := blk_frozen BK408.out 5) | ((with_reducible refine gate_callee (f := 10) rfl ?_); refine goesL_ (some 85) rfl rfl Try.func10 (by kernel_rfl) rfl #[] rfl (by (try simp only [List.map_toArray, List.map_cons, List.map_nil]); first | done | rfl | (simp only [List.length_drop, List.length_take]; rfl)) ?_; (with_reducible refine (diacriticlaw17_awake.calls kj37  true _ A58.out).mono ?_); rintro e w71 ⟨rfl, hb⟩; refine ⟨_, rfl, ?_⟩; have n0_ := Aside0.mk (blk_below (g := gb370) (o := .cells #[.int .u8 a0_0, .int .u64 a0_1, .int .u32 a0_2, .int .u32 a0_3, .string a0_4, .string a0_5] 27 (0, 0)) (by (with_reducible repeat (first | refine blk_drewN ?_ _ | refine blk_drew ?_ | refine blk_alloc ?_ _)); refine blk_far ?_ NB370_408.out _; (with_reducible repeat (first | refine blk_drewN ?_ _ | refine blk_drew ?_ | refine blk_alloc ?_ _)); refine blk_far ?_ NB370_408.out _; (with_reducible repeat (first | refine blk_drewN ?_ _ | refine blk_drew ?_ | refine blk_alloc ?_ _)); refine blk_far ?_ NB370_408.out _; (with_reducible repeat (first | refine blk_drewN ?_ _ | refine blk_drew ?_ | refine blk_alloc ?_ _)); refine blk_far ?_ NB370_408.out _; (with_reducible repeat (first | refine blk_drewN ?_ _ | refine blk_drew ?_ | refine blk_alloc ?_ _)); refine blk_far ?_ NB370_408.out _; (with_reducible repeat (first | refine blk_drewN ?_ _ | refine blk_drew ?_ | refine blk_alloc ?_ _)); refine blk_far ?_ NB370_408.out _; (with_reducible repeat (first | refine blk_drewN ?_ _ | refine blk_drew ?_ | refine blk_alloc ?_ _)); exact BK370.out) hb); have n1_ := Aside0.mk (blk_below (g := gb375) (o := .cells #[.int .i64 t373, .int .i64 t374] 32 (0, 0)) (by (with_reducible repeat (first | refine blk_drewN ?_ _ | refine blk_drew ?_ | refine blk_alloc ?_ _)); refine blk_far ?_ NB375_408.out _; (with_reducible repeat (first | refine blk_drewN ?_ _ | refine blk_drew ?_ | refine blk_alloc ?_ _)); refine blk_far ?_ NB375_408.out _; (with_reducible repeat (first | refine blk_drewN ?_ _ | refine blk_drew ?_ | refine blk_alloc ?_ _)); refine blk_far ?_ NB375_408.out _; (with_reducible repeat (first | refine blk_drewN ?_ _ | refine blk_drew ?_ | refine blk_alloc ?_ _)); refine blk_far ?_ NB375_408.out _; (with_reducible repeat (first | refine blk_drewN ?_ _ | refine blk_drew ?_ | refine blk_alloc ?_ _)); refine blk_far ?_ NB375_408.out _; (with_reducible repeat (first | refine blk_drewN ?_ _ | refine blk_drew ?_ | refine blk_alloc ?_ _)); refine blk_far ?_ NB375_408.out _; (with_reducible repeat (first | refine blk_drewN ?_ _ | refine blk_drew ?_ | refine blk_alloc ?_ _)); exact BK375.out) hb); have n2_ := Aside0.mk (IsS81.below (show IsS81 w ((((((w66.setCell ⟨gb408, 0, none⟩ (.int .u8 t396)).setCell ⟨gb408, 1, none⟩ (.int .u64 t397)).setCell ⟨gb408, 2, none⟩ (.int .u32 t398)).setCell ⟨gb408, 3, none⟩ (.int .u32 t399)).setCell ⟨gb408, 4, none⟩ (.string t400)).setCell ⟨gb408, 5, none⟩ (.string t401)) g395 t403 t404 t405 t406 t407 from by repeat (first | (with_reducible first | exact HI395.out | apply IsS81.alloc | apply IsS81.drewN | apply IsS81.drew | apply IsS81.set_0 | apply IsS81.set_1 | apply IsS81.set_2 | apply IsS81.set_3 | apply IsS81.set_4 | refine IsS81.far ?_ NB395_370.out _ | refine IsS81.far ?_ NB395_375.out _ | refine IsS81.far ?_ NB395_408.out _) | exact HI395.out)) hb); have n3_ := Aside0.mk (blk_below (g := gb408) (o := .cells #[.int .u8 t396, .int .u64 t397, .int .u32 t398, .int .u32 t399, .string t400, .string t401] 27 (0, 0)) (by (with_reducible repeat (first | refine blk_drewN ?_ _ | refine blk_drew ?_ | refine blk_alloc ?_ _)); refine blk_put (cs := #[.int .u8 t396, .int .u64 t397, .int .u32 t398, .int .u32 t399, .string t400, .string (⟨#[]⟩ : ByteArray)]) ?_ 5 _ rfl; (with_reducible repeat (first | refine blk_drewN ?_ _ | refine blk_drew ?_ | refine blk_alloc ?_ _)); refine blk_put (cs := #[.int .u8 t396, .int .u64 t397, .int .u32 t398, .int .u32 t399, .string (⟨#[]⟩ : ByteArray), .string (⟨#[]⟩ : ByteArray)]) ?_ 4 _ rfl; (with_reducible repeat (first | refine blk_drewN ?_ _ | refine blk_drew ?_ | refine blk_alloc ?_ _)); refine blk_put (cs := #[.int .u8 t396, .int .u64 t397, .int .u32 t398, .int .u32 0, .string (⟨#[]⟩ : ByteArray), .string (⟨#[]⟩ : ByteArray)]) ?_ 3 _ rfl; (with_reducible repeat (first | refine blk_drewN ?_ _ | refine blk_drew ?_ | refine blk_alloc ?_ _)); refine blk_put (cs := #[.int .u8 t396, .int .u64 t397, .int .u32 0, .int .u32 0, .string (⟨#[]⟩ : ByteArray), .string (⟨#[]⟩ : ByteArray)]) ?_ 2 _ rfl; (with_reducible repeat (first | refine blk_drewN ?_ _ | refine blk_drew ?_ | refine blk_alloc ?_ _)); refine blk_put (cs := #[.int .u8 t396, .int .u64 0, .int .u32 0, .int .u32 0, .string (⟨#[]⟩ : ByteArray), .string (⟨#[]⟩ : ByteArray)]) ?_ 1 _ rfl; (with_reducible repeat (first | refine blk_drewN ?_ _ | refine blk_drew ?_ | refine blk_alloc ?_ _)); refine blk_put (cs := #[.int .u8 0, .int .u64 0, .int .u32 0, .int .u32 0, .string (⟨#[]⟩ : ByteArray), .string (⟨#[]⟩ : ByteArray)]) ?_ 0 _ rfl; (with_reducible repeat (first | refine blk_drewN ?_ _ | refine blk_drew ?_ | refine blk_alloc ?_ _)); exact BK408.out) hb); have n4_ := Aside0.mk (below_step (by repeat (first | (with_reducible first | exact HB.out | apply below_alloc | apply pw_below_drewN | apply below_drew1 | refine below_set ?_ (IsS81.ge HI395.out) | refine below_set ?_ GE370.out | refine below_set ?_ GE375.out | refine below_set ?_ GE408.out) | exact HB.out)) hb); clear BK370; clear BK375; clear HI395; clear BK408; clear HB; have BK370 := n0_; have BK375 := n1_; have HI395 := n2_; have BK408 := n3_; have HB := n4_; clear n0_ n1_ n2_ n3_ n4_; (try clear hb); (try clear hb2); (try clear hk); (try clear hi); have hnb72 := NB370_375.out; have hnc72 := NB375_370.out; have hnb73 := NB370_395.out; have hnc73 := NB395_370.out; have hcz74_0 : w71.cell? ⟨gb370, 0, none⟩ = some (.int .u8 a0_0) := (blk_cell BK370.out 0).trans rfl; have hcz74_1 : w71.cell? ⟨gb370, 1, none⟩ = some (.int .u64 a0_1) := (blk_cell BK370.out 1).trans rfl; have hcz74_2 : w71.cell? ⟨gb370, 2, none⟩ = some (.int .u32 a0_2) := (blk_cell BK370.out 2).trans rfl; have hcz74_3 : w71.cell? ⟨gb370, 3, none⟩ = some (.int .u32 a0_3) := (blk_cell BK370.out 3).trans rfl; have hcz74_4 : w71.cell? ⟨gb370, 4, none⟩ = some (.string a0_4) := (blk_cell BK370.out 4).trans rfl; have hcz74_5 : w71.cell? ⟨gb370, 5, none⟩ = some (.string a0_5) := (blk_cell BK370.out 5).trans rfl; have hfz74_0 := blk_frozen BK370.out 0; have hfz74_1 := blk_frozen BK370.out 1; have hfz74_2 := blk_frozen BK370.out 2; have hfz74_3 := blk_frozen BK370.out 3; have hfz74_4 := blk_frozen BK370.out 4; have hfz74_5 := blk_frozen BK370.out 5) | (go_at_call 16; (with_reducible refine (diacriticlaw17_Of.calls a0_0 a0_1 a0_2 a0_3 a0_4 a0_5 t410 t411 t412 t413 t414 t415 _ A60.out).mono ?_); rintro e w75 ⟨rfl, hb⟩; have n0_ := Aside0.mk (blk_below (g := gb370) (o := .cells #[.int .u8 a0_0, .int .u64 a0_1, .int .u32 a0_2, .int .u32 a0_3, .string a0_4, .string a0_5] 27 (0, 0)) (by (with_reducible repeat (first | refine blk_drewN ?_ _ | refine blk_drew ?_ | refine blk_alloc ?_ _)); exact BK370.out) hb); have n1_ := Aside0.mk (blk_below (g := gb375) (o := .cells #[.int .i64 t373, .int .i64 t374] 32 (0, 0)) (by (with_reducible repeat (first | refine blk_drewN ?_ _ | refine blk_drew ?_ | refine blk_alloc ?_ _)); exact BK375.out) hb); have n2_ := Aside0.mk (IsS81.below (by repeat (first | (with_reducible first | exact HI395.out | apply IsS81.alloc | apply IsS81.drewN | apply IsS81.drew | apply IsS81.set_0 | apply IsS81.set_1 | apply IsS81.set_2 | apply IsS81.set_3 | apply IsS81.set_4 | refine IsS81.far ?_ NB395_370.out _ | refine IsS81.far ?_ NB395_375.out _ | refine IsS81.far ?_ NB395_408.out _) | exact HI395.out)) hb); have n3_ := Aside0.mk (blk_below (g := gb408) (o := .cells #[.int .u8 t396, .int .u64 t397, .int .u32 t398, .int .u32 t399, .string t400, .string t401] 27 (0, 0)) (by (with_reducible repeat (first | refine blk_drewN ?_ _ | refine blk_drew ?_ | refine blk_alloc ?_ _)); exact BK408.out) hb); have n4_ := Aside0.mk (below_step (by repeat (first | (with_reducible first | exact HB.out | apply below_alloc | apply pw_below_drewN | apply below_drew1 | refine below_set ?_ (IsS81.ge HI395.out) | refine below_set ?_ GE370.out | refine below_set ?_ GE375.out | refine below_set ?_ GE408.out) | exact HB.out)) hb); clear BK370; clear BK375; clear HI395; clear BK408; clear HB; have BK370 := n0_; have BK375 := n1_; have HI395 := n2_; have BK408 := n3_; have HB := n4_; clear n0_ n1_ n2_ n3_ n4_; (try clear hb); (try clear hb2); (try clear hk); (try clear hi)) | (go_at_call 21; (with_reducible refine (diacriticref17_Print.calls kj37 t410 t411 t412 t413 t414 t415 t416 _ A61.out).mono ?_); rintro e w76 ⟨rfl, hb⟩; have n0_ := Aside0.mk (blk_below (g := gb370) (o := .cells #[.int .u8 a0_0, .int .u64 a0_1, .int .u32 a0_2, .int .u32 a0_3, .string a0_4, .string a0_5] 27 (0, 0)) (by (with_reducible repeat (first | refine blk_drewN ?_ _ | refine blk_drew ?_ | refine blk_alloc ?_ _)); exact BK370.out) hb); have n1_ := Aside0.mk (blk_below (g := gb375) (o := .cells #[.int .i64 t373, .int .i64 t374] 32 (0, 0)) (by (with_reducible repeat (first | refine blk_drewN ?_ _ | refine blk_drew ?_ | refine blk_alloc ?_ _)); exact BK375.out) hb); have n2_ := Aside0.mk (IsS81.below (by repeat (first | (with_reducible first | exact HI395.out | apply IsS81.alloc | apply IsS81.drewN | apply IsS81.drew | apply IsS81.set_0 | apply IsS81.set_1 | apply IsS81.set_2 | apply IsS81.set_3 | apply IsS81.set_4 | refine IsS81.far ?_ NB395_370.out _ | refine IsS81.far ?_ NB395_375.out _ | refine IsS81.far ?_ NB395_408.out _) | exact HI395.out)) hb); have n3_ := Aside0.mk (blk_below (g := gb408) (o := .cells #[.int .u8 t396, .int .u64 t397, .int .u32 t398, .int .u32 t399, .string t400, .string t401] 27 (0, 0)) (by (with_reducible repeat (first | refine blk_drewN ?_ _ | refine blk_drew ?_ | refine blk_alloc ?_ _)); exact BK408.out) hb); have n4_ := Aside0.mk (below_step (by repeat (first | (with_reducible first | exact HB.out | apply below_alloc | apply pw_below_drewN | apply below_drew1 | refine below_set ?_ (IsS81.ge HI395.out) | refine below_set ?_ GE370.out | refine below_set ?_ GE375.out | refine below_set ?_ GE408.out) | exact HB.out)) hb); clear BK370; clear BK375; clear HI395; clear BK408; clear HB; have BK370 := n0_; have BK375 := n1_; have HI395 := n2_; have BK408 := n3_; have HB := n4_; clear n0_ n1_ n2_ n3_ n4_; (try clear hb); (try clear hb2); (try clear hk); (try clear hi); have hcz77_0 : w76.cell? ⟨gb408, 0, none⟩ = some (.int .u8 t396) := (blk_cell BK408.out 0).trans rfl; have hcz77_1 : w76.cell? ⟨gb408, 1, none⟩ = some (.int .u64 t397) := (blk_cell BK408.out 1).trans rfl; have hcz77_2 : w76.cell? ⟨gb408, 2, none⟩ = some (.int .u32 t398) := (blk_cell BK408.out 2).trans rfl; have hcz77_3 : w76.cell? ⟨gb408, 3, none⟩ = some (.int .u32 t399) := (blk_cell BK408.out 3).trans rfl; have hcz77_4 : w76.cell? ⟨gb408, 4, none⟩ = some (.string t400) := (blk_cell BK408.out 4).trans rfl; have hcz77_5 : w76.cell? ⟨gb408, 5, none⟩ = some (.string t401) := (blk_cell BK408.out 5).trans rfl; have hfz77_0 := blk_frozen BK408.out 0; have hfz77_1 := blk_frozen BK408.out 1; have hfz77_2 := blk_frozen BK408.out 2; have hfz77_3 := blk_frozen BK408.out 3; have hfz77_4 := blk_frozen BK408.out 4; have hfz77_5 := blk_frozen BK408.out 5; have hcz78_0 : w76.cell? ⟨gb370, 0, none⟩ = some (.int .u8 a0_0) := (blk_cell BK370.out 0).trans rfl; have hcz78_1 : w76.cell? ⟨gb370, 1, none⟩ = some (.int .u64 a0_1) := (blk_cell BK370.out 1).trans rfl; have hcz78_2 : w76.cell? ⟨gb370, 2, none⟩ = some (.int .u32 a0_2) := (blk_cell BK370.out 2).trans rfl; have hcz78_3 : w76.cell? ⟨gb370, 3, none⟩ = some (.int .u32 a0_3) := (blk_cell BK370.out 3).trans rfl; have hcz78_4 : w76.cell? ⟨gb370, 4, none⟩ = some (.string a0_4) := (blk_cell BK370.out 4).trans rfl; have hcz78_5 : w76.cell? ⟨gb370, 5, none⟩ = some (.string a0_5) := (blk_cell BK370.out 5).trans rfl; have hfz78_0 := blk_frozen BK370.out 0; have hfz78_1 := blk_frozen BK370.out 1; have hfz78_2 := blk_frozen BK370.out 2; have hfz78_3 := blk_frozen BK370.out 3; have hfz78_4 := blk_frozen BK370.out 4; have hfz78_5 := blk_frozen BK370.out 5))
                            go_ret
                            exact ⟨by first | rfl | (simp [errW_none, errW_some] <;> rfl) | (simp [*, errW_none, errW_some] <;> rfl), by repeat (first | (with_reducible first | exact HB.out | apply below_alloc | apply pw_below_drewN | apply below_drew1 | refine below_set ?_ (IsS81.ge HI395.out) | refine below_set ?_ GE370.out | refine below_set ?_ GE375.out | refine below_set ?_ GE408.out) | exact HB.out)⟩
                          · replace c63 := Bool.eq_false_iff.mpr c63
                            subst c63
                            have H1 : (some false) = some r := by rw [if_neg (show ¬ (false = true) by decide)] at H; exact H
                            clear H
                            have H := H1
                            clear H1
                            obtain rfl := Option.some.inj H
                            go_wp2_with (first | ((with_reducible refine gate_callee (f := 14) rfl ?_); refine goesL_ (some 81) rfl rfl Try.func14 (by kernel_rfl) rfl #[.string t372] rfl (by (try simp only [List.map_toArray, List.map_cons, List.map_nil]); first | done | rfl | (simp only [List.length_drop, List.length_take]; rfl)) ?_; (with_reducible refine (octet_Read.calls t372 t390 t391 t392 t393 t394 w _ ?side1 A56.out).mono ?_); (case side1 => repeat (first | (with_reducible first | exact HB.out | apply below_alloc | apply pw_below_drewN | apply below_drew1 | refine below_set ?_ GE370.out | refine below_set ?_ GE375.out) | exact HB.out)); rintro e w79 ⟨g395, rfl, hi, hb, hb2⟩; refine ⟨_, rfl, ?_⟩; have n0_ := Aside0.mk (blk_below (g := gb370) (o := .cells #[.int .u8 a0_0, .int .u64 a0_1, .int .u32 a0_2, .int .u32 a0_3, .string a0_4, .string a0_5] 27 (0, 0)) (by (with_reducible repeat (first | refine blk_drewN ?_ _ | refine blk_drew ?_ | refine blk_alloc ?_ _)); exact BK370.out) hb2); have n1_ := Aside0.mk (blk_below (g := gb375) (o := .cells #[.int .i64 t373, .int .i64 t374] 32 (0, 0)) (by (with_reducible repeat (first | refine blk_drewN ?_ _ | refine blk_drew ?_ | refine blk_alloc ?_ _)); exact BK375.out) hb2); have n2_ := Aside0.mk (hb); have n3_ := Aside0.mk (hi); have n4_ := Aside0.mk (IsS81.ne_blk hi (blk_below (g := gb370) (o := .cells #[.int .u8 a0_0, .int .u64 a0_1, .int .u32 a0_2, .int .u32 a0_3, .string a0_4, .string a0_5] 27 (0, 0)) (by (with_reducible repeat (first | refine blk_drewN ?_ _ | refine blk_drew ?_ | refine blk_alloc ?_ _)); exact BK370.out) hb2) (by decide)); have n5_ := Aside0.mk (Ne.symm (IsS81.ne_blk hi (blk_below (g := gb370) (o := .cells #[.int .u8 a0_0, .int .u64 a0_1, .int .u32 a0_2, .int .u32 a0_3, .string a0_4, .string a0_5] 27 (0, 0)) (by (with_reducible repeat (first | refine blk_drewN ?_ _ | refine blk_drew ?_ | refine blk_alloc ?_ _)); exact BK370.out) hb2) (by decide))); have n6_ := Aside0.mk (IsS81.ne_blk hi (blk_below (g := gb375) (o := .cells #[.int .i64 t373, .int .i64 t374] 32 (0, 0)) (by (with_reducible repeat (first | refine blk_drewN ?_ _ | refine blk_drew ?_ | refine blk_alloc ?_ _)); exact BK375.out) hb2) (by decide)); have n7_ := Aside0.mk (Ne.symm (IsS81.ne_blk hi (blk_below (g := gb375) (o := .cells #[.int .i64 t373, .int .i64 t374] 32 (0, 0)) (by (with_reducible repeat (first | refine blk_drewN ?_ _ | refine blk_drew ?_ | refine blk_alloc ?_ _)); exact BK375.out) hb2) (by decide))); clear BK370; clear BK375; clear HB; have BK370 := n0_; have BK375 := n1_; have HB := n2_; have HI395 := n3_; have NB395_370 := n4_; have NB370_395 := n5_; have NB395_375 := n6_; have NB375_395 := n7_; clear n0_ n1_ n2_ n3_ n4_ n5_ n6_ n7_; (try clear hb); (try clear hb2); (try clear hk); (try clear hi)) | ((with_reducible refine gate_callee (f := 13) rfl ?_); refine goesL_ (some 82) rfl rfl Try.func13 (by kernel_rfl) rfl #[.pointer (some ⟨g395, 0, none⟩)] rfl (by (try simp only [List.map_toArray, List.map_cons, List.map_nil]); first | done | rfl | (simp only [List.length_drop, List.length_take]; rfl)) ?_; (with_reducible refine (page_Parse.calls kj37 g395 t390 t391 t392 t393 t394 t396 t397 t398 t399 t400 t401 false t403 t404 t405 t406 t407 w _ ?side1 ?side2 A57.out).mono ?_); (case side1 => repeat (first | (with_reducible first | exact HI395.out | apply IsS81.alloc | apply IsS81.drewN | apply IsS81.drew | apply IsS81.set_0 | apply IsS81.set_1 | apply IsS81.set_2 | apply IsS81.set_3 | apply IsS81.set_4 | refine IsS81.far ?_ NB395_370.out _ | refine IsS81.far ?_ NB395_375.out _) | exact HI395.out)); (case side2 => repeat (first | (with_reducible first | exact HB.out | apply below_alloc | apply pw_below_drewN | apply below_drew1 | refine below_set ?_ (IsS81.ge HI395.out) | refine below_set ?_ GE370.out | refine below_set ?_ GE375.out) | exact HB.out)); rintro e w80 ⟨rfl, hi, hb, hk⟩; refine ⟨_, rfl, ?_⟩; have n0_ := Aside0.mk (KeepBut.blk hk (g' := gb370) (o := .cells #[.int .u8 a0_0, .int .u64 a0_1, .int .u32 a0_2, .int .u32 a0_3, .string a0_4, .string a0_5] 27 (0, 0)) (by (with_reducible repeat (first | refine blk_drewN ?_ _ | refine blk_drew ?_ | refine blk_alloc ?_ _)); exact BK370.out) NB370_395.out (by simp)); have n1_ := Aside0.mk (KeepBut.blk hk (g' := gb375) (o := .cells #[.int .i64 t373, .int .i64 t374] 32 (0, 0)) (by (with_reducible repeat (first | refine blk_drewN ?_ _ | refine blk_drew ?_ | refine blk_alloc ?_ _)); exact BK375.out) NB375_395.out (by simp)); have n2_ := Aside0.mk (hb); have n3_ := Aside0.mk (hi); clear BK370; clear BK375; clear HB; clear HI395; have BK370 := n0_; have BK375 := n1_; have HB := n2_; have HI395 := n3_; clear n0_ n1_ n2_ n3_; (try clear hb); (try clear hb2); (try clear hk); (try clear hi)) | ((with_reducible refine gate_dst (N := 9) rfl ?_); (try (refine gate_guard (by rfl) ?_; dsimp only)); refine box_event ?hg (N := 9) ?hd (cs := #[.int .u8 0, .int .u64 0, .int .u32 0, .int .u32 0, .string (⟨#[]⟩ : ByteArray), .string (⟨#[]⟩ : ByteArray)]) (t := 27) ?hr ?_; (case hd => rfl); (case hg => rfl); (case hr => first | (go_simp; done) | (go_simp; rfl)); intro gb408 hg w81 hbox hb; have n0_ := Aside0.mk (blk_below (g := gb370) (o := .cells #[.int .u8 a0_0, .int .u64 a0_1, .int .u32 a0_2, .int .u32 a0_3, .string a0_4, .string a0_5] 27 (0, 0)) (by (with_reducible repeat (first | refine blk_drewN ?_ _ | refine blk_drew ?_ | refine blk_alloc ?_ _)); exact BK370.out) hb); have n1_ := Aside0.mk (blk_below (g := gb375) (o := .cells #[.int .i64 t373, .int .i64 t374] 32 (0, 0)) (by (with_reducible repeat (first | refine blk_drewN ?_ _ | refine blk_drew ?_ | refine blk_alloc ?_ _)); exact BK375.out) hb); have n2_ := Aside0.mk (IsS81.below (by repeat (first | (with_reducible first | exact HI395.out | apply IsS81.alloc | apply IsS81.drewN | apply IsS81.drew | apply IsS81.set_0 | apply IsS81.set_1 | apply IsS81.set_2 | apply IsS81.set_3 | apply IsS81.set_4 | refine IsS81.far ?_ NB395_370.out _ | refine IsS81.far ?_ NB395_375.out _) | exact HI395.out)) hb); have n3_ := Aside0.mk (below_step (by repeat (first | (with_reducible first | exact HB.out | apply below_alloc | apply pw_below_drewN | apply below_drew1 | refine below_set ?_ (IsS81.ge HI395.out) | refine below_set ?_ GE370.out | refine below_set ?_ GE375.out) | exact HB.out)) hb); have n4_ := Aside0.mk (hbox); have n5_ := Aside0.mk ((by rw [hg]; exact (below_size (by repeat (first | (with_reducible first | exact HB.out | apply below_alloc | apply pw_below_drewN | apply below_drew1 | refine below_set ?_ (IsS81.ge HI395.out) | refine below_set ?_ GE370.out | refine below_set ?_ GE375.out) | exact HB.out))) : w.heap.size ≤ gb408)); have n6_ := Aside0.mk ((by rw [hg]; exact (below_size (by repeat (first | (with_reducible first | exact HB.out | apply below_alloc | apply pw_below_drewN | apply below_drew1 | refine below_set ?_ (IsS81.ge HI395.out) | refine below_set ?_ GE370.out | refine below_set ?_ GE375.out) | exact HB.out))) : w.heap.size ≤ gb408)); have n7_ := Aside0.mk ((by rw [hg]; exact Nat.ne_of_lt (blk_lt (g := gb370) (o := .cells #[.int .u8 a0_0, .int .u64 a0_1, .int .u32 a0_2, .int .u32 a0_3, .string a0_4, .string a0_5] 27 (0, 0)) (by (with_reducible repeat (first | refine blk_drewN ?_ _ | refine blk_drew ?_ | refine blk_alloc ?_ _)); exact BK370.out)) : gb370 ≠ gb408)); have n8_ := Aside0.mk ((by rw [hg]; exact Nat.ne_of_gt (blk_lt (g := gb370) (o := .cells #[.int .u8 a0_0, .int .u64 a0_1, .int .u32 a0_2, .int .u32 a0_3, .string a0_4, .string a0_5] 27 (0, 0)) (by (with_reducible repeat (first | refine blk_drewN ?_ _ | refine blk_drew ?_ | refine blk_alloc ?_ _)); exact BK370.out)) : gb408 ≠ gb370)); have n9_ := Aside0.mk ((by rw [hg]; exact Nat.ne_of_lt (blk_lt (g := gb375) (o := .cells #[.int .i64 t373, .int .i64 t374] 32 (0, 0)) (by (with_reducible repeat (first | refine blk_drewN ?_ _ | refine blk_drew ?_ | refine blk_alloc ?_ _)); exact BK375.out)) : gb375 ≠ gb408)); have n10_ := Aside0.mk ((by rw [hg]; exact Nat.ne_of_gt (blk_lt (g := gb375) (o := .cells #[.int .i64 t373, .int .i64 t374] 32 (0, 0)) (by (with_reducible repeat (first | refine blk_drewN ?_ _ | refine blk_drew ?_ | refine blk_alloc ?_ _)); exact BK375.out)) : gb408 ≠ gb375)); have n11_ := Aside0.mk ((by rw [hg]; exact Nat.ne_of_lt (IsS81.lt (show IsS81 w _ g395 t403 t404 t405 t406 t407 from by repeat (first | (with_reducible first | exact HI395.out | apply IsS81.alloc | apply IsS81.drewN | apply IsS81.drew | apply IsS81.set_0 | apply IsS81.set_1 | apply IsS81.set_2 | apply IsS81.set_3 | apply IsS81.set_4 | refine IsS81.far ?_ NB395_370.out _ | refine IsS81.far ?_ NB395_375.out _) | exact HI395.out))) : g395 ≠ gb408)); have n12_ := Aside0.mk ((by rw [hg]; exact Nat.ne_of_gt (IsS81.lt (show IsS81 w _ g395 t403 t404 t405 t406 t407 from by repeat (first | (with_reducible first | exact HI395.out | apply IsS81.alloc | apply IsS81.drewN | apply IsS81.drew | apply IsS81.set_0 | apply IsS81.set_1 | apply IsS81.set_2 | apply IsS81.set_3 | apply IsS81.set_4 | refine IsS81.far ?_ NB395_370.out _ | refine IsS81.far ?_ NB395_375.out _) | exact HI395.out))) : gb408 ≠ g395)); clear BK370; clear BK375; clear HI395; clear HB; have BK370 := n0_; have BK375 := n1_; have HI395 := n2_; have HB := n3_; have BK408 := n4_; have GW408 := n5_; have GE408 := n6_; have NB370_408 := n7_; have NB408_370 := n8_; have NB375_408 := n9_; have NB408_375 := n10_; have NB395_408 := n11_; have NB408_395 := n12_; clear n0_ n1_ n2_ n3_ n4_ n5_ n6_ n7_ n8_ n9_ n10_ n11_ n12_; clear hb hbox hg; have hnb82 := NB408_370.out; have hnc82 := NB370_408.out; have hnb83 := NB408_375.out; have hnc83 := NB375_408.out; have hnb84 := NB408_395.out; have hnc84 := NB395_408.out; have hcz85_0 : w81.cell? ⟨gb408, 0, none⟩ = some (.int .u8 0) := (blk_cell BK408.out 0).trans rfl; have hcz85_1 : w81.cell? ⟨gb408, 1, none⟩ = some (.int .u64 0) := (blk_cell BK408.out 1).trans rfl; have hcz85_2 : w81.cell? ⟨gb408, 2, none⟩ = some (.int .u32 0) := (blk_cell BK408.out 2).trans rfl; have hcz85_3 : w81.cell? ⟨gb408, 3, none⟩ = some (.int .u32 0) := (blk_cell BK408.out 3).trans rfl; have hcz85_4 : w81.cell? ⟨gb408, 4, none⟩ = some (.string (⟨#[]⟩ : ByteArray)) := (blk_cell BK408.out 4).trans rfl; have hcz85_5 : w81.cell? ⟨gb408, 5, none⟩ = some (.string (⟨#[]⟩ : ByteArray)) := (blk_cell BK408.out 5).trans rfl; have hfz85_0 := blk_frozen BK408.out 0; have hfz85_1 := blk_frozen BK408.out 1; have hfz85_2 := blk_frozen BK408.out 2; have hfz85_3 := blk_frozen BK408.out 3; have hfz85_4 := blk_frozen BK408.out 4; have hfz85_5 := blk_frozen BK408.out 5) | ((with_reducible refine gate_callee (f := 10) rfl ?_); refine goesL_ (some 85) rfl rfl Try.func10 (by kernel_rfl) rfl #[] rfl (by (try simp only [List.map_toArray, List.map_cons, List.map_nil]); first | done | rfl | (simp only [List.length_drop, List.length_take]; rfl)) ?_; (with_reducible refine (diacriticlaw17_awake.calls kj37  true _ A58.out).mono ?_); rintro e w86 ⟨rfl, hb⟩; refine ⟨_, rfl, ?_⟩; have n0_ := Aside0.mk (blk_below (g := gb370) (o := .cells #[.int .u8 a0_0, .int .u64 a0_1, .int .u32 a0_2, .int .u32 a0_3, .string a0_4, .string a0_5] 27 (0, 0)) (by (with_reducible repeat (first | refine blk_drewN ?_ _ | refine blk_drew ?_ | refine blk_alloc ?_ _)); refine blk_far ?_ NB370_408.out _; (with_reducible repeat (first | refine blk_drewN ?_ _ | refine blk_drew ?_ | refine blk_alloc ?_ _)); refine blk_far ?_ NB370_408.out _; (with_reducible repeat (first | refine blk_drewN ?_ _ | refine blk_drew ?_ | refine blk_alloc ?_ _)); refine blk_far ?_ NB370_408.out _; (with_reducible repeat (first | refine blk_drewN ?_ _ | refine blk_drew ?_ | refine blk_alloc ?_ _)); refine blk_far ?_ NB370_408.out _; (with_reducible repeat (first | refine blk_drewN ?_ _ | refine blk_drew ?_ | refine blk_alloc ?_ _)); refine blk_far ?_ NB370_408.out _; (with_reducible repeat (first | refine blk_drewN ?_ _ | refine blk_drew ?_ | refine blk_alloc ?_ _)); refine blk_far ?_ NB370_408.out _; (with_reducible repeat (first | refine blk_drewN ?_ _ | refine blk_drew ?_ | refine blk_alloc ?_ _)); exact BK370.out) hb); have n1_ := Aside0.mk (blk_below (g := gb375) (o := .cells #[.int .i64 t373, .int .i64 t374] 32 (0, 0)) (by (with_reducible repeat (first | refine blk_drewN ?_ _ | refine blk_drew ?_ | refine blk_alloc ?_ _)); refine blk_far ?_ NB375_408.out _; (with_reducible repeat (first | refine blk_drewN ?_ _ | refine blk_drew ?_ | refine blk_alloc ?_ _)); refine blk_far ?_ NB375_408.out _; (with_reducible repeat (first | refine blk_drewN ?_ _ | refine blk_drew ?_ | refine blk_alloc ?_ _)); refine blk_far ?_ NB375_408.out _; (with_reducible repeat (first | refine blk_drewN ?_ _ | refine blk_drew ?_ | refine blk_alloc ?_ _)); refine blk_far ?_ NB375_408.out _; (with_reducible repeat (first | refine blk_drewN ?_ _ | refine blk_drew ?_ | refine blk_alloc ?_ _)); refine blk_far ?_ NB375_408.out _; (with_reducible repeat (first | refine blk_drewN ?_ _ | refine blk_drew ?_ | refine blk_alloc ?_ _)); refine blk_far ?_ NB375_408.out _; (with_reducible repeat (first | refine blk_drewN ?_ _ | refine blk_drew ?_ | refine blk_alloc ?_ _)); exact BK375.out) hb); have n2_ := Aside0.mk (IsS81.below (show IsS81 w ((((((w81.setCell ⟨gb408, 0, none⟩ (.int .u8 t396)).setCell ⟨gb408, 1, none⟩ (.int .u64 t397)).setCell ⟨gb408, 2, none⟩ (.int .u32 t398)).setCell ⟨gb408, 3, none⟩ (.int .u32 t399)).setCell ⟨gb408, 4, none⟩ (.string t400)).setCell ⟨gb408, 5, none⟩ (.string t401)) g395 t403 t404 t405 t406 t407 from by repeat (first | (with_reducible first | exact HI395.out | apply IsS81.alloc | apply IsS81.drewN | apply IsS81.drew | apply IsS81.set_0 | apply IsS81.set_1 | apply IsS81.set_2 | apply IsS81.set_3 | apply IsS81.set_4 | refine IsS81.far ?_ NB395_370.out _ | refine IsS81.far ?_ NB395_375.out _ | refine IsS81.far ?_ NB395_408.out _) | exact HI395.out)) hb); have n3_ := Aside0.mk (blk_below (g := gb408) (o := .cells #[.int .u8 t396, .int .u64 t397, .int .u32 t398, .int .u32 t399, .string t400, .string t401] 27 (0, 0)) (by (with_reducible repeat (first | refine blk_drewN ?_ _ | refine blk_drew ?_ | refine blk_alloc ?_ _)); refine blk_put (cs := #[.int .u8 t396, .int .u64 t397, .int .u32 t398, .int .u32 t399, .string t400, .string (⟨#[]⟩ : ByteArray)]) ?_ 5 _ rfl; (with_reducible repeat (first | refine blk_drewN ?_ _ | refine blk_drew ?_ | refine blk_alloc ?_ _)); refine blk_put (cs := #[.int .u8 t396, .int .u64 t397, .int .u32 t398, .int .u32 t399, .string (⟨#[]⟩ : ByteArray), .string (⟨#[]⟩ : ByteArray)]) ?_ 4 _ rfl; (with_reducible repeat (first | refine blk_drewN ?_ _ | refine blk_drew ?_ | refine blk_alloc ?_ _)); refine blk_put (cs := #[.int .u8 t396, .int .u64 t397, .int .u32 t398, .int .u32 0, .string (⟨#[]⟩ : ByteArray), .string (⟨#[]⟩ : ByteArray)]) ?_ 3 _ rfl; (with_reducible repeat (first | refine blk_drewN ?_ _ | refine blk_drew ?_ | refine blk_alloc ?_ _)); refine blk_put (cs := #[.int .u8 t396, .int .u64 t397, .int .u32 0, .int .u32 0, .string (⟨#[]⟩ : ByteArray), .string (⟨#[]⟩ : ByteArray)]) ?_ 2 _ rfl; (with_reducible repeat (first | refine blk_drewN ?_ _ | refine blk_drew ?_ | refine blk_alloc ?_ _)); refine blk_put (cs := #[.int .u8 t396, .int .u64 0, .int .u32 0, .int .u32 0, .string (⟨#[]⟩ : ByteArray), .string (⟨#[]⟩ : ByteArray)]) ?_ 1 _ rfl; (with_reducible repeat (first | refine blk_drewN ?_ _ | refine blk_drew ?_ | refine blk_alloc ?_ _)); refine blk_put (cs := #[.int .u8 0, .int .u64 0, .int .u32 0, .int .u32 0, .string (⟨#[]⟩ : ByteArray), .string (⟨#[]⟩ : ByteArray)]) ?_ 0 _ rfl; (with_reducible repeat (first | refine blk_drewN ?_ _ | refine blk_drew ?_ | refine blk_alloc ?_ _)); exact BK408.out) hb); have n4_ := Aside0.mk (below_step (by repeat (first | (with_reducible first | exact HB.out | apply below_alloc | apply pw_below_drewN | apply below_drew1 | refine below_set ?_ (IsS81.ge HI395.out) | refine below_set ?_ GE370.out | refine below_set ?_ GE375.out | refine below_set ?_ GE408.out) | exact HB.out)) hb); clear BK370; clear BK375; clear HI395; clear BK408; clear HB; have BK370 := n0_; have BK375 := n1_; have HI395 := n2_; have BK408 := n3_; have HB := n4_; clear n0_ n1_ n2_ n3_ n4_; (try clear hb); (try clear hb2); (try clear hk); (try clear hi); have hnb87 := NB370_375.out; have hnc87 := NB375_370.out; have hnb88 := NB370_395.out; have hnc88 := NB395_370.out; have hcz89_0 : w86.cell? ⟨gb370, 0, none⟩ = some (.int .u8 a0_0) := (blk_cell BK370.out 0).trans rfl; have hcz89_1 : w86.cell? ⟨gb370, 1, none⟩ = some (.int .u64 a0_1) := (blk_cell BK370.out 1).trans rfl; have hcz89_2 : w86.cell? ⟨gb370, 2, none⟩ = some (.int .u32 a0_2) := (blk_cell BK370.out 2).trans rfl; have hcz89_3 : w86.cell? ⟨gb370, 3, none⟩ = some (.int .u32 a0_3) := (blk_cell BK370.out 3).trans rfl; have hcz89_4 : w86.cell? ⟨gb370, 4, none⟩ = some (.string a0_4) := (blk_cell BK370.out 4).trans rfl; have hcz89_5 : w86.cell? ⟨gb370, 5, none⟩ = some (.string a0_5) := (blk_cell BK370.out 5).trans rfl; have hfz89_0 := blk_frozen BK370.out 0; have hfz89_1 := blk_frozen BK370.out 1; have hfz89_2 := blk_frozen BK370.out 2; have hfz89_3 := blk_frozen BK370.out 3; have hfz89_4 := blk_frozen BK370.out 4; have hfz89_5 := blk_frozen BK370.out 5) | (go_at_call 16; (with_reducible refine (diacriticlaw17_Of.calls a0_0 a0_1 a0_2 a0_3 a0_4 a0_5 t410 t411 t412 t413 t414 t415 _ A60.out).mono ?_); rintro e w90 ⟨rfl, hb⟩; have n0_ := Aside0.mk (blk_below (g := gb370) (o := .cells #[.int .u8 a0_0, .int .u64 a0_1, .int .u32 a0_2, .int .u32 a0_3, .string a0_4, .string a0_5] 27 (0, 0)) (by (with_reducible repeat (first | refine blk_drewN ?_ _ | refine blk_drew ?_ | refine blk_alloc ?_ _)); exact BK370.out) hb); have n1_ := Aside0.mk (blk_below (g := gb375) (o := .cells #[.int .i64 t373, .int .i64 t374] 32 (0, 0)) (by (with_reducible repeat (first | refine blk_drewN ?_ _ | refine blk_drew ?_ | refine blk_alloc ?_ _)); exact BK375.out) hb); have n2_ := Aside0.mk (IsS81.below (by repeat (first | (with_reducible first | exact HI395.out | apply IsS81.alloc | apply IsS81.drewN | apply IsS81.drew | apply IsS81.set_0 | apply IsS81.set_1 | apply IsS81.set_2 | apply IsS81.set_3 | apply IsS81.set_4 | refine IsS81.far ?_ NB395_370.out _ | refine IsS81.far ?_ NB395_375.out _ | refine IsS81.far ?_ NB395_408.out _) | exact HI395.out)) hb); have n3_ := Aside0.mk (blk_below (g := gb408) (o := .cells #[.int .u8 t396, .int .u64 t397, .int .u32 t398, .int .u32 t399, .string t400, .string t401] 27 (0, 0)) (by (with_reducible repeat (first | refine blk_drewN ?_ _ | refine blk_drew ?_ | refine blk_alloc ?_ _)); exact BK408.out) hb); have n4_ := Aside0.mk (below_step (by repeat (first | (with_reducible first | exact HB.out | apply below_alloc | apply pw_below_drewN | apply below_drew1 | refine below_set ?_ (IsS81.ge HI395.out) | refine below_set ?_ GE370.out | refine below_set ?_ GE375.out | refine below_set ?_ GE408.out) | exact HB.out)) hb); clear BK370; clear BK375; clear HI395; clear BK408; clear HB; have BK370 := n0_; have BK375 := n1_; have HI395 := n2_; have BK408 := n3_; have HB := n4_; clear n0_ n1_ n2_ n3_ n4_; (try clear hb); (try clear hb2); (try clear hk); (try clear hi)) | (go_at_call 21; (with_reducible refine (diacriticref17_Print.calls kj37 t410 t411 t412 t413 t414 t415 t416 _ A61.out).mono ?_); rintro e w91 ⟨rfl, hb⟩; have n0_ := Aside0.mk (blk_below (g := gb370) (o := .cells #[.int .u8 a0_0, .int .u64 a0_1, .int .u32 a0_2, .int .u32 a0_3, .string a0_4, .string a0_5] 27 (0, 0)) (by (with_reducible repeat (first | refine blk_drewN ?_ _ | refine blk_drew ?_ | refine blk_alloc ?_ _)); exact BK370.out) hb); have n1_ := Aside0.mk (blk_below (g := gb375) (o := .cells #[.int .i64 t373, .int .i64 t374] 32 (0, 0)) (by (with_reducible repeat (first | refine blk_drewN ?_ _ | refine blk_drew ?_ | refine blk_alloc ?_ _)); exact BK375.out) hb); have n2_ := Aside0.mk (IsS81.below (by repeat (first | (with_reducible first | exact HI395.out | apply IsS81.alloc | apply IsS81.drewN | apply IsS81.drew | apply IsS81.set_0 | apply IsS81.set_1 | apply IsS81.set_2 | apply IsS81.set_3 | apply IsS81.set_4 | refine IsS81.far ?_ NB395_370.out _ | refine IsS81.far ?_ NB395_375.out _ | refine IsS81.far ?_ NB395_408.out _) | exact HI395.out)) hb); have n3_ := Aside0.mk (blk_below (g := gb408) (o := .cells #[.int .u8 t396, .int .u64 t397, .int .u32 t398, .int .u32 t399, .string t400, .string t401] 27 (0, 0)) (by (with_reducible repeat (first | refine blk_drewN ?_ _ | refine blk_drew ?_ | refine blk_alloc ?_ _)); exact BK408.out) hb); have n4_ := Aside0.mk (below_step (by repeat (first | (with_reducible first | exact HB.out | apply below_alloc | apply pw_below_drewN | apply below_drew1 | refine below_set ?_ (IsS81.ge HI395.out) | refine below_set ?_ GE370.out | refine below_set ?_ GE375.out | refine below_set ?_ GE408.out) | exact HB.out)) hb); clear BK370; clear BK375; clear HI395; clear BK408; clear HB; have BK370 := n0_; have BK375 := n1_; have HI395 := n2_; have BK408 := n3_; have HB := n4_; clear n0_ n1_ n2_ n3_ n4_; (try clear hb); (try clear hb2); (try clear hk); (try clear hi)))
                            go_ret
                            exact ⟨by first | rfl | (simp [errW_none, errW_some] <;> rfl) | (simp [*, errW_none, errW_some] <;> rfl), by repeat (first | (with_reducible first | exact HB.out | apply below_alloc | apply pw_below_drewN | apply below_drew1 | refine below_set ?_ (IsS81.ge HI395.out) | refine below_set ?_ GE370.out | refine below_set ?_ GE375.out | refine below_set ?_ GE408.out) | exact HB.out)⟩
                        · rw [if_neg c62] at H
                          have c62b0 : (t372.toList == t416.toList) = false := beq_eq_false_iff_ne.mpr c62
                          have c62b1 : (t372.toList != t416.toList) = true := bne_iff_ne.mpr c62
                          obtain rfl := Option.some.inj H
                          go_wp2_with (first | ((with_reducible refine gate_callee (f := 14) rfl ?_); refine goesL_ (some 81) rfl rfl Try.func14 (by kernel_rfl) rfl #[.string t372] rfl (by (try simp only [List.map_toArray, List.map_cons, List.map_nil]); first | done | rfl | (simp only [List.length_drop, List.length_take]; rfl)) ?_; (with_reducible refine (octet_Read.calls t372 t390 t391 t392 t393 t394 w _ ?side1 A56.out).mono ?_); (case side1 => repeat (first | (with_reducible first | exact HB.out | apply below_alloc | apply pw_below_drewN | apply below_drew1 | refine below_set ?_ GE370.out | refine below_set ?_ GE375.out) | exact HB.out)); rintro e w92 ⟨g395, rfl, hi, hb, hb2⟩; refine ⟨_, rfl, ?_⟩; have n0_ := Aside0.mk (blk_below (g := gb370) (o := .cells #[.int .u8 a0_0, .int .u64 a0_1, .int .u32 a0_2, .int .u32 a0_3, .string a0_4, .string a0_5] 27 (0, 0)) (by (with_reducible repeat (first | refine blk_drewN ?_ _ | refine blk_drew ?_ | refine blk_alloc ?_ _)); exact BK370.out) hb2); have n1_ := Aside0.mk (blk_below (g := gb375) (o := .cells #[.int .i64 t373, .int .i64 t374] 32 (0, 0)) (by (with_reducible repeat (first | refine blk_drewN ?_ _ | refine blk_drew ?_ | refine blk_alloc ?_ _)); exact BK375.out) hb2); have n2_ := Aside0.mk (hb); have n3_ := Aside0.mk (hi); have n4_ := Aside0.mk (IsS81.ne_blk hi (blk_below (g := gb370) (o := .cells #[.int .u8 a0_0, .int .u64 a0_1, .int .u32 a0_2, .int .u32 a0_3, .string a0_4, .string a0_5] 27 (0, 0)) (by (with_reducible repeat (first | refine blk_drewN ?_ _ | refine blk_drew ?_ | refine blk_alloc ?_ _)); exact BK370.out) hb2) (by decide)); have n5_ := Aside0.mk (Ne.symm (IsS81.ne_blk hi (blk_below (g := gb370) (o := .cells #[.int .u8 a0_0, .int .u64 a0_1, .int .u32 a0_2, .int .u32 a0_3, .string a0_4, .string a0_5] 27 (0, 0)) (by (with_reducible repeat (first | refine blk_drewN ?_ _ | refine blk_drew ?_ | refine blk_alloc ?_ _)); exact BK370.out) hb2) (by decide))); have n6_ := Aside0.mk (IsS81.ne_blk hi (blk_below (g := gb375) (o := .cells #[.int .i64 t373, .int .i64 t374] 32 (0, 0)) (by (with_reducible repeat (first | refine blk_drewN ?_ _ | refine blk_drew ?_ | refine blk_alloc ?_ _)); exact BK375.out) hb2) (by decide)); have n7_ := Aside0.mk (Ne.symm (IsS81.ne_blk hi (blk_below (g := gb375) (o := .cells #[.int .i64 t373, .int .i64 t374] 32 (0, 0)) (by (with_reducible repeat (first | refine blk_drewN ?_ _ | refine blk_drew ?_ | refine blk_alloc ?_ _)); exact BK375.out) hb2) (by decide))); clear BK370; clear BK375; clear HB; have BK370 := n0_; have BK375 := n1_; have HB := n2_; have HI395 := n3_; have NB395_370 := n4_; have NB370_395 := n5_; have NB395_375 := n6_; have NB375_395 := n7_; clear n0_ n1_ n2_ n3_ n4_ n5_ n6_ n7_; (try clear hb); (try clear hb2); (try clear hk); (try clear hi)) | ((with_reducible refine gate_callee (f := 13) rfl ?_); refine goesL_ (some 82) rfl rfl Try.func13 (by kernel_rfl) rfl #[.pointer (some ⟨g395, 0, none⟩)] rfl (by (try simp only [List.map_toArray, List.map_cons, List.map_nil]); first | done | rfl | (simp only [List.length_drop, List.length_take]; rfl)) ?_; (with_reducible refine (page_Parse.calls kj37 g395 t390 t391 t392 t393 t394 t396 t397 t398 t399 t400 t401 t402 t403 t404 t405 t406 t407 w _ ?side1 ?side2 A57.out).mono ?_); (case side1 => repeat (first | (with_reducible first | exact HI395.out | apply IsS81.alloc | apply IsS81.drewN | apply IsS81.drew | apply IsS81.set_0 | apply IsS81.set_1 | apply IsS81.set_2 | apply IsS81.set_3 | apply IsS81.set_4 | refine IsS81.far ?_ NB395_370.out _ | refine IsS81.far ?_ NB395_375.out _) | exact HI395.out)); (case side2 => repeat (first | (with_reducible first | exact HB.out | apply below_alloc | apply pw_below_drewN | apply below_drew1 | refine below_set ?_ (IsS81.ge HI395.out) | refine below_set ?_ GE370.out | refine below_set ?_ GE375.out) | exact HB.out)); rintro e w93 ⟨rfl, hi, hb, hk⟩; refine ⟨_, rfl, ?_⟩; have n0_ := Aside0.mk (KeepBut.blk hk (g' := gb370) (o := .cells #[.int .u8 a0_0, .int .u64 a0_1, .int .u32 a0_2, .int .u32 a0_3, .string a0_4, .string a0_5] 27 (0, 0)) (by (with_reducible repeat (first | refine blk_drewN ?_ _ | refine blk_drew ?_ | refine blk_alloc ?_ _)); exact BK370.out) NB370_395.out (by simp)); have n1_ := Aside0.mk (KeepBut.blk hk (g' := gb375) (o := .cells #[.int .i64 t373, .int .i64 t374] 32 (0, 0)) (by (with_reducible repeat (first | refine blk_drewN ?_ _ | refine blk_drew ?_ | refine blk_alloc ?_ _)); exact BK375.out) NB375_395.out (by simp)); have n2_ := Aside0.mk (hb); have n3_ := Aside0.mk (hi); clear BK370; clear BK375; clear HB; clear HI395; have BK370 := n0_; have BK375 := n1_; have HB := n2_; have HI395 := n3_; clear n0_ n1_ n2_ n3_; (try clear hb); (try clear hb2); (try clear hk); (try clear hi)) | ((with_reducible refine gate_dst (N := 9) rfl ?_); (try (refine gate_guard (by rfl) ?_; dsimp only)); refine box_event ?hg (N := 9) ?hd (cs := #[.int .u8 0, .int .u64 0, .int .u32 0, .int .u32 0, .string (⟨#[]⟩ : ByteArray), .string (⟨#[]⟩ : ByteArray)]) (t := 27) ?hr ?_; (case hd => rfl); (case hg => rfl); (case hr => first | (go_simp; done) | (go_simp; rfl)); intro gb408 hg w94 hbox hb; have n0_ := Aside0.mk (blk_below (g := gb370) (o := .cells #[.int .u8 a0_0, .int .u64 a0_1, .int .u32 a0_2, .int .u32 a0_3, .string a0_4, .string a0_5] 27 (0, 0)) (by (with_reducible repeat (first | refine blk_drewN ?_ _ | refine blk_drew ?_ | refine blk_alloc ?_ _)); exact BK370.out) hb); have n1_ := Aside0.mk (blk_below (g := gb375) (o := .cells #[.int .i64 t373, .int .i64 t374] 32 (0, 0)) (by (with_reducible repeat (first | refine blk_drewN ?_ _ | refine blk_drew ?_ | refine blk_alloc ?_ _)); exact BK375.out) hb); have n2_ := Aside0.mk (IsS81.below (by repeat (first | (with_reducible first | exact HI395.out | apply IsS81.alloc | apply IsS81.drewN | apply IsS81.drew | apply IsS81.set_0 | apply IsS81.set_1 | apply IsS81.set_2 | apply IsS81.set_3 | apply IsS81.set_4 | refine IsS81.far ?_ NB395_370.out _ | refine IsS81.far ?_ NB395_375.out _) | exact HI395.out)) hb); have n3_ := Aside0.mk (below_step (by repeat (first | (with_reducible first | exact HB.out | apply below_alloc | apply pw_below_drewN | apply below_drew1 | refine below_set ?_ (IsS81.ge HI395.out) | refine below_set ?_ GE370.out | refine below_set ?_ GE375.out) | exact HB.out)) hb); have n4_ := Aside0.mk (hbox); have n5_ := Aside0.mk ((by rw [hg]; exact (below_size (by repeat (first | (with_reducible first | exact HB.out | apply below_alloc | apply pw_below_drewN | apply below_drew1 | refine below_set ?_ (IsS81.ge HI395.out) | refine below_set ?_ GE370.out | refine below_set ?_ GE375.out) | exact HB.out))) : w.heap.size ≤ gb408)); have n6_ := Aside0.mk ((by rw [hg]; exact (below_size (by repeat (first | (with_reducible first | exact HB.out | apply below_alloc | apply pw_below_drewN | apply below_drew1 | refine below_set ?_ (IsS81.ge HI395.out) | refine below_set ?_ GE370.out | refine below_set ?_ GE375.out) | exact HB.out))) : w.heap.size ≤ gb408)); have n7_ := Aside0.mk ((by rw [hg]; exact Nat.ne_of_lt (blk_lt (g := gb370) (o := .cells #[.int .u8 a0_0, .int .u64 a0_1, .int .u32 a0_2, .int .u32 a0_3, .string a0_4, .string a0_5] 27 (0, 0)) (by (with_reducible repeat (first | refine blk_drewN ?_ _ | refine blk_drew ?_ | refine blk_alloc ?_ _)); exact BK370.out)) : gb370 ≠ gb408)); have n8_ := Aside0.mk ((by rw [hg]; exact Nat.ne_of_gt (blk_lt (g := gb370) (o := .cells #[.int .u8 a0_0, .int .u64 a0_1, .int .u32 a0_2, .int .u32 a0_3, .string a0_4, .string a0_5] 27 (0, 0)) (by (with_reducible repeat (first | refine blk_drewN ?_ _ | refine blk_drew ?_ | refine blk_alloc ?_ _)); exact BK370.out)) : gb408 ≠ gb370)); have n9_ := Aside0.mk ((by rw [hg]; exact Nat.ne_of_lt (blk_lt (g := gb375) (o := .cells #[.int .i64 t373, .int .i64 t374] 32 (0, 0)) (by (with_reducible repeat (first | refine blk_drewN ?_ _ | refine blk_drew ?_ | refine blk_alloc ?_ _)); exact BK375.out)) : gb375 ≠ gb408)); have n10_ := Aside0.mk ((by rw [hg]; exact Nat.ne_of_gt (blk_lt (g := gb375) (o := .cells #[.int .i64 t373, .int .i64 t374] 32 (0, 0)) (by (with_reducible repeat (first | refine blk_drewN ?_ _ | refine blk_drew ?_ | refine blk_alloc ?_ _)); exact BK375.out)) : gb408 ≠ gb375)); have n11_ := Aside0.mk ((by rw [hg]; exact Nat.ne_of_lt (IsS81.lt (show IsS81 w _ g395 t403 t404 t405 t406 t407 from by repeat (first | (with_reducible first | exact HI395.out | apply IsS81.alloc | apply IsS81.drewN | apply IsS81.drew | apply IsS81.set_0 | apply IsS81.set_1 | apply IsS81.set_2 | apply IsS81.set_3 | apply IsS81.set_4 | refine IsS81.far ?_ NB395_370.out _ | refine IsS81.far ?_ NB395_375.out _) | exact HI395.out))) : g395 ≠ gb408)); have n12_ := Aside0.mk ((by rw [hg]; exact Nat.ne_of_gt (IsS81.lt (show IsS81 w _ g395 t403 t404 t405 t406 t407 from by repeat (first | (with_reducible first | exact HI395.out | apply IsS81.alloc | apply IsS81.drewN | apply IsS81.drew | apply IsS81.set_0 | apply IsS81.set_1 | apply IsS81.set_2 | apply IsS81.set_3 | apply IsS81.set_4 | refine IsS81.far ?_ NB395_370.out _ | refine IsS81.far ?_ NB395_375.out _) | exact HI395.out))) : gb408 ≠ g395)); clear BK370; clear BK375; clear HI395; clear HB; have BK370 := n0_; have BK375 := n1_; have HI395 := n2_; have HB := n3_; have BK408 := n4_; have GW408 := n5_; have GE408 := n6_; have NB370_408 := n7_; have NB408_370 := n8_; have NB375_408 := n9_; have NB408_375 := n10_; have NB395_408 := n11_; have NB408_395 := n12_; clear n0_ n1_ n2_ n3_ n4_ n5_ n6_ n7_ n8_ n9_ n10_ n11_ n12_; clear hb hbox hg; have hnb95 := NB408_370.out; have hnc95 := NB370_408.out; have hnb96 := NB408_375.out; have hnc96 := NB375_408.out; have hnb97 := NB408_395.out; have hnc97 := NB395_408.out; have hcz98_0 : w94.cell? ⟨gb408, 0, none⟩ = some (.int .u8 0) := (blk_cell BK408.out 0).trans rfl; have hcz98_1 : w94.cell? ⟨gb408, 1, none⟩ = some (.int .u64 0) := (blk_cell BK408.out 1).trans rfl; have hcz98_2 : w94.cell? ⟨gb408, 2, none⟩ = some (.int .u32 0) := (blk_cell BK408.out 2).trans rfl; have hcz98_3 : w94.cell? ⟨gb408, 3, none⟩ = some (.int .u32 0) := (blk_cell BK408.out 3).trans rfl; have hcz98_4 : w94.cell? ⟨gb408, 4, none⟩ = some (.string (⟨#[]⟩ : ByteArray)) := (blk_cell BK408.out 4).trans rfl; have hcz98_5 : w94.cell? ⟨gb408, 5, none⟩ = some (.string (⟨#[]⟩ : ByteArray)) := (blk_cell BK408.out 5).trans rfl; have hfz98_0 := blk_frozen BK408.out 0; have hfz98_1 := blk_frozen BK408.out 1; have hfz98_2 := blk_frozen BK408.out 2; have hfz98_3 := blk_frozen BK408.out 3; have hfz98_4 := blk_frozen BK408.out 4; have hfz98_5 := blk_frozen BK408.out 5) | ((with_reducible refine gate_callee (f := 10) rfl ?_); refine goesL_ (some 85) rfl rfl Try.func10 (by kernel_rfl) rfl #[] rfl (by (try simp only [List.map_toArray, List.map_cons, List.map_nil]); first | done | rfl | (simp only [List.length_drop, List.length_take]; rfl)) ?_; (with_reducible refine (diacriticlaw17_awake.calls kj37  true _ A58.out).mono ?_); rintro e w99 ⟨rfl, hb⟩; refine ⟨_, rfl, ?_⟩; have n0_ := Aside0.mk (blk_below (g := gb370) (o := .cells #[.int .u8 a0_0, .int .u64 a0_1, .int .u32 a0_2, .int .u32 a0_3, .string a0_4, .string a0_5] 27 (0, 0)) (by (with_reducible repeat (first | refine blk_drewN ?_ _ | refine blk_drew ?_ | refine blk_alloc ?_ _)); refine blk_far ?_ NB370_408.out _; (with_reducible repeat (first | refine blk_drewN ?_ _ | refine blk_drew ?_ | refine blk_alloc ?_ _)); refine blk_far ?_ NB370_408.out _; (with_reducible repeat (first | refine blk_drewN ?_ _ | refine blk_drew ?_ | refine blk_alloc ?_ _)); refine blk_far ?_ NB370_408.out _; (with_reducible repeat (first | refine blk_drewN ?_ _ | refine blk_drew ?_ | refine blk_alloc ?_ _)); refine blk_far ?_ NB370_408.out _; (with_reducible repeat (first | refine blk_drewN ?_ _ | refine blk_drew ?_ | refine blk_alloc ?_ _)); refine blk_far ?_ NB370_408.out _; (with_reducible repeat (first | refine blk_drewN ?_ _ | refine blk_drew ?_ | refine blk_alloc ?_ _)); refine blk_far ?_ NB370_408.out _; (with_reducible repeat (first | refine blk_drewN ?_ _ | refine blk_drew ?_ | refine blk_alloc ?_ _)); exact BK370.out) hb); have n1_ := Aside0.mk (blk_below (g := gb375) (o := .cells #[.int .i64 t373, .int .i64 t374] 32 (0, 0)) (by (with_reducible repeat (first | refine blk_drewN ?_ _ | refine blk_drew ?_ | refine blk_alloc ?_ _)); refine blk_far ?_ NB375_408.out _; (with_reducible repeat (first | refine blk_drewN ?_ _ | refine blk_drew ?_ | refine blk_alloc ?_ _)); refine blk_far ?_ NB375_408.out _; (with_reducible repeat (first | refine blk_drewN ?_ _ | refine blk_drew ?_ | refine blk_alloc ?_ _)); refine blk_far ?_ NB375_408.out _; (with_reducible repeat (first | refine blk_drewN ?_ _ | refine blk_drew ?_ | refine blk_alloc ?_ _)); refine blk_far ?_ NB375_408.out _; (with_reducible repeat (first | refine blk_drewN ?_ _ | refine blk_drew ?_ | refine blk_alloc ?_ _)); refine blk_far ?_ NB375_408.out _; (with_reducible repeat (first | refine blk_drewN ?_ _ | refine blk_drew ?_ | refine blk_alloc ?_ _)); refine blk_far ?_ NB375_408.out _; (with_reducible repeat (first | refine blk_drewN ?_ _ | refine blk_drew ?_ | refine blk_alloc ?_ _)); exact BK375.out) hb); have n2_ := Aside0.mk (IsS81.below (show IsS81 w ((((((w94.setCell ⟨gb408, 0, none⟩ (.int .u8 t396)).setCell ⟨gb408, 1, none⟩ (.int .u64 t397)).setCell ⟨gb408, 2, none⟩ (.int .u32 t398)).setCell ⟨gb408, 3, none⟩ (.int .u32 t399)).setCell ⟨gb408, 4, none⟩ (.string t400)).setCell ⟨gb408, 5, none⟩ (.string t401)) g395 t403 t404 t405 t406 t407 from by repeat (first | (with_reducible first | exact HI395.out | apply IsS81.alloc | apply IsS81.drewN | apply IsS81.drew | apply IsS81.set_0 | apply IsS81.set_1 | apply IsS81.set_2 | apply IsS81.set_3 | apply IsS81.set_4 | refine IsS81.far ?_ NB395_370.out _ | refine IsS81.far ?_ NB395_375.out _ | refine IsS81.far ?_ NB395_408.out _) | exact HI395.out)) hb); have n3_ := Aside0.mk (blk_below (g := gb408) (o := .cells #[.int .u8 t396, .int .u64 t397, .int .u32 t398, .int .u32 t399, .string t400, .string t401] 27 (0, 0)) (by (with_reducible repeat (first | refine blk_drewN ?_ _ | refine blk_drew ?_ | refine blk_alloc ?_ _)); refine blk_put (cs := #[.int .u8 t396, .int .u64 t397, .int .u32 t398, .int .u32 t399, .string t400, .string (⟨#[]⟩ : ByteArray)]) ?_ 5 _ rfl; (with_reducible repeat (first | refine blk_drewN ?_ _ | refine blk_drew ?_ | refine blk_alloc ?_ _)); refine blk_put (cs := #[.int .u8 t396, .int .u64 t397, .int .u32 t398, .int .u32 t399, .string (⟨#[]⟩ : ByteArray), .string (⟨#[]⟩ : ByteArray)]) ?_ 4 _ rfl; (with_reducible repeat (first | refine blk_drewN ?_ _ | refine blk_drew ?_ | refine blk_alloc ?_ _)); refine blk_put (cs := #[.int .u8 t396, .int .u64 t397, .int .u32 t398, .int .u32 0, .string (⟨#[]⟩ : ByteArray), .string (⟨#[]⟩ : ByteArray)]) ?_ 3 _ rfl; (with_reducible repeat (first | refine blk_drewN ?_ _ | refine blk_drew ?_ | refine blk_alloc ?_ _)); refine blk_put (cs := #[.int .u8 t396, .int .u64 t397, .int .u32 0, .int .u32 0, .string (⟨#[]⟩ : ByteArray), .string (⟨#[]⟩ : ByteArray)]) ?_ 2 _ rfl; (with_reducible repeat (first | refine blk_drewN ?_ _ | refine blk_drew ?_ | refine blk_alloc ?_ _)); refine blk_put (cs := #[.int .u8 t396, .int .u64 0, .int .u32 0, .int .u32 0, .string (⟨#[]⟩ : ByteArray), .string (⟨#[]⟩ : ByteArray)]) ?_ 1 _ rfl; (with_reducible repeat (first | refine blk_drewN ?_ _ | refine blk_drew ?_ | refine blk_alloc ?_ _)); refine blk_put (cs := #[.int .u8 0, .int .u64 0, .int .u32 0, .int .u32 0, .string (⟨#[]⟩ : ByteArray), .string (⟨#[]⟩ : ByteArray)]) ?_ 0 _ rfl; (with_reducible repeat (first | refine blk_drewN ?_ _ | refine blk_drew ?_ | refine blk_alloc ?_ _)); exact BK408.out) hb); have n4_ := Aside0.mk (below_step (by repeat (first | (with_reducible first | exact HB.out | apply below_alloc | apply pw_below_drewN | apply below_drew1 | refine below_set ?_ (IsS81.ge HI395.out) | refine below_set ?_ GE370.out | refine below_set ?_ GE375.out | refine below_set ?_ GE408.out) | exact HB.out)) hb); clear BK370; clear BK375; clear HI395; clear BK408; clear HB; have BK370 := n0_; have BK375 := n1_; have HI395 := n2_; have BK408 := n3_; have HB := n4_; clear n0_ n1_ n2_ n3_ n4_; (try clear hb); (try clear hb2); (try clear hk); (try clear hi); have hnb100 := NB370_375.out; have hnc100 := NB375_370.out; have hnb101 := NB370_395.out; have hnc101 := NB395_370.out; have hcz102_0 : w99.cell? ⟨gb370, 0, none⟩ = some (.int .u8 a0_0) := (blk_cell BK370.out 0).trans rfl; have hcz102_1 : w99.cell? ⟨gb370, 1, none⟩ = some (.int .u64 a0_1) := (blk_cell BK370.out 1).trans rfl; have hcz102_2 : w99.cell? ⟨gb370, 2, none⟩ = some (.int .u32 a0_2) := (blk_cell BK370.out 2).trans rfl; have hcz102_3 : w99.cell? ⟨gb370, 3, none⟩ = some (.int .u32 a0_3) := (blk_cell BK370.out 3).trans rfl; have hcz102_4 : w99.cell? ⟨gb370, 4, none⟩ = some (.string a0_4) := (blk_cell BK370.out 4).trans rfl; have hcz102_5 : w99.cell? ⟨gb370, 5, none⟩ = some (.string a0_5) := (blk_cell BK370.out 5).trans rfl; have hfz102_0 := blk_frozen BK370.out 0; have hfz102_1 := blk_frozen BK370.out 1; have hfz102_2 := blk_frozen BK370.out 2; have hfz102_3 := blk_frozen BK370.out 3; have hfz102_4 := blk_frozen BK370.out 4; have hfz102_5 := blk_frozen BK370.out 5) | (go_at_call 16; (with_reducible refine (diacriticlaw17_Of.calls a0_0 a0_1 a0_2 a0_3 a0_4 a0_5 t410 t411 t412 t413 t414 t415 _ A60.out).mono ?_); rintro e w103 ⟨rfl, hb⟩; have n0_ := Aside0.mk (blk_below (g := gb370) (o := .cells #[.int .u8 a0_0, .int .u64 a0_1, .int .u32 a0_2, .int .u32 a0_3, .string a0_4, .string a0_5] 27 (0, 0)) (by (with_reducible repeat (first | refine blk_drewN ?_ _ | refine blk_drew ?_ | refine blk_alloc ?_ _)); exact BK370.out) hb); have n1_ := Aside0.mk (blk_below (g := gb375) (o := .cells #[.int .i64 t373, .int .i64 t374] 32 (0, 0)) (by (with_reducible repeat (first | refine blk_drewN ?_ _ | refine blk_drew ?_ | refine blk_alloc ?_ _)); exact BK375.out) hb); have n2_ := Aside0.mk (IsS81.below (by repeat (first | (with_reducible first | exact HI395.out | apply IsS81.alloc | apply IsS81.drewN | apply IsS81.drew | apply IsS81.set_0 | apply IsS81.set_1 | apply IsS81.set_2 | apply IsS81.set_3 | apply IsS81.set_4 | refine IsS81.far ?_ NB395_370.out _ | refine IsS81.far ?_ NB395_375.out _ | refine IsS81.far ?_ NB395_408.out _) | exact HI395.out)) hb); have n3_ := Aside0.mk (blk_below (g := gb408) (o := .cells #[.int .u8 t396, .int .u64 t397, .int .u32 t398, .int .u32 t399, .string t400, .string t401] 27 (0, 0)) (by (with_reducible repeat (first | refine blk_drewN ?_ _ | refine blk_drew ?_ | refine blk_alloc ?_ _)); exact BK408.out) hb); have n4_ := Aside0.mk (below_step (by repeat (first | (with_reducible first | exact HB.out | apply below_alloc | apply pw_below_drewN | apply below_drew1 | refine below_set ?_ (IsS81.ge HI395.out) | refine below_set ?_ GE370.out | refine below_set ?_ GE375.out | refine below_set ?_ GE408.out) | exact HB.out)) hb); clear BK370; clear BK375; clear HI395; clear BK408; clear HB; have BK370 := n0_; have BK375 := n1_; have HI395 := n2_; have BK408 := n3_; have HB := n4_; clear n0_ n1_ n2_ n3_ n4_; (try clear hb); (try clear hb2); (try clear hk); (try clear hi)) | (go_at_call 21; (with_reducible refine (diacriticref17_Print.calls kj37 t410 t411 t412 t413 t414 t415 t416 _ A61.out).mono ?_); rintro e w104 ⟨rfl, hb⟩; have n0_ := Aside0.mk (blk_below (g := gb370) (o := .cells #[.int .u8 a0_0, .int .u64 a0_1, .int .u32 a0_2, .int .u32 a0_3, .string a0_4, .string a0_5] 27 (0, 0)) (by (with_reducible repeat (first | refine blk_drewN ?_ _ | refine blk_drew ?_ | refine blk_alloc ?_ _)); exact BK370.out) hb); have n1_ := Aside0.mk (blk_below (g := gb375) (o := .cells #[.int .i64 t373, .int .i64 t374] 32 (0, 0)) (by (with_reducible repeat (first | refine blk_drewN ?_ _ | refine blk_drew ?_ | refine blk_alloc ?_ _)); exact BK375.out) hb); have n2_ := Aside0.mk (IsS81.below (by repeat (first | (with_reducible first | exact HI395.out | apply IsS81.alloc | apply IsS81.drewN | apply IsS81.drew | apply IsS81.set_0 | apply IsS81.set_1 | apply IsS81.set_2 | apply IsS81.set_3 | apply IsS81.set_4 | refine IsS81.far ?_ NB395_370.out _ | refine IsS81.far ?_ NB395_375.out _ | refine IsS81.far ?_ NB395_408.out _) | exact HI395.out)) hb); have n3_ := Aside0.mk (blk_below (g := gb408) (o := .cells #[.int .u8 t396, .int .u64 t397, .int .u32 t398, .int .u32 t399, .string t400, .string t401] 27 (0, 0)) (by (with_reducible repeat (first | refine blk_drewN ?_ _ | refine blk_drew ?_ | refine blk_alloc ?_ _)); exact BK408.out) hb); have n4_ := Aside0.mk (below_step (by repeat (first | (with_reducible first | exact HB.out | apply below_alloc | apply pw_below_drewN | apply below_drew1 | refine below_set ?_ (IsS81.ge HI395.out) | refine below_set ?_ GE370.out | refine below_set ?_ GE375.out | refine below_set ?_ GE408.out) | exact HB.out)) hb); clear BK370; clear BK375; clear HI395; clear BK408; clear HB; have BK370 := n0_; have BK375 := n1_; have HI395 := n2_; have BK408 := n3_; have HB := n4_; clear n0_ n1_ n2_ n3_ n4_; (try clear hb); (try clear hb2); (try clear hk); (try clear hi)))
                          go_ret
                          exact ⟨by first | rfl | (simp [errW_none, errW_some] <;> rfl) | (simp [*, errW_none, errW_some] <;> rfl), by repeat (first | (with_reducible first | exact HB.out | apply below_alloc | apply pw_below_drewN | apply below_drew1 | refine below_set ?_ (IsS81.ge HI395.out) | refine below_set ?_ GE370.out | refine below_set ?_ GE375.out | refine below_set ?_ GE408.out) | exact HB.out)⟩
                      · replace c59 := Bool.eq_false_iff.mpr c59
                        subst c59
                        have H1 : (some false) = some r := by rw [if_neg (show ¬ (false = true) by decide)] at H; exact H
                        clear H
                        have H := H1
                        clear H1
                        obtain rfl := Option.some.inj H
                        go_wp2_with (first | ((with_reducible refine gate_callee (f := 14) rfl ?_); refine goesL_ (some 81) rfl rfl Try.func14 (by kernel_rfl) rfl #[.string t372] rfl (by (try simp only [List.map_toArray, List.map_cons, List.map_nil]); first | done | rfl | (simp only [List.length_drop, List.length_take]; rfl)) ?_; (with_reducible refine (octet_Read.calls t372 t390 t391 t392 t393 t394 w _ ?side1 A56.out).mono ?_); (case side1 => repeat (first | (with_reducible first | exact HB.out | apply below_alloc | apply pw_below_drewN | apply below_drew1 | refine below_set ?_ GE370.out | refine below_set ?_ GE375.out) | exact HB.out)); rintro e w105 ⟨g395, rfl, hi, hb, hb2⟩; refine ⟨_, rfl, ?_⟩; have n0_ := Aside0.mk (blk_below (g := gb370) (o := .cells #[.int .u8 a0_0, .int .u64 a0_1, .int .u32 a0_2, .int .u32 a0_3, .string a0_4, .string a0_5] 27 (0, 0)) (by (with_reducible repeat (first | refine blk_drewN ?_ _ | refine blk_drew ?_ | refine blk_alloc ?_ _)); exact BK370.out) hb2); have n1_ := Aside0.mk (blk_below (g := gb375) (o := .cells #[.int .i64 t373, .int .i64 t374] 32 (0, 0)) (by (with_reducible repeat (first | refine blk_drewN ?_ _ | refine blk_drew ?_ | refine blk_alloc ?_ _)); exact BK375.out) hb2); have n2_ := Aside0.mk (hb); have n3_ := Aside0.mk (hi); have n4_ := Aside0.mk (IsS81.ne_blk hi (blk_below (g := gb370) (o := .cells #[.int .u8 a0_0, .int .u64 a0_1, .int .u32 a0_2, .int .u32 a0_3, .string a0_4, .string a0_5] 27 (0, 0)) (by (with_reducible repeat (first | refine blk_drewN ?_ _ | refine blk_drew ?_ | refine blk_alloc ?_ _)); exact BK370.out) hb2) (by decide)); have n5_ := Aside0.mk (Ne.symm (IsS81.ne_blk hi (blk_below (g := gb370) (o := .cells #[.int .u8 a0_0, .int .u64 a0_1, .int .u32 a0_2, .int .u32 a0_3, .string a0_4, .string a0_5] 27 (0, 0)) (by (with_reducible repeat (first | refine blk_drewN ?_ _ | refine blk_drew ?_ | refine blk_alloc ?_ _)); exact BK370.out) hb2) (by decide))); have n6_ := Aside0.mk (IsS81.ne_blk hi (blk_below (g := gb375) (o := .cells #[.int .i64 t373, .int .i64 t374] 32 (0, 0)) (by (with_reducible repeat (first | refine blk_drewN ?_ _ | refine blk_drew ?_ | refine blk_alloc ?_ _)); exact BK375.out) hb2) (by decide)); have n7_ := Aside0.mk (Ne.symm (IsS81.ne_blk hi (blk_below (g := gb375) (o := .cells #[.int .i64 t373, .int .i64 t374] 32 (0, 0)) (by (with_reducible repeat (first | refine blk_drewN ?_ _ | refine blk_drew ?_ | refine blk_alloc ?_ _)); exact BK375.out) hb2) (by decide))); clear BK370; clear BK375; clear HB; have BK370 := n0_; have BK375 := n1_; have HB := n2_; have HI395 := n3_; have NB395_370 := n4_; have NB370_395 := n5_; have NB395_375 := n6_; have NB375_395 := n7_; clear n0_ n1_ n2_ n3_ n4_ n5_ n6_ n7_; (try clear hb); (try clear hb2); (try clear hk); (try clear hi)) | ((with_reducible refine gate_callee (f := 13) rfl ?_); refine goesL_ (some 82) rfl rfl Try.func13 (by kernel_rfl) rfl #[.pointer (some ⟨g395, 0, none⟩)] rfl (by (try simp only [List.map_toArray, List.map_cons, List.map_nil]); first | done | rfl | (simp only [List.length_drop, List.length_take]; rfl)) ?_; (with_reducible refine (page_Parse.calls kj37 g395 t390 t391 t392 t393 t394 t396 t397 t398 t399 t400 t401 t402 t403 t404 t405 t406 t407 w _ ?side1 ?side2 A57.out).mono ?_); (case side1 => repeat (first | (with_reducible first | exact HI395.out | apply IsS81.alloc | apply IsS81.drewN | apply IsS81.drew | apply IsS81.set_0 | apply IsS81.set_1 | apply IsS81.set_2 | apply IsS81.set_3 | apply IsS81.set_4 | refine IsS81.far ?_ NB395_370.out _ | refine IsS81.far ?_ NB395_375.out _) | exact HI395.out)); (case side2 => repeat (first | (with_reducible first | exact HB.out | apply below_alloc | apply pw_below_drewN | apply below_drew1 | refine below_set ?_ (IsS81.ge HI395.out) | refine below_set ?_ GE370.out | refine below_set ?_ GE375.out) | exact HB.out)); rintro e w106 ⟨rfl, hi, hb, hk⟩; refine ⟨_, rfl, ?_⟩; have n0_ := Aside0.mk (KeepBut.blk hk (g' := gb370) (o := .cells #[.int .u8 a0_0, .int .u64 a0_1, .int .u32 a0_2, .int .u32 a0_3, .string a0_4, .string a0_5] 27 (0, 0)) (by (with_reducible repeat (first | refine blk_drewN ?_ _ | refine blk_drew ?_ | refine blk_alloc ?_ _)); exact BK370.out) NB370_395.out (by simp)); have n1_ := Aside0.mk (KeepBut.blk hk (g' := gb375) (o := .cells #[.int .i64 t373, .int .i64 t374] 32 (0, 0)) (by (with_reducible repeat (first | refine blk_drewN ?_ _ | refine blk_drew ?_ | refine blk_alloc ?_ _)); exact BK375.out) NB375_395.out (by simp)); have n2_ := Aside0.mk (hb); have n3_ := Aside0.mk (hi); clear BK370; clear BK375; clear HB; clear HI395; have BK370 := n0_; have BK375 := n1_; have HB := n2_; have HI395 := n3_; clear n0_ n1_ n2_ n3_; (try clear hb); (try clear hb2); (try clear hk); (try clear hi)) | ((with_reducible refine gate_dst (N := 9) rfl ?_); (try (refine gate_guard (by rfl) ?_; dsimp only)); refine box_event ?hg (N := 9) ?hd (cs := #[.int .u8 0, .int .u64 0, .int .u32 0, .int .u32 0, .string (⟨#[]⟩ : ByteArray), .string (⟨#[]⟩ : ByteArray)]) (t := 27) ?hr ?_; (case hd => rfl); (case hg => rfl); (case hr => first | (go_simp; done) | (go_simp; rfl)); intro gb408 hg w107 hbox hb; have n0_ := Aside0.mk (blk_below (g := gb370) (o := .cells #[.int .u8 a0_0, .int .u64 a0_1, .int .u32 a0_2, .int .u32 a0_3, .string a0_4, .string a0_5] 27 (0, 0)) (by (with_reducible repeat (first | refine blk_drewN ?_ _ | refine blk_drew ?_ | refine blk_alloc ?_ _)); exact BK370.out) hb); have n1_ := Aside0.mk (blk_below (g := gb375) (o := .cells #[.int .i64 t373, .int .i64 t374] 32 (0, 0)) (by (with_reducible repeat (first | refine blk_drewN ?_ _ | refine blk_drew ?_ | refine blk_alloc ?_ _)); exact BK375.out) hb); have n2_ := Aside0.mk (IsS81.below (by repeat (first | (with_reducible first | exact HI395.out | apply IsS81.alloc | apply IsS81.drewN | apply IsS81.drew | apply IsS81.set_0 | apply IsS81.set_1 | apply IsS81.set_2 | apply IsS81.set_3 | apply IsS81.set_4 | refine IsS81.far ?_ NB395_370.out _ | refine IsS81.far ?_ NB395_375.out _) | exact HI395.out)) hb); have n3_ := Aside0.mk (below_step (by repeat (first | (with_reducible first | exact HB.out | apply below_alloc | apply pw_below_drewN | apply below_drew1 | refine below_set ?_ (IsS81.ge HI395.out) | refine below_set ?_ GE370.out | refine below_set ?_ GE375.out) | exact HB.out)) hb); have n4_ := Aside0.mk (hbox); have n5_ := Aside0.mk ((by rw [hg]; exact (below_size (by repeat (first | (with_reducible first | exact HB.out | apply below_alloc | apply pw_below_drewN | apply below_drew1 | refine below_set ?_ (IsS81.ge HI395.out) | refine below_set ?_ GE370.out | refine below_set ?_ GE375.out) | exact HB.out))) : w.heap.size ≤ gb408)); have n6_ := Aside0.mk ((by rw [hg]; exact (below_size (by repeat (first | (with_reducible first | exact HB.out | apply below_alloc | apply pw_below_drewN | apply below_drew1 | refine below_set ?_ (IsS81.ge HI395.out) | refine below_set ?_ GE370.out | refine below_set ?_ GE375.out) | exact HB.out))) : w.heap.size ≤ gb408)); have n7_ := Aside0.mk ((by rw [hg]; exact Nat.ne_of_lt (blk_lt (g := gb370) (o := .cells #[.int .u8 a0_0, .int .u64 a0_1, .int .u32 a0_2, .int .u32 a0_3, .string a0_4, .string a0_5] 27 (0, 0)) (by (with_reducible repeat (first | refine blk_drewN ?_ _ | refine blk_drew ?_ | refine blk_alloc ?_ _)); exact BK370.out)) : gb370 ≠ gb408)); have n8_ := Aside0.mk ((by rw [hg]; exact Nat.ne_of_gt (blk_lt (g := gb370) (o := .cells #[.int .u8 a0_0, .int .u64 a0_1, .int .u32 a0_2, .int .u32 a0_3, .string a0_4, .string a0_5] 27 (0, 0)) (by (with_reducible repeat (first | refine blk_drewN ?_ _ | refine blk_drew ?_ | refine blk_alloc ?_ _)); exact BK370.out)) : gb408 ≠ gb370)); have n9_ := Aside0.mk ((by rw [hg]; exact Nat.ne_of_lt (blk_lt (g := gb375) (o := .cells #[.int .i64 t373, .int .i64 t374] 32 (0, 0)) (by (with_reducible repeat (first | refine blk_drewN ?_ _ | refine blk_drew ?_ | refine blk_alloc ?_ _)); exact BK375.out)) : gb375 ≠ gb408)); have n10_ := Aside0.mk ((by rw [hg]; exact Nat.ne_of_gt (blk_lt (g := gb375) (o := .cells #[.int .i64 t373, .int .i64 t374] 32 (0, 0)) (by (with_reducible repeat (first | refine blk_drewN ?_ _ | refine blk_drew ?_ | refine blk_alloc ?_ _)); exact BK375.out)) : gb408 ≠ gb375)); have n11_ := Aside0.mk ((by rw [hg]; exact Nat.ne_of_lt (IsS81.lt (show IsS81 w _ g395 t403 t404 t405 t406 t407 from by repeat (first | (with_reducible first | exact HI395.out | apply IsS81.alloc | apply IsS81.drewN | apply IsS81.drew | apply IsS81.set_0 | apply IsS81.set_1 | apply IsS81.set_2 | apply IsS81.set_3 | apply IsS81.set_4 | refine IsS81.far ?_ NB395_370.out _ | refine IsS81.far ?_ NB395_375.out _) | exact HI395.out))) : g395 ≠ gb408)); have n12_ := Aside0.mk ((by rw [hg]; exact Nat.ne_of_gt (IsS81.lt (show IsS81 w _ g395 t403 t404 t405 t406 t407 from by repeat (first | (with_reducible first | exact HI395.out | apply IsS81.alloc | apply IsS81.drewN | apply IsS81.drew | apply IsS81.set_0 | apply IsS81.set_1 | apply IsS81.set_2 | apply IsS81.set_3 | apply IsS81.set_4 | refine IsS81.far ?_ NB395_370.out _ | refine IsS81.far ?_ NB395_375.out _) | exact HI395.out))) : gb408 ≠ g395)); clear BK370; clear BK375; clear HI395; clear HB; have BK370 := n0_; have BK375 := n1_; have HI395 := n2_; have HB := n3_; have BK408 := n4_; have GW408 := n5_; have GE408 := n6_; have NB370_408 := n7_; have NB408_370 := n8_; have NB375_408 := n9_; have NB408_375 := n10_; have NB395_408 := n11_; have NB408_395 := n12_; clear n0_ n1_ n2_ n3_ n4_ n5_ n6_ n7_ n8_ n9_ n10_ n11_ n12_; clear hb hbox hg; have hnb108 := NB408_370.out; have hnc108 := NB370_408.out; have hnb109 := NB408_375.out; have hnc109 := NB375_408.out; have hnb110 := NB408_395.out; have hnc110 := NB395_408.out; have hcz111_0 : w107.cell? ⟨gb408, 0, none⟩ = some (.int .u8 0) := (blk_cell BK408.out 0).trans rfl; have hcz111_1 : w107.cell? ⟨gb408, 1, none⟩ = some (.int .u64 0) := (blk_cell BK408.out 1).trans rfl; have hcz111_2 : w107.cell? ⟨gb408, 2, none⟩ = some (.int .u32 0) := (blk_cell BK408.out 2).trans rfl; have hcz111_3 : w107.cell? ⟨gb408, 3, none⟩ = some (.int .u32 0) := (blk_cell BK408.out 3).trans rfl; have hcz111_4 : w107.cell? ⟨gb408, 4, none⟩ = some (.string (⟨#[]⟩ : ByteArray)) := (blk_cell BK408.out 4).trans rfl; have hcz111_5 : w107.cell? ⟨gb408, 5, none⟩ = some (.string (⟨#[]⟩ : ByteArray)) := (blk_cell BK408.out 5).trans rfl; have hfz111_0 := blk_frozen BK408.out 0; have hfz111_1 := blk_frozen BK408.out 1; have hfz111_2 := blk_frozen BK408.out 2; have hfz111_3 := blk_frozen BK408.out 3; have hfz111_4 := blk_frozen BK408.out 4; have hfz111_5 := blk_frozen BK408.out 5) | ((with_reducible refine gate_callee (f := 10) rfl ?_); refine goesL_ (some 85) rfl rfl Try.func10 (by kernel_rfl) rfl #[] rfl (by (try simp only [List.map_toArray, List.map_cons, List.map_nil]); first | done | rfl | (simp only [List.length_drop, List.length_take]; rfl)) ?_; (with_reducible refine (diacriticlaw17_awake.calls kj37  false _ A58.out).mono ?_); rintro e w112 ⟨rfl, hb⟩; refine ⟨_, rfl, ?_⟩; have n0_ := Aside0.mk (blk_below (g := gb370) (o := .cells #[.int .u8 a0_0, .int .u64 a0_1, .int .u32 a0_2, .int .u32 a0_3, .string a0_4, .string a0_5] 27 (0, 0)) (by (with_reducible repeat (first | refine blk_drewN ?_ _ | refine blk_drew ?_ | refine blk_alloc ?_ _)); refine blk_far ?_ NB370_408.out _; (with_reducible repeat (first | refine blk_drewN ?_ _ | refine blk_drew ?_ | refine blk_alloc ?_ _)); refine blk_far ?_ NB370_408.out _; (with_reducible repeat (first | refine blk_drewN ?_ _ | refine blk_drew ?_ | refine blk_alloc ?_ _)); refine blk_far ?_ NB370_408.out _; (with_reducible repeat (first | refine blk_drewN ?_ _ | refine blk_drew ?_ | refine blk_alloc ?_ _)); refine blk_far ?_ NB370_408.out _; (with_reducible repeat (first | refine blk_drewN ?_ _ | refine blk_drew ?_ | refine blk_alloc ?_ _)); refine blk_far ?_ NB370_408.out _; (with_reducible repeat (first | refine blk_drewN ?_ _ | refine blk_drew ?_ | refine blk_alloc ?_ _)); refine blk_far ?_ NB370_408.out _; (with_reducible repeat (first | refine blk_drewN ?_ _ | refine blk_drew ?_ | refine blk_alloc ?_ _)); exact BK370.out) hb); have n1_ := Aside0.mk (blk_below (g := gb375) (o := .cells #[.int .i64 t373, .int .i64 t374] 32 (0, 0)) (by (with_reducible repeat (first | refine blk_drewN ?_ _ | refine blk_drew ?_ | refine blk_alloc ?_ _)); refine blk_far ?_ NB375_408.out _; (with_reducible repeat (first | refine blk_drewN ?_ _ | refine blk_drew ?_ | refine blk_alloc ?_ _)); refine blk_far ?_ NB375_408.out _; (with_reducible repeat (first | refine blk_drewN ?_ _ | refine blk_drew ?_ | refine blk_alloc ?_ _)); refine blk_far ?_ NB375_408.out _; (with_reducible repeat (first | refine blk_drewN ?_ _ | refine blk_drew ?_ | refine blk_alloc ?_ _)); refine blk_far ?_ NB375_408.out _; (with_reducible repeat (first | refine blk_drewN ?_ _ | refine blk_drew ?_ | refine blk_alloc ?_ _)); refine blk_far ?_ NB375_408.out _; (with_reducible repeat (first | refine blk_drewN ?_ _ | refine blk_drew ?_ | refine blk_alloc ?_ _)); refine blk_far ?_ NB375_408.out _; (with_reducible repeat (first | refine blk_drewN ?_ _ | refine blk_drew ?_ | refine blk_alloc ?_ _)); exact BK375.out) hb); have n2_ := Aside0.mk (IsS81.below (show IsS81 w ((((((w107.setCell ⟨gb408, 0, none⟩ (.int .u8 t396)).setCell ⟨gb408, 1, none⟩ (.int .u64 t397)).setCell ⟨gb408, 2, none⟩ (.int .u32 t398)).setCell ⟨gb408, 3, none⟩ (.int .u32 t399)).setCell ⟨gb408, 4, none⟩ (.string t400)).setCell ⟨gb408, 5, none⟩ (.string t401)) g395 t403 t404 t405 t406 t407 from by repeat (first | (with_reducible first | exact HI395.out | apply IsS81.alloc | apply IsS81.drewN | apply IsS81.drew | apply IsS81.set_0 | apply IsS81.set_1 | apply IsS81.set_2 | apply IsS81.set_3 | apply IsS81.set_4 | refine IsS81.far ?_ NB395_370.out _ | refine IsS81.far ?_ NB395_375.out _ | refine IsS81.far ?_ NB395_408.out _) | exact HI395.out)) hb); have n3_ := Aside0.mk (blk_below (g := gb408) (o := .cells #[.int .u8 t396, .int .u64 t397, .int .u32 t398, .int .u32 t399, .string t400, .string t401] 27 (0, 0)) (by (with_reducible repeat (first | refine blk_drewN ?_ _ | refine blk_drew ?_ | refine blk_alloc ?_ _)); refine blk_put (cs := #[.int .u8 t396, .int .u64 t397, .int .u32 t398, .int .u32 t399, .string t400, .string (⟨#[]⟩ : ByteArray)]) ?_ 5 _ rfl; (with_reducible repeat (first | refine blk_drewN ?_ _ | refine blk_drew ?_ | refine blk_alloc ?_ _)); refine blk_put (cs := #[.int .u8 t396, .int .u64 t397, .int .u32 t398, .int .u32 t399, .string (⟨#[]⟩ : ByteArray), .string (⟨#[]⟩ : ByteArray)]) ?_ 4 _ rfl; (with_reducible repeat (first | refine blk_drewN ?_ _ | refine blk_drew ?_ | refine blk_alloc ?_ _)); refine blk_put (cs := #[.int .u8 t396, .int .u64 t397, .int .u32 t398, .int .u32 0, .string (⟨#[]⟩ : ByteArray), .string (⟨#[]⟩ : ByteArray)]) ?_ 3 _ rfl; (with_reducible repeat (first | refine blk_drewN ?_ _ | refine blk_drew ?_ | refine blk_alloc ?_ _)); refine blk_put (cs := #[.int .u8 t396, .int .u64 t397, .int .u32 0, .int .u32 0, .string (⟨#[]⟩ : ByteArray), .string (⟨#[]⟩ : ByteArray)]) ?_ 2 _ rfl; (with_reducible repeat (first | refine blk_drewN ?_ _ | refine blk_drew ?_ | refine blk_alloc ?_ _)); refine blk_put (cs := #[.int .u8 t396, .int .u64 0, .int .u32 0, .int .u32 0, .string (⟨#[]⟩ : ByteArray), .string (⟨#[]⟩ : ByteArray)]) ?_ 1 _ rfl; (with_reducible repeat (first | refine blk_drewN ?_ _ | refine blk_drew ?_ | refine blk_alloc ?_ _)); refine blk_put (cs := #[.int .u8 0, .int .u64 0, .int .u32 0, .int .u32 0, .string (⟨#[]⟩ : ByteArray), .string (⟨#[]⟩ : ByteArray)]) ?_ 0 _ rfl; (with_reducible repeat (first | refine blk_drewN ?_ _ | refine blk_drew ?_ | refine blk_alloc ?_ _)); exact BK408.out) hb); have n4_ := Aside0.mk (below_step (by repeat (first | (with_reducible first | exact HB.out | apply below_alloc | apply pw_below_drewN | apply below_drew1 | refine below_set ?_ (IsS81.ge HI395.out) | refine below_set ?_ GE370.out | refine below_set ?_ GE375.out | refine below_set ?_ GE408.out) | exact HB.out)) hb); clear BK370; clear BK375; clear HI395; clear BK408; clear HB; have BK370 := n0_; have BK375 := n1_; have HI395 := n2_; have BK408 := n3_; have HB := n4_; clear n0_ n1_ n2_ n3_ n4_; (try clear hb); (try clear hb2); (try clear hk); (try clear hi)))
                        go_ret
                        exact ⟨by first | rfl | (simp [errW_none, errW_some] <;> rfl) | (simp [*, errW_none, errW_some] <;> rfl), by repeat (first | (with_reducible first | exact HB.out | apply below_alloc | apply pw_below_drewN | apply below_drew1 | refine below_set ?_ (IsS81.ge HI395.out) | refine below_set ?_ GE370.out | refine below_set ?_ GE375.out | refine below_set ?_ GE408.out) | exact HB.out)⟩
                    · rw [if_neg c55] at H
                      have c55b0 : (t382 == 0) = false := beq_eq_false_iff_ne.mpr c55
                      have c55b1 : (t382 != 0) = true := bne_iff_ne.mpr c55
                      replace H := Option.bind_eq_some_iff.mp H
                      obtain ⟨t389, A1130, H⟩ := H
                      replace H : (if t389 = true then (some (t372.toList == ([] : List UInt8))) else (some false)) = some r := H
                      have A113 := Aside0.mk A1130
                      clear A1130
                      by_cases c114 : t389 = true
                      · subst c114
                        have H1 : (some (t372.toList == ([] : List UInt8))) = some r := by rw [if_pos rfl] at H; exact H
                        clear H
                        have H := H1
                        clear H1
                        obtain rfl := Option.some.inj H
                        go_wp2_with (first | ((with_reducible refine gate_callee (f := 10) rfl ?_); refine goesL_ (some 74) rfl rfl Try.func10 (by kernel_rfl) rfl #[] rfl (by (try simp only [List.map_toArray, List.map_cons, List.map_nil]); first | done | rfl | (simp only [List.length_drop, List.length_take]; rfl)) ?_; (with_reducible refine (diacriticlaw17_awake.calls kj37  true _ A113.out).mono ?_); rintro e w115 ⟨rfl, hb⟩; refine ⟨_, rfl, ?_⟩; have n0_ := Aside0.mk (blk_below (g := gb370) (o := .cells #[.int .u8 a0_0, .int .u64 a0_1, .int .u32 a0_2, .int .u32 a0_3, .string a0_4, .string a0_5] 27 (0, 0)) (by (with_reducible repeat (first | refine blk_drewN ?_ _ | refine blk_drew ?_ | refine blk_alloc ?_ _)); exact BK370.out) hb); have n1_ := Aside0.mk (blk_below (g := gb375) (o := .cells #[.int .i64 t373, .int .i64 t374] 32 (0, 0)) (by (with_reducible repeat (first | refine blk_drewN ?_ _ | refine blk_drew ?_ | refine blk_alloc ?_ _)); exact BK375.out) hb); have n2_ := Aside0.mk (below_step (by repeat (first | (with_reducible first | exact HB.out | apply below_alloc | apply pw_below_drewN | apply below_drew1 | refine below_set ?_ GE370.out | refine below_set ?_ GE375.out) | exact HB.out)) hb); clear BK370; clear BK375; clear HB; have BK370 := n0_; have BK375 := n1_; have HB := n2_; clear n0_ n1_ n2_; (try clear hb); (try clear hb2); (try clear hk); (try clear hi)))
                        go_ret
                        exact ⟨by first | rfl | (simp [errW_none, errW_some] <;> rfl) | (simp [*, errW_none, errW_some] <;> rfl), by repeat (first | (with_reducible first | exact HB.out | apply below_alloc | apply pw_below_drewN | apply below_drew1 | refine below_set ?_ GE370.out | refine below_set ?_ GE375.out) | exact HB.out)⟩
                      · replace c114 := Bool.eq_false_iff.mpr c114
                        subst c114
                        have H1 : (some false) = some r := by rw [if_neg (show ¬ (false = true) by decide)] at H; exact H
                        clear H
                        have H := H1
                        clear H1
                        obtain rfl := Option.some.inj H
                        go_wp2_with (first | ((with_reducible refine gate_callee (f := 10) rfl ?_); refine goesL_ (some 74) rfl rfl Try.func10 (by kernel_rfl) rfl #[] rfl (by (try simp only [List.map_toArray, List.map_cons, List.map_nil]); first | done | rfl | (simp only [List.length_drop, List.length_take]; rfl)) ?_; (with_reducible refine (diacriticlaw17_awake.calls kj37  false _ A113.out).mono ?_); rintro e w116 ⟨rfl, hb⟩; refine ⟨_, rfl, ?_⟩; have n0_ := Aside0.mk (blk_below (g := gb370) (o := .cells #[.int .u8 a0_0, .int .u64 a0_1, .int .u32 a0_2, .int .u32 a0_3, .string a0_4, .string a0_5] 27 (0, 0)) (by (with_reducible repeat (first | refine blk_drewN ?_ _ | refine blk_drew ?_ | refine blk_alloc ?_ _)); exact BK370.out) hb); have n1_ := Aside0.mk (blk_below (g := gb375) (o := .cells #[.int .i64 t373, .int .i64 t374] 32 (0, 0)) (by (with_reducible repeat (first | refine blk_drewN ?_ _ | refine blk_drew ?_ | refine blk_alloc ?_ _)); exact BK375.out) hb); have n2_ := Aside0.mk (below_step (by repeat (first | (with_reducible first | exact HB.out | apply below_alloc | apply pw_below_drewN | apply below_drew1 | refine below_set ?_ GE370.out | refine below_set ?_ GE375.out) | exact HB.out)) hb); clear BK370; clear BK375; clear HB; have BK370 := n0_; have BK375 := n1_; have HB := n2_; clear n0_ n1_ n2_; (try clear hb); (try clear hb2); (try clear hk); (try clear hi)))
                        go_ret
                        exact ⟨by first | rfl | (simp [errW_none, errW_some] <;> rfl) | (simp [*, errW_none, errW_some] <;> rfl), by repeat (first | (with_reducible first | exact HB.out | apply below_alloc | apply pw_below_drewN | apply below_drew1 | refine below_set ?_ GE370.out | refine below_set ?_ GE375.out) | exact HB.out)⟩

/-- THE ONE PURE STATEMENT of diacriticlaw17_PagePrints: yours. -/
def diacriticlaw17_PagePrints.Pure : Prop := ∀ (a0_0 : Int) (a0_1 : Int) (a0_2 : Int) (a0_3 : Int) (a0_4 : ByteArray) (a0_5 : ByteArray) (a1 : Int), (Lit.int .u8 a0_0).wf = true → (Lit.int .u64 a0_1).wf = true → (Lit.int .u32 a0_2).wf = true → (Lit.int .u32 a0_3).wf = true → a0_4.size ≤ 9223372036854775807 → a0_5.size ≤ 9223372036854775807 → (Lit.int .u8 a1).wf = true → ∃ k, diacriticlaw17_PagePrints.f k a0_0 a0_1 a0_2 a0_3 a0_4 a0_5 a1 = some true
theorem diacriticlaw17_PagePrints.walk (P : diacriticlaw17_PagePrints.Pure) (a0_0 : Int) (a0_1 : Int) (a0_2 : Int) (a0_3 : Int) (a0_4 : ByteArray) (a0_5 : ByteArray) (a1 : Int) (w : World) (w0_0_0 : (Lit.int .u8 a0_0).wf = true) (w0_1_0 : (Lit.int .u64 a0_1).wf = true) (w0_2_0 : (Lit.int .u32 a0_2).wf = true) (w0_3_0 : (Lit.int .u32 a0_3).wf = true) (w0_4_0 : a0_4.size ≤ 9223372036854775807) (w0_5_0 : a0_5.size ≤ 9223372036854775807) (w1 : (Lit.int .u8 a1).wf = true) :
    Calls Try.prog 4 #[.agg #[.int .u8 a0_0, .int .u64 a0_1, .int .u32 a0_2, .int .u32 a0_3, .string a0_4, .string a0_5], .int .u8 a1] w fun e w' => e = .returned (.bool true) ∧ Below w.heap.size w w' := by
  obtain ⟨k, h⟩ := P a0_0 a0_1 a0_2 a0_3 a0_4 a0_5 a1 w0_0_0 w0_1_0 w0_2_0 w0_3_0 w0_4_0 w0_5_0 w1
  refine (diacriticlaw17_PagePrints.calls k a0_0 a0_1 a0_2 a0_3 a0_4 a0_5 a1 true w h).mono ?_
  rintro e w' ⟨rfl, hd⟩
  exact ⟨rfl, hd⟩

end Go.Proofs.Ytmfamkkikiglmaa.PAll
