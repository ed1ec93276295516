/- Written by a program of this session: functions of the Go program as Lean functions, and the walks that tie them to it. -/
import Derived.Test.YtkcckhlkaknggaaPAllx0
import Derived.Test.YtkcckhlkaknggaaPAllx10
namespace Go.Proofs.Ytkcckhlkaknggaa.PAll
open Go.RowKit Go.Proofs.YtkcckhlkaknggaaW.PrintWords Go.Proofs.YtkcckhlkaknggaaW.PrintLast Go.Proofs.YtkcckhlkaknggaaW.PrintMore
attribute [local go_sem] max2_int min2_int max_two min_two max_three min_three max_four min_four   -- for this text's walks alone
set_option linter.unusedVariables false
set_option linter.unusedSimpArgs false

/-! ### diacriticref01_Until: function 53 -/
mutual
def diacriticref01_Until.j0 : Nat → ByteArray → Int → ByteArray → Int → Int → Int → Int → Option (ByteArray × Int × Int × Int × Int × ByteArray)
  | 0, _, _, _, _, _, _, _ => none
  | k + 1, x1, x6, x344000, x344001, x344002, x344003, x344004 => diacriticref01_Until.l0 k x1 x6 x344001 x344000 x344001 x344002 x344003 x344004
def diacriticref01_Until.l0 : Nat → ByteArray → Int → Int → ByteArray → Int → Int → Int → Int → Option (ByteArray × Int × Int × Int × Int × ByteArray)
  | 0, _, _, _, _, _, _, _, _ => none
  | k + 1, x1, x6, x7, x344000, x344001, x344002, x344003, x344004 => if (wrap64 (x7 + (x1.size : Int))) ≤ (x344000.size : Int) then (if 0 ≤ x7 then (if x7 ≤ (wrap64 (x7 + (x1.size : Int))) then (if (x344000.extract (x7 : Int).toNat ((wrap64 (x7 + (x1.size : Int))) : Int).toNat).toList = x1.toList then (if 0 ≤ x344001 then (if x344001 ≤ x7 then (if x7 ≤ (x344000.size : Int) then (some (x344000, wrap64 (x7 + (x1.size : Int)), x344002, x344003, x344004, x344000.extract (x344001 : Int).toNat (x7 : Int).toNat)) else (none)) else (none)) else (none)) else (diacriticref01_Until.l0 k x1 x6 (wrap64 (x7 + x6)) x344000 x344001 x344002 x344003 x344004)) else (none)) else (none)) else ((diacriticref01_Fail.f x344000 x344001 x344002 x344003 x344004 1 (wrap64 (x344002 + (x344000.size : Int)))).bind fun bt345 => (some (bt345.1, bt345.2.1, bt345.2.2.1, bt345.2.2.2.1, bt345.2.2.2.2, (⟨#[]⟩ : ByteArray))))
end
def diacriticref01_Until.f (k : Nat) (a0_0 : ByteArray) (a0_1 : Int) (a0_2 : Int) (a0_3 : Int) (a0_4 : Int) (a1 : ByteArray) : Option (ByteArray × Int × Int × Int × Int × ByteArray) := if a0_3 = 0 then (if (a1.size : Int) = 0 then (diacriticref01_Until.j0 k a1 1 a0_0 a0_1 a0_2 a0_3 a0_4) else (diacriticref01_Until.j0 k a1 (a1.size : Int) a0_0 a0_1 a0_2 a0_3 a0_4)) else (some (a0_0, a0_1, a0_2, a0_3, a0_4, (⟨#[]⟩ : ByteArray)))
theorem diacriticref01_Until.mono_l : ∀ k, (∀ y0 y1 y2 y3 y4 y5 y6, LeO (diacriticref01_Until.j0 k y0 y1 y2 y3 y4 y5 y6) (diacriticref01_Until.j0 (k + 1) y0 y1 y2 y3 y4 y5 y6)) ∧ (∀ y0 y1 y2 y3 y4 y5 y6 y7, LeO (diacriticref01_Until.l0 k y0 y1 y2 y3 y4 y5 y6 y7) (diacriticref01_Until.l0 (k + 1) y0 y1 y2 y3 y4 y5 y6 y7))
  | 0 => ⟨fun _ _ _ _ _ _ _ r h => by simp [diacriticref01_Until.j0] at h, fun _ _ _ _ _ _ _ _ r h => by simp [diacriticref01_Until.l0] at h⟩
  | k + 1 => by
    obtain ⟨ih0, ih1⟩ := diacriticref01_Until.mono_l k
    refine ⟨?_, ?_⟩
    · intro y0 y1 y2 y3 y4 y5 y6
      unfold diacriticref01_Until.j0
      repeat' first
      | (with_reducible exact ih0 _ _ _ _ _ _ _)
      | (with_reducible exact ih1 _ _ _ _ _ _ _ _)
      | (with_reducible exact LeO.refl _)
      | (with_reducible exact LeO.none _)
      | (with_reducible refine LeO.ite ?_ ?_)
      | (with_reducible refine LeO.bind ?_ (fun _ => ?_))
      | exact ih0 _ _ _ _ _ _ _
      | exact ih1 _ _ _ _ _ _ _ _
      | exact LeO.none _
      | refine LeO.ite ?_ ?_
      | refine LeO.bind ?_ (fun _ => ?_)
    · intro y0 y1 y2 y3 y4 y5 y6 y7
      unfold diacriticref01_Until.l0
      repeat' first
      | (with_reducible exact ih0 _ _ _ _ _ _ _)
      | (with_reducible exact ih1 _ _ _ _ _ _ _ _)
      | (with_reducible exact LeO.refl _)
      | (with_reducible exact LeO.none _)
      | (with_reducible refine LeO.ite ?_ ?_)
      | (with_reducible refine LeO.bind ?_ (fun _ => ?_))
      | exact ih0 _ _ _ _ _ _ _
      | exact ih1 _ _ _ _ _ _ _ _
      | exact LeO.none _
      | refine LeO.ite ?_ ?_
      | refine LeO.bind ?_ (fun _ => ?_)
theorem diacriticref01_Until.mono : ∀ a0 a1 a2 a3 a4 a5 k, LeO (diacriticref01_Until.f k a0 a1 a2 a3 a4 a5) (diacriticref01_Until.f (k + 1) a0 a1 a2 a3 a4 a5) := by
  intro a0 a1 a2 a3 a4 a5 k
  obtain ⟨ih0, ih1⟩ := diacriticref01_Until.mono_l k
  unfold diacriticref01_Until.f
  repeat' first
      | (with_reducible exact ih0 _ _ _ _ _ _ _)
      | (with_reducible exact ih1 _ _ _ _ _ _ _ _)
      | (with_reducible exact LeO.refl _)
      | (with_reducible exact LeO.none _)
      | (with_reducible refine LeO.ite ?_ ?_)
      | (with_reducible refine LeO.bind ?_ (fun _ => ?_))
      | exact ih0 _ _ _ _ _ _ _
      | exact ih1 _ _ _ _ _ _ _ _
      | exact LeO.none _
      | refine LeO.ite ?_ ?_
      | refine LeO.bind ?_ (fun _ => ?_)
set_option maxHeartbeats 8000000 in
set_option maxRecDepth 100000 in
theorem diacriticref01_Until.calls (k : Nat) (a0_0 : ByteArray) (a0_1 : Int) (a0_2 : Int) (a0_3 : Int) (a0_4 : Int) (a1 : ByteArray) (r1 : ByteArray) (r2 : Int) (r3 : Int) (r4 : Int) (r5 : Int) (r6 : ByteArray) (w : World) (h : diacriticref01_Until.f k a0_0 a0_1 a0_2 a0_3 a0_4 a1 = some (r1, r2, r3, r4, r5, r6)) :
    Calls Try.prog 53 #[.agg #[.string a0_0, .int .i64 a0_1, .int .i64 a0_2, .int .i64 a0_3, .int .i64 a0_4], .string a1] w fun e w' => e = .returned (.tuple #[.agg #[.string r1, .int .i64 r2, .int .i64 r3, .int .i64 r4, .int .i64 r5], .string r6]) ∧ Below w.heap.size w w' := by
  have hu54 := Try.underlying54
  have HB := Aside0.mk (Below.refl w.heap.size w)
  have H : (if a0_3 = 0 then (if (a1.size : Int) = 0 then (diacriticref01_Until.j0 k a1 1 a0_0 a0_1 a0_2 a0_3 a0_4) else (diacriticref01_Until.j0 k a1 (a1.size : Int) a0_0 a0_1 a0_2 a0_3 a0_4)) else (some (a0_0, a0_1, a0_2, a0_3, a0_4, (⟨#[]⟩ : ByteArray)))) = some (r1, r2, r3, r4, r5, r6) := h
  clear h
  by_cases c3 : a0_3 = 0
  · rw [if_pos c3] at H
    have c3b0 : (a0_3 == 0) = true := beq_iff_eq.mpr c3
    have c3b1 : (a0_3 != 0) = false := bne_eq_false_iff_eq.mpr c3
    clear c3
    have HC4 := Aside0.mk H
    clear H
    go_enter Try.func53, Try.ntmps53
    go_upto_if 16 with (first | ((with_reducible refine gate_dst (N := 2) rfl ?_); refine box_event ?hg (N := 2) ?hd (cs := #[.string a0_0, .int .i64 a0_1, .int .i64 a0_2, .int .i64 a0_3, .int .i64 a0_4]) (t := 54) ?hr ?_; (case hd => rfl); (case hg => rfl); (case hr => first | (go_simp; done) | (go_simp; rfl)); intro gb343 hg w5 hbox hb; have n0_ := Aside0.mk (below_step (by repeat (first | (with_reducible first | exact HB.out | apply below_alloc | apply pw_below_drewN | apply below_drew1) | exact HB.out)) hb); have n1_ := Aside0.mk (hbox); have n2_ := Aside0.mk ((by rw [hg]; exact (below_size (by repeat (first | (with_reducible first | exact HB.out | apply below_alloc | apply pw_below_drewN | apply below_drew1) | exact HB.out))) : w.heap.size ≤ gb343)); have n3_ := Aside0.mk ((by rw [hg]; exact (below_size (by repeat (first | (with_reducible first | exact HB.out | apply below_alloc | apply pw_below_drewN | apply below_drew1) | exact HB.out))) : w.heap.size ≤ gb343)); clear HB; have HB := n0_; have BK343 := n1_; have GW343 := n2_; have GE343 := n3_; clear n0_ n1_ n2_ n3_; clear hb hbox hg) | ((with_reducible refine gate_dst (N := 4) rfl ?_); refine box_event ?hg (N := 4) ?hd (cs := #[.string (⟨#[]⟩ : ByteArray), .int .i64 0, .int .i64 0, .int .i64 0, .int .i64 0]) (t := 54) ?hr ?_; (case hd => rfl); (case hg => rfl); (case hr => first | (go_simp; done) | (go_simp; rfl)); intro gb344 hg w6 hbox hb; have n0_ := Aside0.mk (blk_below (g := gb343) (o := .cells #[.string a0_0, .int .i64 a0_1, .int .i64 a0_2, .int .i64 a0_3, .int .i64 a0_4] 54 (0, 0)) (by (with_reducible repeat (first | refine blk_drewN ?_ _ | refine blk_drew ?_ | refine blk_alloc ?_ _)); exact BK343.out) hb); have n1_ := Aside0.mk (below_step (by repeat (first | (with_reducible first | exact HB.out | apply below_alloc | apply pw_below_drewN | apply below_drew1 | refine below_set ?_ GE343.out) | exact HB.out)) hb); have n2_ := Aside0.mk (hbox); have n3_ := Aside0.mk ((by rw [hg]; exact (below_size (by repeat (first | (with_reducible first | exact HB.out | apply below_alloc | apply pw_below_drewN | apply below_drew1 | refine below_set ?_ GE343.out) | exact HB.out))) : w.heap.size ≤ gb344)); have n4_ := Aside0.mk ((by rw [hg]; exact (below_size (by repeat (first | (with_reducible first | exact HB.out | apply below_alloc | apply pw_below_drewN | apply below_drew1 | refine below_set ?_ GE343.out) | exact HB.out))) : w.heap.size ≤ gb344)); have n5_ := Aside0.mk ((by rw [hg]; exact Nat.ne_of_lt (blk_lt (g := gb343) (o := .cells #[.string a0_0, .int .i64 a0_1, .int .i64 a0_2, .int .i64 a0_3, .int .i64 a0_4] 54 (0, 0)) (by (with_reducible repeat (first | refine blk_drewN ?_ _ | refine blk_drew ?_ | refine blk_alloc ?_ _)); exact BK343.out)) : gb343 ≠ gb344)); have n6_ := Aside0.mk ((by rw [hg]; exact Nat.ne_of_gt (blk_lt (g := gb343) (o := .cells #[.string a0_0, .int .i64 a0_1, .int .i64 a0_2, .int .i64 a0_3, .int .i64 a0_4] 54 (0, 0)) (by (with_reducible repeat (first | refine blk_drewN ?_ _ | refine blk_drew ?_ | refine blk_alloc ?_ _)); exact BK343.out)) : gb344 ≠ gb343)); clear BK343; clear HB; have BK343 := n0_; have HB := n1_; have BK344 := n2_; have GW344 := n3_; have GE344 := n4_; have NB343_344 := n5_; have NB344_343 := n6_; clear n0_ n1_ n2_ n3_ n4_ n5_ n6_; clear hb hbox hg; have hnb7 := NB343_344.out; have hnc7 := NB344_343.out; have hcz8_0 : w6.cell? ⟨gb343, 0, none⟩ = some (.string a0_0) := (blk_cell BK343.out 0).trans rfl; have hcz8_1 : w6.cell? ⟨gb343, 1, none⟩ = some (.int .i64 a0_1) := (blk_cell BK343.out 1).trans rfl; have hcz8_2 : w6.cell? ⟨gb343, 2, none⟩ = some (.int .i64 a0_2) := (blk_cell BK343.out 2).trans rfl; have hcz8_3 : w6.cell? ⟨gb343, 3, none⟩ = some (.int .i64 a0_3) := (blk_cell BK343.out 3).trans rfl; have hcz8_4 : w6.cell? ⟨gb343, 4, none⟩ = some (.int .i64 a0_4) := (blk_cell BK343.out 4).trans rfl; have hfz8_0 := blk_frozen BK343.out 0; have hfz8_1 := blk_frozen BK343.out 1; have hfz8_2 := blk_frozen BK343.out 2; have hfz8_3 := blk_frozen BK343.out 3; have hfz8_4 := blk_frozen BK343.out 4))
    (try simp only [Act.put, List.setIfInBounds_toArray, List.set_cons_zero, List.set_cons_succ])
    go_cut [6] (fun v6 wc => ∃ (kq : Nat) (x6_3 : Int), v6 = .int .i64 x6_3 ∧ Aside0 (diacriticref01_Until.j0 kq a1 x6_3 a0_0 a0_1 a0_2 a0_3 a0_4 = some (r1, r2, r3, r4, r5, r6)) ∧ Aside0 (kq ≤ k) ∧ Aside0 (wc.heap[gb343]? = some (.cells #[.string a0_0, .int .i64 a0_1, .int .i64 a0_2, .int .i64 a0_3, .int .i64 a0_4] 54 (0, 0))) ∧ Aside0 (wc.heap[gb344]? = some (.cells #[.string (⟨#[]⟩ : ByteArray), .int .i64 0, .int .i64 0, .int .i64 0, .int .i64 0] 54 (0, 0))) ∧ Aside0 (Below w.heap.size w wc))
    case first =>
      have H := HC4.out
      clear HC4
      by_cases c9 : (a1.size : Int) = 0
      · rw [if_pos c9] at H
        have c9b0 : ((a1.size : Int) == 0) = true := beq_iff_eq.mpr c9
        have c9b1 : ((a1.size : Int) != 0) = false := bne_eq_false_iff_eq.mpr c9
        clear c9
        (first | rw [c9b0] | (simp only [i64_w, i32_w]; rw [c9b0]) | skip)
        have H' := Aside0.mk H
        clear H
        go_wp2
        go_meet
        case rel => exact ⟨_, (1), (by first | rfl | (simp; done) | (simp [*]; done) | (simp [beq_nil_isEmpty, bne_nil_isEmpty]; done)), H', ⟨by first | omega | exact Nat.le_refl _⟩, ⟨by (with_reducible repeat (first | refine blk_drewN ?_ _ | refine blk_drew ?_ | refine blk_alloc ?_ _)); exact BK343.out⟩, ⟨by (with_reducible repeat (first | refine blk_drewN ?_ _ | refine blk_drew ?_ | refine blk_alloc ?_ _)); exact BK344.out⟩, ⟨by repeat (first | (with_reducible first | exact HB.out | apply below_alloc | apply pw_below_drewN | apply below_drew1 | refine below_set ?_ GE343.out | refine below_set ?_ GE344.out) | exact HB.out)⟩⟩
      · rw [if_neg c9] at H
        have c9b0 : ((a1.size : Int) == 0) = false := beq_eq_false_iff_ne.mpr c9
        have c9b1 : ((a1.size : Int) != 0) = true := bne_iff_ne.mpr c9
        (first | rw [c9b0] | (simp only [i64_w, i32_w]; rw [c9b0]) | skip)
        have H' := Aside0.mk H
        clear H
        go_wp2
        go_meet
        case rel => exact ⟨_, ((a1.size : Int)), (by first | rfl | (simp; done) | (simp [*]; done) | (simp [beq_nil_isEmpty, bne_nil_isEmpty]; done)), H', ⟨by first | omega | exact Nat.le_refl _⟩, ⟨by (with_reducible repeat (first | refine blk_drewN ?_ _ | refine blk_drew ?_ | refine blk_alloc ?_ _)); exact BK343.out⟩, ⟨by (with_reducible repeat (first | refine blk_drewN ?_ _ | refine blk_drew ?_ | refine blk_alloc ?_ _)); exact BK344.out⟩, ⟨by repeat (first | (with_reducible first | exact HB.out | apply below_alloc | apply pw_below_drewN | apply below_drew1 | refine below_set ?_ GE343.out | refine below_set ?_ GE344.out) | exact HB.out)⟩⟩
    case rest =>
      clear HC4
      try clear p2
      try clear c3
      try clear c3b0
      try clear c3b1
      try clear c5
      try clear c7
      try clear c9
      try clear c9b0
      try clear c9b1
      try clear hcz8_0
      try clear hcz8_1
      try clear hcz8_2
      try clear hcz8_3
      try clear hcz8_4
      try clear hfz8_0
      try clear hfz8_1
      try clear hfz8_2
      try clear hfz8_3
      try clear hfz8_4
      obtain ⟨kq, x6_3, rfl, HA, HJ3, BK343, BK344, HB⟩ := hcut
      cases kq with
      | zero => exact absurd HA.out (by simp [diacriticref01_Until.j0])
      | succ kj3 =>
        have H := HA.out
        clear HA
        simp only [diacriticref01_Until.j0] at H
        have H' := Aside0.mk H
        clear H
        have hnb10 := NB343_344.out
        have hnc10 := NB344_343.out
        have hcz11_0 : wc.cell? ⟨gb343, 0, none⟩ = some (.string a0_0) := (blk_cell BK343.out 0).trans rfl
        have hcz11_1 : wc.cell? ⟨gb343, 1, none⟩ = some (.int .i64 a0_1) := (blk_cell BK343.out 1).trans rfl
        have hcz11_2 : wc.cell? ⟨gb343, 2, none⟩ = some (.int .i64 a0_2) := (blk_cell BK343.out 2).trans rfl
        have hcz11_3 : wc.cell? ⟨gb343, 3, none⟩ = some (.int .i64 a0_3) := (blk_cell BK343.out 3).trans rfl
        have hcz11_4 : wc.cell? ⟨gb343, 4, none⟩ = some (.int .i64 a0_4) := (blk_cell BK343.out 4).trans rfl
        have hfz11_0 := blk_frozen BK343.out 0
        have hfz11_1 := blk_frozen BK343.out 1
        have hfz11_2 := blk_frozen BK343.out 2
        have hfz11_3 := blk_frozen BK343.out 3
        have hfz11_4 := blk_frozen BK343.out 4
        go_wp2
        go_loopg [7] kj3 (fun kq v7 w' => ∃ (x7_2 : Int) (x344001_2 : Int) (x345000_2 : ByteArray) (x345001_2 : Int) (x345002_2 : Int) (x345003_2 : Int) (x345004_2 : Int), v7 = .int .i64 x7_2 ∧ Aside0 (diacriticref01_Until.l0 kq a1 x6_3 x7_2 a0_0 x344001_2 a0_2 a0_3 a0_4 = some (r1, r2, r3, r4, r5, r6)) ∧ Aside0 (kq ≤ kj3) ∧ Aside0 (w'.heap[gb343]? = some (.cells #[.string a0_0, .int .i64 x344001_2, .int .i64 a0_2, .int .i64 a0_3, .int .i64 a0_4] 54 (0, 0))) ∧ Aside0 (w'.heap[gb344]? = some (.cells #[.string x345000_2, .int .i64 x345001_2, .int .i64 x345002_2, .int .i64 x345003_2, .int .i64 x345004_2] 54 (0, 0))) ∧ Aside0 (Below w.heap.size w w'))
        case atStart => exact ⟨(a0_1), (a0_1), ((⟨#[]⟩ : ByteArray)), (0), (0), (0), (0), (by first | rfl | (simp; done) | (simp [*]; done) | (simp [beq_nil_isEmpty, bne_nil_isEmpty]; done)), H', ⟨Nat.le_refl _⟩, ⟨by (with_reducible repeat (first | refine blk_drewN ?_ _ | refine blk_drew ?_ | refine blk_alloc ?_ _)); exact BK343.out⟩, ⟨by (with_reducible repeat (first | refine blk_drewN ?_ _ | refine blk_drew ?_ | refine blk_alloc ?_ _)); exact BK344.out⟩, ⟨by repeat (first | (with_reducible first | exact HB.out | apply below_alloc | apply pw_below_drewN | apply below_drew1 | refine below_set ?_ GE343.out | refine below_set ?_ GE344.out) | exact HB.out)⟩⟩
        case round =>
          clear H'
          try clear c1
          try clear p2
          try clear c3
          try clear c3b0
          try clear c3b1
          try clear c5
          try clear c7
          try clear c9
          try clear c9b0
          try clear c9b1
          try clear c10
          try clear hcz11_0
          try clear hcz11_1
          try clear hcz11_2
          try clear hcz11_3
          try clear hcz11_4
          try clear hcz8_0
          try clear hcz8_1
          try clear hcz8_2
          try clear hcz8_3
          try clear hcz8_4
          try clear hfz11_0
          try clear hfz11_1
          try clear hfz11_2
          try clear hfz11_3
          try clear hfz11_4
          try clear hfz8_0
          try clear hfz8_1
          try clear hfz8_2
          try clear hfz8_3
          try clear hfz8_4
          try clear p2
          obtain ⟨x7_2, x344001_2, x345000_2, x345001_2, x345002_2, x345003_2, x345004_2, rfl, HA, HK2, BK343, BK344, HB⟩ := hrel
          cases gk with
          | zero => exact absurd HA.out (by simp [diacriticref01_Until.l0])
          | succ k2 =>
            have H := HA.out
            clear HA
            simp only [diacriticref01_Until.l0] at H
            by_cases c12 : (wrap64 (x7_2 + (a1.size : Int))) ≤ (a0_0.size : Int)
            · rw [if_pos c12] at H
              have c12b0 : decide ((wrap64 (x7_2 + (a1.size : Int))) ≤ (a0_0.size : Int)) = true := decide_eq_true c12
              clear c12
              by_cases c13 : 0 ≤ x7_2
              · rw [if_pos c13] at H
                have c13b0 := eq_true c13
                have c13b1 : decide (0 ≤ x7_2) = true := decide_eq_true c13
                clear c13
                by_cases c14 : x7_2 ≤ (wrap64 (x7_2 + (a1.size : Int)))
                · rw [if_pos c14] at H
                  have c14b0 := eq_true c14
                  have c14b1 : decide (x7_2 ≤ (wrap64 (x7_2 + (a1.size : Int)))) = true := decide_eq_true c14
                  have c15b0 := eq_true (of_decide_eq_true (by first | (with_reducible assumption) | assumption) : (wrap64 (x7_2 + (a1.size : Int))) ≤ (a0_0.size : Int))
                  by_cases c16 : (a0_0.extract (x7_2 : Int).toNat ((wrap64 (x7_2 + (a1.size : Int))) : Int).toNat).toList = a1.toList
                  · rw [if_pos c16] at H
                    have c16b0 : ((a0_0.extract (x7_2 : Int).toNat ((wrap64 (x7_2 + (a1.size : Int))) : Int).toNat).toList == a1.toList) = true := beq_iff_eq.mpr c16
                    have c16b1 : ((a0_0.extract (x7_2 : Int).toNat ((wrap64 (x7_2 + (a1.size : Int))) : Int).toNat).toList != a1.toList) = false := bne_eq_false_iff_eq.mpr c16
                    clear c16
                    by_cases c17 : 0 ≤ x344001_2
                    · rw [if_pos c17] at H
                      have c17b0 := eq_true c17
                      have c17b1 : decide (0 ≤ x344001_2) = true := decide_eq_true c17
                      clear c17
                      by_cases c18 : x344001_2 ≤ x7_2
                      · rw [if_pos c18] at H
                        have c18b0 := eq_true c18
                        have c18b1 : decide (x344001_2 ≤ x7_2) = true := decide_eq_true c18
                        clear c18
                        by_cases c19 : x7_2 ≤ (a0_0.size : Int)
                        · rw [if_pos c19] at H
                          have c19b0 := eq_true c19
                          have c19b1 : decide (x7_2 ≤ (a0_0.size : Int)) = true := decide_eq_true c19
                          clear c19
                          simp only [Option.some.injEq, Prod.mk.injEq] at H
                          obtain ⟨rfl, rfl, rfl, rfl, rfl, rfl⟩ := H
                          have hnb20 := NB343_344.out
                          have hnc20 := NB344_343.out
                          have hcz21_0 : wr.cell? ⟨gb343, 0, none⟩ = some (.string a0_0) := (blk_cell BK343.out 0).trans rfl
                          have hcz21_1 : wr.cell? ⟨gb343, 1, none⟩ = some (.int .i64 x344001_2) := (blk_cell BK343.out 1).trans rfl
                          have hcz21_2 : wr.cell? ⟨gb343, 2, none⟩ = some (.int .i64 a0_2) := (blk_cell BK343.out 2).trans rfl
                          have hcz21_3 : wr.cell? ⟨gb343, 3, none⟩ = some (.int .i64 a0_3) := (blk_cell BK343.out 3).trans rfl
                          have hcz21_4 : wr.cell? ⟨gb343, 4, none⟩ = some (.int .i64 a0_4) := (blk_cell BK343.out 4).trans rfl
                          have hfz21_0 := blk_frozen BK343.out 0
                          have hfz21_1 := blk_frozen BK343.out 1
                          have hfz21_2 := blk_frozen BK343.out 2
                          have hfz21_3 := blk_frozen BK343.out 3
                          have hfz21_4 := blk_frozen BK343.out 4
                          have hcz22_0 : wr.cell? ⟨gb344, 0, none⟩ = some (.string x345000_2) := (blk_cell BK344.out 0).trans rfl
                          have hcz22_1 : wr.cell? ⟨gb344, 1, none⟩ = some (.int .i64 x345001_2) := (blk_cell BK344.out 1).trans rfl
                          have hcz22_2 : wr.cell? ⟨gb344, 2, none⟩ = some (.int .i64 x345002_2) := (blk_cell BK344.out 2).trans rfl
                          have hcz22_3 : wr.cell? ⟨gb344, 3, none⟩ = some (.int .i64 x345003_2) := (blk_cell BK344.out 3).trans rfl
                          have hcz22_4 : wr.cell? ⟨gb344, 4, none⟩ = some (.int .i64 x345004_2) := (blk_cell BK344.out 4).trans rfl
                          have hfz22_0 := blk_frozen BK344.out 0
                          have hfz22_1 := blk_frozen BK344.out 1
                          have hfz22_2 := blk_frozen BK344.out 2
                          have hfz22_3 := blk_frozen BK344.out 3
                          have hfz22_4 := blk_frozen BK344.out 4
                          go_wp2
                          refine bodyPost_ret (results_ct rfl _ _ gb344 54 #[.string a0_0, .int .i64 (wrap64 (x7_2 + (a1.size : Int))), .int .i64 a0_2, .int .i64 a0_3, .int .i64 a0_4] (0, 0) _ rfl (by (with_reducible repeat (first | refine blk_drewN ?_ _ | refine blk_drew ?_ | refine blk_alloc ?_ _)); refine blk_put (cs := #[.string a0_0, .int .i64 (wrap64 (x7_2 + (a1.size : Int))), .int .i64 a0_2, .int .i64 a0_3, .int .i64 x345004_2]) ?_ 4 _ rfl; (with_reducible repeat (first | refine blk_drewN ?_ _ | refine blk_drew ?_ | refine blk_alloc ?_ _)); refine blk_put (cs := #[.string a0_0, .int .i64 (wrap64 (x7_2 + (a1.size : Int))), .int .i64 a0_2, .int .i64 x345003_2, .int .i64 x345004_2]) ?_ 3 _ rfl; (with_reducible repeat (first | refine blk_drewN ?_ _ | refine blk_drew ?_ | refine blk_alloc ?_ _)); refine blk_put (cs := #[.string a0_0, .int .i64 (wrap64 (x7_2 + (a1.size : Int))), .int .i64 x345002_2, .int .i64 x345003_2, .int .i64 x345004_2]) ?_ 2 _ rfl; (with_reducible repeat (first | refine blk_drewN ?_ _ | refine blk_drew ?_ | refine blk_alloc ?_ _)); refine blk_put (cs := #[.string a0_0, .int .i64 x345001_2, .int .i64 x345002_2, .int .i64 x345003_2, .int .i64 x345004_2]) ?_ 1 _ rfl; (with_reducible repeat (first | refine blk_drewN ?_ _ | refine blk_drew ?_ | refine blk_alloc ?_ _)); refine blk_put (cs := #[.string x345000_2, .int .i64 x345001_2, .int .i64 x345002_2, .int .i64 x345003_2, .int .i64 x345004_2]) ?_ 0 _ rfl; (with_reducible repeat (first | refine blk_drewN ?_ _ | refine blk_drew ?_ | refine blk_alloc ?_ _)); refine blk_far ?_ NB344_343.out _; (with_reducible repeat (first | refine blk_drewN ?_ _ | refine blk_drew ?_ | refine blk_alloc ?_ _)); exact BK344.out) Try.underlying54 rfl (by kernel_rfl)) rfl ?_
                          exact ⟨by first | rfl | (simp [errW_none, errW_some] <;> rfl) | (simp [*, errW_none, errW_some] <;> rfl), by repeat (first | (with_reducible first | exact HB.out | apply below_alloc | apply pw_below_drewN | apply below_drew1 | refine below_set ?_ GE343.out | refine below_set ?_ GE344.out) | exact HB.out)⟩
                        · rw [if_neg c19] at H
                          exact absurd H (by simp)
                      · rw [if_neg c18] at H
                        exact absurd H (by simp)
                    · rw [if_neg c17] at H
                      exact absurd H (by simp)
                  · rw [if_neg c16] at H
                    have c16b0 : ((a0_0.extract (x7_2 : Int).toNat ((wrap64 (x7_2 + (a1.size : Int))) : Int).toNat).toList == a1.toList) = false := beq_eq_false_iff_ne.mpr c16
                    have c16b1 : ((a0_0.extract (x7_2 : Int).toNat ((wrap64 (x7_2 + (a1.size : Int))) : Int).toNat).toList != a1.toList) = true := bne_iff_ne.mpr c16
                    have H' := Aside0.mk H
                    clear H
                    have hnb23 := NB343_344.out
                    have hnc23 := NB344_343.out
                    have hcz24_0 : wr.cell? ⟨gb343, 0, none⟩ = some (.string a0_0) := (blk_cell BK343.out 0).trans rfl
                    have hcz24_1 : wr.cell? ⟨gb343, 1, none⟩ = some (.int .i64 x344001_2) := (blk_cell BK343.out 1).trans rfl
                    have hcz24_2 : wr.cell? ⟨gb343, 2, none⟩ = some (.int .i64 a0_2) := (blk_cell BK343.out 2).trans rfl
                    have hcz24_3 : wr.cell? ⟨gb343, 3, none⟩ = some (.int .i64 a0_3) := (blk_cell BK343.out 3).trans rfl
                    have hcz24_4 : wr.cell? ⟨gb343, 4, none⟩ = some (.int .i64 a0_4) := (blk_cell BK343.out 4).trans rfl
                    have hfz24_0 := blk_frozen BK343.out 0
                    have hfz24_1 := blk_frozen BK343.out 1
                    have hfz24_2 := blk_frozen BK343.out 2
                    have hfz24_3 := blk_frozen BK343.out 3
                    have hfz24_4 := blk_frozen BK343.out 4
                    go_wp2
                    go_roundg k2
                    case measure => have := HJ3.out; have := HK2.out; omega
                    case rel => exact ⟨(wrap64 (x7_2 + x6_3)), (x344001_2), (x345000_2), (x345001_2), (x345002_2), (x345003_2), (x345004_2), (by first | rfl | (simp; done) | (simp [*]; done) | (simp [beq_nil_isEmpty, bne_nil_isEmpty]; done)), H', ⟨by have := HJ3.out; have := HK2.out; omega⟩, ⟨by (with_reducible repeat (first | refine blk_drewN ?_ _ | refine blk_drew ?_ | refine blk_alloc ?_ _)); exact BK343.out⟩, ⟨by (with_reducible repeat (first | refine blk_drewN ?_ _ | refine blk_drew ?_ | refine blk_alloc ?_ _)); exact BK344.out⟩, ⟨by repeat (first | (with_reducible first | exact HB.out | apply below_alloc | apply pw_below_drewN | apply below_drew1 | refine below_set ?_ GE343.out | refine below_set ?_ GE344.out) | exact HB.out)⟩⟩
                · rw [if_neg c14] at H
                  exact absurd H (by simp)
              · rw [if_neg c13] at H
                exact absurd H (by simp)
            · rw [if_neg c12] at H
              have c12b0 : decide ((wrap64 (x7_2 + (a1.size : Int))) ≤ (a0_0.size : Int)) = false := decide_eq_false c12
              clear c12
              replace H := Option.bind_eq_some_iff.mp H
              obtain ⟨⟨t345, t346, t347, t348, t349⟩, A250, H⟩ := H
              replace H : (some (t345, t346, t347, t348, t349, (⟨#[]⟩ : ByteArray))) = some (r1, r2, r3, r4, r5, r6) := H
              have A25 := Aside0.mk A250
              clear A250
              simp only [Option.some.injEq, Prod.mk.injEq] at H
              obtain ⟨rfl, rfl, rfl, rfl, rfl, rfl⟩ := H
              have hnb26 := NB343_344.out
              have hnc26 := NB344_343.out
              have hcz27_0 : wr.cell? ⟨gb343, 0, none⟩ = some (.string a0_0) := (blk_cell BK343.out 0).trans rfl
              have hcz27_1 : wr.cell? ⟨gb343, 1, none⟩ = some (.int .i64 x344001_2) := (blk_cell BK343.out 1).trans rfl
              have hcz27_2 : wr.cell? ⟨gb343, 2, none⟩ = some (.int .i64 a0_2) := (blk_cell BK343.out 2).trans rfl
              have hcz27_3 : wr.cell? ⟨gb343, 3, none⟩ = some (.int .i64 a0_3) := (blk_cell BK343.out 3).trans rfl
              have hcz27_4 : wr.cell? ⟨gb343, 4, none⟩ = some (.int .i64 a0_4) := (blk_cell BK343.out 4).trans rfl
              have hfz27_0 := blk_frozen BK343.out 0
              have hfz27_1 := blk_frozen BK343.out 1
              have hfz27_2 := blk_frozen BK343.out 2
              have hfz27_3 := blk_frozen BK343.out 3
              have hfz27_4 := blk_frozen BK343.out 4
              go_wp2_with (first | ((with_reducible refine gate_callee (f := 54) rfl ?_); refine goesL_ (some 60) rfl rfl Try.func54 (by kernel_rfl) rfl #[.agg #[.string a0_0, .int .i64 x344001_2, .int .i64 a0_2, .int .i64 a0_3, .int .i64 a0_4], .int .i64 1, .int .i64 (wrap64 (a0_2 + (a0_0.size : Int)))] rfl (by (try simp only [List.map_toArray, List.map_cons, List.map_nil]); first | done | rfl | (simp only [List.length_drop, List.length_take]; rfl)) ?_; (with_reducible refine (diacriticref01_Fail.calls a0_0 x344001_2 a0_2 a0_3 a0_4 1 (wrap64 (a0_2 + (a0_0.size : Int))) t345 t346 t347 t348 t349 _ A25.out).mono ?_); rintro e w28 ⟨rfl, hb⟩; refine ⟨_, rfl, ?_⟩; have n0_ := Aside0.mk (blk_below (g := gb343) (o := .cells #[.string a0_0, .int .i64 x344001_2, .int .i64 a0_2, .int .i64 a0_3, .int .i64 a0_4] 54 (0, 0)) (by (with_reducible repeat (first | refine blk_drewN ?_ _ | refine blk_drew ?_ | refine blk_alloc ?_ _)); exact BK343.out) hb); have n1_ := Aside0.mk (blk_below (g := gb344) (o := .cells #[.string x345000_2, .int .i64 x345001_2, .int .i64 x345002_2, .int .i64 x345003_2, .int .i64 x345004_2] 54 (0, 0)) (by (with_reducible repeat (first | refine blk_drewN ?_ _ | refine blk_drew ?_ | refine blk_alloc ?_ _)); exact BK344.out) hb); have n2_ := Aside0.mk (below_step (by repeat (first | (with_reducible first | exact HB.out | apply below_alloc | apply pw_below_drewN | apply below_drew1 | refine below_set ?_ GE343.out | refine below_set ?_ GE344.out) | exact HB.out)) hb); clear BK343; clear BK344; clear HB; have BK343 := n0_; have BK344 := n1_; have HB := n2_; clear n0_ n1_ n2_; (try clear hb); (try clear hb2); (try clear hk); (try clear hi); have hcz29_0 : w28.cell? ⟨gb344, 0, none⟩ = some (.string x345000_2) := (blk_cell BK344.out 0).trans rfl; have hcz29_1 : w28.cell? ⟨gb344, 1, none⟩ = some (.int .i64 x345001_2) := (blk_cell BK344.out 1).trans rfl; have hcz29_2 : w28.cell? ⟨gb344, 2, none⟩ = some (.int .i64 x345002_2) := (blk_cell BK344.out 2).trans rfl; have hcz29_3 : w28.cell? ⟨gb344, 3, none⟩ = some (.int .i64 x345003_2) := (blk_cell BK344.out 3).trans rfl; have hcz29_4 : w28.cell? ⟨gb344, 4, none⟩ = some (.int .i64 x345004_2) := (blk_cell BK344.out 4).trans rfl; have hfz29_0 := blk_frozen BK344.out 0; have hfz29_1 := blk_frozen BK344.out 1; have hfz29_2 := blk_frozen BK344.out 2; have hfz29_3 := blk_frozen BK344.out 3; have hfz29_4 := blk_frozen BK344.out 4))
              refine bodyPost_ret (results_ct rfl _ _ gb344 54 #[.string t345, .int .i64 t346, .int .i64 t347, .int .i64 t348, .int .i64 t349] (0, 0) _ rfl (by (with_reducible repeat (first | refine blk_drewN ?_ _ | refine blk_drew ?_ | refine blk_alloc ?_ _)); refine blk_put (cs := #[.string t345, .int .i64 t346, .int .i64 t347, .int .i64 t348, .int .i64 x345004_2]) ?_ 4 _ rfl; (with_reducible repeat (first | refine blk_drewN ?_ _ | refine blk_drew ?_ | refine blk_alloc ?_ _)); refine blk_put (cs := #[.string t345, .int .i64 t346, .int .i64 t347, .int .i64 x345003_2, .int .i64 x345004_2]) ?_ 3 _ rfl; (with_reducible repeat (first | refine blk_drewN ?_ _ | refine blk_drew ?_ | refine blk_alloc ?_ _)); refine blk_put (cs := #[.string t345, .int .i64 t346, .int .i64 x345002_2, .int .i64 x345003_2, .int .i64 x345004_2]) ?_ 2 _ rfl; (with_reducible repeat (first | refine blk_drewN ?_ _ | refine blk_drew ?_ | refine blk_alloc ?_ _)); refine blk_put (cs := #[.string t345, .int .i64 x345001_2, .int .i64 x345002_2, .int .i64 x345003_2, .int .i64 x345004_2]) ?_ 1 _ rfl; (with_reducible repeat (first | refine blk_drewN ?_ _ | refine blk_drew ?_ | refine blk_alloc ?_ _)); refine blk_put (cs := #[.string x345000_2, .int .i64 x345001_2, .int .i64 x345002_2, .int .i64 x345003_2, .int .i64 x345004_2]) ?_ 0 _ rfl; (with_reducible repeat (first | refine blk_drewN ?_ _ | refine blk_drew ?_ | refine blk_alloc ?_ _)); exact BK344.out) Try.underlying54 rfl (by kernel_rfl)) rfl ?_
              exact ⟨by first | rfl | (simp [errW_none, errW_some] <;> rfl) | (simp [*, errW_none, errW_some] <;> rfl), by repeat (first | (with_reducible first | exact HB.out | apply below_alloc | apply pw_below_drewN | apply below_drew1 | refine below_set ?_ GE343.out | refine below_set ?_ GE344.out) | exact HB.out)⟩
  · rw [if_neg c3] at H
    have c3b0 : (a0_3 == 0) = false := beq_eq_false_iff_ne.mpr c3
    have c3b1 : (a0_3 != 0) = true := bne_iff_ne.mpr c3
    simp only [Option.some.injEq, Prod.mk.injEq] at H
    obtain ⟨rfl, rfl, rfl, rfl, rfl, rfl⟩ := H
    go_enter Try.func53, Try.ntmps53
    go_wp2_with (first | ((with_reducible refine gate_dst (N := 2) rfl ?_); refine box_event ?hg (N := 2) ?hd (cs := #[.string a0_0, .int .i64 a0_1, .int .i64 a0_2, .int .i64 a0_3, .int .i64 a0_4]) (t := 54) ?hr ?_; (case hd => rfl); (case hg => rfl); (case hr => first | (go_simp; done) | (go_simp; rfl)); intro gb343 hg w30 hbox hb; have n0_ := Aside0.mk (below_step (by repeat (first | (with_reducible first | exact HB.out | apply below_alloc | apply pw_below_drewN | apply below_drew1) | exact HB.out)) hb); have n1_ := Aside0.mk (hbox); have n2_ := Aside0.mk ((by rw [hg]; exact (below_size (by repeat (first | (with_reducible first | exact HB.out | apply below_alloc | apply pw_below_drewN | apply below_drew1) | exact HB.out))) : w.heap.size ≤ gb343)); have n3_ := Aside0.mk ((by rw [hg]; exact (below_size (by repeat (first | (with_reducible first | exact HB.out | apply below_alloc | apply pw_below_drewN | apply below_drew1) | exact HB.out))) : w.heap.size ≤ gb343)); clear HB; have HB := n0_; have BK343 := n1_; have GW343 := n2_; have GE343 := n3_; clear n0_ n1_ n2_ n3_; clear hb hbox hg) | ((with_reducible refine gate_dst (N := 4) rfl ?_); refine box_event ?hg (N := 4) ?hd (cs := #[.string (⟨#[]⟩ : ByteArray), .int .i64 0, .int .i64 0, .int .i64 0, .int .i64 0]) (t := 54) ?hr ?_; (case hd => rfl); (case hg => rfl); (case hr => first | (go_simp; done) | (go_simp; rfl)); intro gb344 hg w31 hbox hb; have n0_ := Aside0.mk (blk_below (g := gb343) (o := .cells #[.string a0_0, .int .i64 a0_1, .int .i64 a0_2, .int .i64 a0_3, .int .i64 a0_4] 54 (0, 0)) (by (with_reducible repeat (first | refine blk_drewN ?_ _ | refine blk_drew ?_ | refine blk_alloc ?_ _)); exact BK343.out) hb); have n1_ := Aside0.mk (below_step (by repeat (first | (with_reducible first | exact HB.out | apply below_alloc | apply pw_below_drewN | apply below_drew1 | refine below_set ?_ GE343.out) | exact HB.out)) hb); have n2_ := Aside0.mk (hbox); have n3_ := Aside0.mk ((by rw [hg]; exact (below_size (by repeat (first | (with_reducible first | exact HB.out | apply below_alloc | apply pw_below_drewN | apply below_drew1 | refine below_set ?_ GE343.out) | exact HB.out))) : w.heap.size ≤ gb344)); have n4_ := Aside0.mk ((by rw [hg]; exact (below_size (by repeat (first | (with_reducible first | exact HB.out | apply below_alloc | apply pw_below_drewN | apply below_drew1 | refine below_set ?_ GE343.out) | exact HB.out))) : w.heap.size ≤ gb344)); have n5_ := Aside0.mk ((by rw [hg]; exact Nat.ne_of_lt (blk_lt (g := gb343) (o := .cells #[.string a0_0, .int .i64 a0_1, .int .i64 a0_2, .int .i64 a0_3, .int .i64 a0_4] 54 (0, 0)) (by (with_reducible repeat (first | refine blk_drewN ?_ _ | refine blk_drew ?_ | refine blk_alloc ?_ _)); exact BK343.out)) : gb343 ≠ gb344)); have n6_ := Aside0.mk ((by rw [hg]; exact Nat.ne_of_gt (blk_lt (g := gb343) (o := .cells #[.string a0_0, .int .i64 a0_1, .int .i64 a0_2, .int .i64 a0_3, .int .i64 a0_4] 54 (0, 0)) (by (with_reducible repeat (first | refine blk_drewN ?_ _ | refine blk_drew ?_ | refine blk_alloc ?_ _)); exact BK343.out)) : gb344 ≠ gb343)); clear BK343; clear HB; have BK343 := n0_; have HB := n1_; have BK344 := n2_; have GW344 := n3_; have GE344 := n4_; have NB343_344 := n5_; have NB344_343 := n6_; clear n0_ n1_ n2_ n3_ n4_ n5_ n6_; clear hb hbox hg; have hnb32 := NB343_344.out; have hnc32 := NB344_343.out; have hcz33_0 : w31.cell? ⟨gb343, 0, none⟩ = some (.string a0_0) := (blk_cell BK343.out 0).trans rfl; have hcz33_1 : w31.cell? ⟨gb343, 1, none⟩ = some (.int .i64 a0_1) := (blk_cell BK343.out 1).trans rfl; have hcz33_2 : w31.cell? ⟨gb343, 2, none⟩ = some (.int .i64 a0_2) := (blk_cell BK343.out 2).trans rfl; have hcz33_3 : w31.cell? ⟨gb343, 3, none⟩ = some (.int .i64 a0_3) := (blk_cell BK343.out 3).trans rfl; have hcz33_4 : w31.cell? ⟨gb343, 4, none⟩ = some (.int .i64 a0_4) := (blk_cell BK343.out 4).trans rfl; have hfz33_0 := blk_frozen BK343.out 0; have hfz33_1 := blk_frozen BK343.out 1; have hfz33_2 := blk_frozen BK343.out 2; have hfz33_3 := blk_frozen BK343.out 3; have hfz33_4 := blk_frozen BK343.out 4; have hcz34_0 : w31.cell? ⟨gb344, 0, none⟩ = some (.string (⟨#[]⟩ : ByteArray)) := (blk_cell BK344.out 0).trans rfl; have hcz34_1 : w31.cell? ⟨gb344, 1, none⟩ = some (.int .i64 0) := (blk_cell BK344.out 1).trans rfl; have hcz34_2 : w31.cell? ⟨gb344, 2, none⟩ = some (.int .i64 0) := (blk_cell BK344.out 2).trans rfl; have hcz34_3 : w31.cell? ⟨gb344, 3, none⟩ = some (.int .i64 0) := (blk_cell BK344.out 3).trans rfl; have hcz34_4 : w31.cell? ⟨gb344, 4, none⟩ = some (.int .i64 0) := (blk_cell BK344.out 4).trans rfl; have hfz34_0 := blk_frozen BK344.out 0; have hfz34_1 := blk_frozen BK344.out 1; have hfz34_2 := blk_frozen BK344.out 2; have hfz34_3 := blk_frozen BK344.out 3; have hfz34_4 := blk_frozen BK344.out 4))
    refine bodyPost_ret (results_ct rfl _ _ gb344 54 #[.string a0_0, .int .i64 a0_1, .int .i64 a0_2, .int .i64 a0_3, .int .i64 a0_4] (0, 0) _ rfl (by (with_reducible repeat (first | refine blk_drewN ?_ _ | refine blk_drew ?_ | refine blk_alloc ?_ _)); refine blk_put (cs := #[.string a0_0, .int .i64 a0_1, .int .i64 a0_2, .int .i64 a0_3, .int .i64 0]) ?_ 4 _ rfl; (with_reducible repeat (first | refine blk_drewN ?_ _ | refine blk_drew ?_ | refine blk_alloc ?_ _)); refine blk_put (cs := #[.string a0_0, .int .i64 a0_1, .int .i64 a0_2, .int .i64 0, .int .i64 0]) ?_ 3 _ rfl; (with_reducible repeat (first | refine blk_drewN ?_ _ | refine blk_drew ?_ | refine blk_alloc ?_ _)); refine blk_put (cs := #[.string a0_0, .int .i64 a0_1, .int .i64 0, .int .i64 0, .int .i64 0]) ?_ 2 _ rfl; (with_reducible repeat (first | refine blk_drewN ?_ _ | refine blk_drew ?_ | refine blk_alloc ?_ _)); refine blk_put (cs := #[.string a0_0, .int .i64 0, .int .i64 0, .int .i64 0, .int .i64 0]) ?_ 1 _ rfl; (with_reducible repeat (first | refine blk_drewN ?_ _ | refine blk_drew ?_ | refine blk_alloc ?_ _)); refine blk_put (cs := #[.string (⟨#[]⟩ : ByteArray), .int .i64 0, .int .i64 0, .int .i64 0, .int .i64 0]) ?_ 0 _ rfl; (with_reducible repeat (first | refine blk_drewN ?_ _ | refine blk_drew ?_ | refine blk_alloc ?_ _)); exact BK344.out) Try.underlying54 rfl (by kernel_rfl)) rfl ?_
    exact ⟨by first | rfl | (simp [errW_none, errW_some] <;> rfl) | (simp [*, errW_none, errW_some] <;> rfl), by repeat (first | (with_reducible first | exact HB.out | apply below_alloc | apply pw_below_drewN | apply below_drew1 | refine below_set ?_ GE343.out | refine below_set ?_ GE344.out) | exact HB.out)⟩

-- NOT PRINTED: function 34 (diacriticlaw01_do)

-- NOT PRINTED: function 8 (diacriticlaw01_OctetReads)

-- NOT PRINTED: function 9 (diacriticlaw01_OctetNil)

/-! ### strings_Join: function 55 -/
theorem add_plain_ (g o j : Nat) : (⟨g, o, none⟩ : Addr).add j = ⟨g, o + j, none⟩ := by unfold Addr.add; split <;> simp_all
def strings_Join.f (l0 : List ByteArray) (a1 : ByteArray) : Option (ByteArray) :=
  if l0.length ≤ 140737488355328 ∧ (Lib.join (l0.map (·.data.toList)) a1.data.toList).length ≤ 140737488355328 then some ⟨(Lib.join (l0.map (·.data.toList)) a1.data.toList).toArray⟩ else none
theorem strings_Join.calls (A0 : Option Addr) (c0 : Nat) (l0 : List ByteArray) (a1 : ByteArray) (r : ByteArray) (w : World) (hr0 : Kd.C Kd.string w A0 l0.length l0) (hc0 : l0.length ≤ c0) (h : strings_Join.f l0 a1 = some r) :
    Calls Try.prog 55 #[.slice A0 l0.length c0, .string a1] w fun e w' => e = .returned (.string r) ∧ Below w.heap.size w w' := by
  unfold strings_Join.f at h
  by_cases hg : l0.length ≤ 140737488355328 ∧ (Lib.join (l0.map (·.data.toList)) a1.data.toList).length ≤ 140737488355328
  case neg => rw [if_neg hg] at h; exact absurd h (by simp)
  rw [if_pos hg] at h
  obtain rfl := Option.some.inj h
  clear h
  obtain ⟨h1, h2⟩ := hg
  rcases Nat.eq_zero_or_pos l0.length with h0 | h0
  · obtain rfl : l0 = [] := List.eq_nil_of_length_eq_zero h0
    exact (Try.strings_Join_none A0 c0 a1 w).mono fun e w' ⟨he, hw⟩ => ⟨he, hw ▸ Below.refl _ _⟩
  · obtain ⟨ad, rfl, hc⟩ := hr0.2.2 h0
    have cell : ∀ (j : Nat) x, l0[j]? = some x → w.cell? (ad.add j) = some (.string x) := by
      intro j x hx
      obtain ⟨c, hl, hR, hcc⟩ := hc j x hx
      have hR' : c = [.string x] := hR
      subst hR'
      have := hcc 0 (.string x) rfl
      rw [Nat.add_zero] at this
      rwa [show Kd.string.sz = 1 from rfl, Nat.mul_one] at this
    have c00 := cell 0 l0[0] (List.getElem?_eq_getElem h0)
    obtain ⟨bk, o, sp⟩ := ad
    have hsp : sp = none := by
      cases sp with
      | none => rfl
      | some s =>
        exfalso
        simp only [Addr.add, if_pos] at c00
        unfold World.cell? at c00
        split at c00 <;> simp at c00
    subst hsp
    have hbk : bk < w.heap.size := World.block_lt_of_cell? w _ c00
    exact (Try.strings_Join bk o c0 l0 a1 w (fun j x hx => by have := cell j x hx; rwa [add_plain_ bk o j] at this) hbk h1 hc0 h2).mono fun e w' ⟨he, hb⟩ => ⟨he, hb⟩


/-! ### octet_Join: function 43 -/
def octet_Join.f (l0 : List ByteArray) : Option (ByteArray) := (strings_Join.f l0 (⟨#[]⟩ : ByteArray)).bind fun t479 => (some t479)
set_option maxHeartbeats 8000000 in
set_option maxRecDepth 100000 in
theorem octet_Join.calls (A0 : Option Addr) (c0 : Nat) (l0 : List ByteArray) (r : ByteArray) (w : World) (hr0 : Kd.C Kd.string w A0 l0.length l0) (hc0 : l0.length ≤ c0) (h : octet_Join.f l0 = some r) :
    Calls Try.prog 43 #[.slice A0 l0.length c0] w fun e w' => e = .returned (.string r) ∧ Below w.heap.size w w' := by
  have HR0 := Aside0.mk hr0
  have HC0 := Aside0.mk hc0
  clear hr0 hc0
  have HB := Aside0.mk (Below.refl w.heap.size w)
  have H : ((strings_Join.f l0 (⟨#[]⟩ : ByteArray)).bind fun t479 => (some t479)) = some r := h
  clear h
  replace H := Option.bind_eq_some_iff.mp H
  obtain ⟨t479, A20, H⟩ := H
  replace H : (some t479) = some r := H
  have A2 := Aside0.mk A20
  clear A20
  obtain rfl := Option.some.inj H
  go_enter Try.func43, Try.ntmps43
  go_wp2_with (first | ((with_reducible refine gate_callee (f := 55) rfl ?_); refine goesL_ (some 4) rfl rfl Try.func55 (by kernel_rfl) rfl #[.slice A0 l0.length c0, .string (⟨#[]⟩ : ByteArray)] rfl (by (try simp only [List.map_toArray, List.map_cons, List.map_nil]); first | done | rfl | (simp only [List.length_drop, List.length_take]; rfl)) ?_; (with_reducible refine (strings_Join.calls _ _ l0 (⟨#[]⟩ : ByteArray) t479 _ ?side1 ?side2 A2.out).mono ?_); (case side1 => repeat (first | exact HR0.out | (with_reducible refine Kd.C_alloc ?_ _) | (with_reducible refine Kd.C_drewN ?_ _) | (with_reducible refine Kd.C_drew ?_))); (case side2 => exact HC0.out); rintro e w3 ⟨rfl, hb⟩; refine ⟨_, rfl, ?_⟩; have n0_ := Aside0.mk (below_step (by repeat (first | (with_reducible first | exact HB.out | apply below_alloc | apply pw_below_drewN | apply below_drew1) | exact HB.out)) hb); clear HB; have HB := n0_; clear n0_; (try clear hb); (try clear hb2); (try clear hk); (try clear hi)))
  go_ret
  exact ⟨by first | rfl | (simp [errW_none, errW_some] <;> rfl) | (simp [*, errW_none, errW_some] <;> rfl), by repeat (first | (with_reducible first | exact HB.out | apply below_alloc | apply pw_below_drewN | apply below_drew1) | exact HB.out)⟩

end Go.Proofs.Ytkcckhlkaknggaa.PAll
