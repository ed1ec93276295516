/- Written by a program of this session: functions of the Go program as Lean functions, and the walks that tie them to it. -/
import Derived.Test.YtmfamkkikiglmaaPAllx0
import Derived.Test.YtmfamkkikiglmaaPAllx1
import Derived.Test.YtmfamkkikiglmaaPAllx2
import Derived.Test.YtmfamkkikiglmaaPAllx3
import Derived.Test.YtmfamkkikiglmaaPAllx4
import Derived.Test.YtmfamkkikiglmaaPAllx7
import Derived.Test.YtmfamkkikiglmaaPAllx8
import Derived.Test.YtmfamkkikiglmaaPAllx9
import Derived.Test.YtmfamkkikiglmaaPAllx10
namespace Go.Proofs.Ytmfamkkikiglmaa.PAll
open Go.RowKit Go.Proofs.YtmfamkkikiglmaaW.PrintWords Go.Proofs.YtmfamkkikiglmaaW.PrintLast Go.Proofs.YtmfamkkikiglmaaW.PrintMore
attribute [local go_sem] max2_int min2_int max_two min_two max_three min_three max_four min_four   -- for this text's walks alone
set_option linter.unusedVariables false
set_option linter.unusedSimpArgs false

attribute [local go_sem high] eqA27 eqA32
/-! ### octet_Read: function 14 -/
def octet_Read.f (a0 : ByteArray) : Option (ByteArray × Int × Int × Int × Int) := some (a0, 0, 0, 0, 0)
set_option maxHeartbeats 8000000 in
set_option maxRecDepth 100000 in
theorem octet_Read.calls (a0 : ByteArray) (r1 : ByteArray) (r2 : Int) (r3 : Int) (r4 : Int) (r5 : Int) (w0 w : World) (hB : Below w0.heap.size w0 w) (h : octet_Read.f a0 = some (r1, r2, r3, r4, r5)) :
    Calls Try.prog 14 #[.string a0] w fun e w' => ∃ g_ : Nat, e = .returned (.pointer (some ⟨g_, 0, none⟩)) ∧ IsS81 w0 w' g_ r1 r2 r3 r4 r5 ∧ Below w0.heap.size w0 w' ∧ Below w.heap.size w w' := by
  have hu81 := Try.underlying81
  have HBW := Aside0.mk (Below.refl w.heap.size w)
  have HW0 := Aside0.mk hB.size
  have HB := Aside0.mk hB
  clear hB
  have H : (some (a0, 0, 0, 0, 0)) = some (r1, r2, r3, r4, r5) := h
  clear h
  simp only [Option.some.injEq, Prod.mk.injEq] at H
  obtain ⟨rfl, rfl, rfl, rfl, rfl⟩ := H
  go_enter Try.func14, Try.ntmps14
  go_wp2_with (first | ((with_reducible refine gate_dst (N := 5) rfl ?_); refine box_event ?hg (N := 5) ?hd (cs := #[.string a0, .int .i64 0, .int .i64 0, .int .i64 0, .int .i64 0]) (t := 81) ?hr ?_; (case hd => rfl); (case hg => rfl); (case hr => first | (go_simp; done) | (go_simp; rfl)); intro gb281 hg w2 hbox hb; have n0_ := Aside0.mk (below_step HBW.out hb); have n1_ := Aside0.mk (below_step (by repeat (first | (with_reducible first | exact HB.out | apply below_alloc | apply pw_below_drewN | apply below_drew1) | exact HB.out)) hb); have n2_ := Aside0.mk (hbox); have n3_ := Aside0.mk ((by rw [hg]; exact (below_size (by repeat (first | (with_reducible first | exact HBW.out | apply below_alloc | apply pw_below_drewN | apply below_drew1) | exact HBW.out))) : w.heap.size ≤ gb281)); have n4_ := Aside0.mk ((Nat.le_trans HW0.out (by rw [hg]; exact (below_size (by repeat (first | (with_reducible first | exact HBW.out | apply below_alloc | apply pw_below_drewN | apply below_drew1) | exact HBW.out))) : w.heap.size ≤ gb281) : w0.heap.size ≤ gb281)); clear HBW; clear HB; have HBW := n0_; have HB := n1_; have BK281 := n2_; have GW281 := n3_; have GE281 := n4_; clear n0_ n1_ n2_ n3_ n4_; clear hb hbox hg))
  go_ret
  exact ⟨_, rfl, (show IsS81 w0 _ gb281 a0 0 0 0 0 from ⟨by (with_reducible repeat (first | refine blk_drewN ?_ _ | refine blk_drew ?_ | refine blk_alloc ?_ _)); exact BK281.out, GE281.out⟩), by repeat (first | (with_reducible first | exact HB.out | apply below_alloc | apply pw_below_drewN | apply below_drew1 | refine below_set ?_ GE281.out) | exact HB.out), by repeat (first | (with_reducible first | exact HBW.out | apply below_alloc | apply pw_below_drewN | apply below_drew1 | refine below_set ?_ GW281.out) | exact HBW.out)⟩

/-! ### page_Page_Open: function 20 -/
def page_Page_Open.f (a0_0 : Int) (a0_1 : Int) (a0_2 : Int) (a0_3 : Int) (a0_4 : ByteArray) (a0_5 : ByteArray) : Option (Bool) := if a0_4.toList = ([] : List UInt8) then (some false) else (if 0 ≤ (wrap64 ((a0_4.size : Int) - 1)) then (if (wrap64 ((a0_4.size : Int) - 1)) < (a0_4.size : Int) then (some ((bt a0_4 (wrap64 ((a0_4.size : Int) - 1))) == 255)) else (none)) else (none))
set_option maxHeartbeats 8000000 in
set_option maxRecDepth 100000 in
theorem page_Page_Open.calls (a0_0 : Int) (a0_1 : Int) (a0_2 : Int) (a0_3 : Int) (a0_4 : ByteArray) (a0_5 : ByteArray) (r : Bool) (w : World) (h : page_Page_Open.f a0_0 a0_1 a0_2 a0_3 a0_4 a0_5 = some r) :
    Calls Try.prog 20 #[.agg #[.int .u8 a0_0, .int .u64 a0_1, .int .u32 a0_2, .int .u32 a0_3, .string a0_4, .string a0_5]] w fun e w' => e = .returned (.bool r) ∧ Below w.heap.size w w' := by
  have hu27 := Try.underlying27
  have HB := Aside0.mk (Below.refl w.heap.size w)
  have H : (if a0_4.toList = ([] : List UInt8) then (some false) else (if 0 ≤ (wrap64 ((a0_4.size : Int) - 1)) then (if (wrap64 ((a0_4.size : Int) - 1)) < (a0_4.size : Int) then (some ((bt a0_4 (wrap64 ((a0_4.size : Int) - 1))) == 255)) else (none)) else (none))) = some r := h
  clear h
  by_cases c2 : a0_4.toList = ([] : List UInt8)
  · rw [if_pos c2] at H
    have c2b0 : (a0_4.toList == ([] : List UInt8)) = true := beq_iff_eq.mpr c2
    have c2b1 : (a0_4.toList != ([] : List UInt8)) = false := bne_eq_false_iff_eq.mpr c2
    clear c2
    obtain rfl := Option.some.inj H
    go_enter Try.func20, Try.ntmps20
    go_wp2_with (first | ((with_reducible refine gate_dst (N := 1) rfl ?_); (try (refine gate_guard (by rfl) ?_; dsimp only)); refine box_event ?hg (N := 1) ?hd (cs := #[.int .u8 a0_0, .int .u64 a0_1, .int .u32 a0_2, .int .u32 a0_3, .string a0_4, .string a0_5]) (t := 27) ?hr ?_; (case hd => rfl); (case hg => rfl); (case hr => first | (go_simp; done) | (go_simp; rfl)); intro gb282 hg w3 hbox hb; have n0_ := Aside0.mk (below_step (by repeat (first | (with_reducible first | exact HB.out | apply below_alloc | apply pw_below_drewN | apply below_drew1) | exact HB.out)) hb); have n1_ := Aside0.mk (hbox); have n2_ := Aside0.mk ((by rw [hg]; exact (below_size (by repeat (first | (with_reducible first | exact HB.out | apply below_alloc | apply pw_below_drewN | apply below_drew1) | exact HB.out))) : w.heap.size ≤ gb282)); have n3_ := Aside0.mk ((by rw [hg]; exact (below_size (by repeat (first | (with_reducible first | exact HB.out | apply below_alloc | apply pw_below_drewN | apply below_drew1) | exact HB.out))) : w.heap.size ≤ gb282)); clear HB; have HB := n0_; have BK282 := n1_; have GW282 := n2_; have GE282 := n3_; clear n0_ n1_ n2_ n3_; clear hb hbox hg; have hcz4_0 : w3.cell? ⟨gb282, 0, none⟩ = some (.int .u8 a0_0) := (blk_cell BK282.out 0).trans rfl; have hcz4_1 : w3.cell? ⟨gb282, 1, none⟩ = some (.int .u64 a0_1) := (blk_cell BK282.out 1).trans rfl; have hcz4_2 : w3.cell? ⟨gb282, 2, none⟩ = some (.int .u32 a0_2) := (blk_cell BK282.out 2).trans rfl; have hcz4_3 : w3.cell? ⟨gb282, 3, none⟩ = some (.int .u32 a0_3) := (blk_cell BK282.out 3).trans rfl; have hcz4_4 : w3.cell? ⟨gb282, 4, none⟩ = some (.string a0_4) := (blk_cell BK282.out 4).trans rfl; have hcz4_5 : w3.cell? ⟨gb282, 5, none⟩ = some (.string a0_5) := (blk_cell BK282.out 5).trans rfl; have hfz4_0 := blk_frozen BK282.out 0; have hfz4_1 := blk_frozen BK282.out 1; have hfz4_2 := blk_frozen BK282.out 2; have hfz4_3 := blk_frozen BK282.out 3; have hfz4_4 := blk_frozen BK282.out 4; have hfz4_5 := blk_frozen BK282.out 5))
    go_ret
    exact ⟨by first | rfl | (simp [errW_none, errW_some] <;> rfl) | (simp [*, errW_none, errW_some] <;> rfl), by repeat (first | (with_reducible first | exact HB.out | apply below_alloc | apply pw_below_drewN | apply below_drew1 | refine below_set ?_ GE282.out) | exact HB.out)⟩
  · rw [if_neg c2] at H
    have c2b0 : (a0_4.toList == ([] : List UInt8)) = false := beq_eq_false_iff_ne.mpr c2
    have c2b1 : (a0_4.toList != ([] : List UInt8)) = true := bne_iff_ne.mpr c2
    obtain ⟨ji5, hji5⟩ : ∃ j_ : Int, (wrap64 ((a0_4.size : Int) - 1)) = j_ := ⟨_, rfl⟩
    replace H : (if 0 ≤ (ji5) then (if (ji5) < (a0_4.size : Int) then (some ((bt a0_4 (ji5)) == 255)) else (none)) else (none)) = some r := by first | (rw [hji5] at H; exact H) | (simp only [hji5] at H ⊢; exact H)
    have hji5w : (IntKind.i64.wrap ((a0_4.size : Int) - 1)) = ji5 := (i64_w _).trans hji5
    by_cases c6 : 0 ≤ (ji5)
    · rw [if_pos c6] at H
      have c6b0 : decide (0 ≤ (ji5)) = true := decide_eq_true c6
      clear c6
      by_cases c7 : (ji5) < (a0_4.size : Int)
      · rw [if_pos c7] at H
        have c7b0 : decide ((ji5) < (a0_4.size : Int)) = true := decide_eq_true c7
        clear c7
        obtain rfl := Option.some.inj H
        go_enter Try.func20, Try.ntmps20
        go_wp2_with (first | ((with_reducible refine gate_dst (N := 1) rfl ?_); (try (refine gate_guard (by rfl) ?_; dsimp only)); refine box_event ?hg (N := 1) ?hd (cs := #[.int .u8 a0_0, .int .u64 a0_1, .int .u32 a0_2, .int .u32 a0_3, .string a0_4, .string a0_5]) (t := 27) ?hr ?_; (case hd => rfl); (case hg => rfl); (case hr => first | (go_simp; done) | (go_simp; rfl)); intro gb282 hg w9 hbox hb; have n0_ := Aside0.mk (below_step (by repeat (first | (with_reducible first | exact HB.out | apply below_alloc | apply pw_below_drewN | apply below_drew1) | exact HB.out)) hb); have n1_ := Aside0.mk (hbox); have n2_ := Aside0.mk ((by rw [hg]; exact (below_size (by repeat (first | (with_reducible first | exact HB.out | apply below_alloc | apply pw_below_drewN | apply below_drew1) | exact HB.out))) : w.heap.size ≤ gb282)); have n3_ := Aside0.mk ((by rw [hg]; exact (below_size (by repeat (first | (with_reducible first | exact HB.out | apply below_alloc | apply pw_below_drewN | apply below_drew1) | exact HB.out))) : w.heap.size ≤ gb282)); clear HB; have HB := n0_; have BK282 := n1_; have GW282 := n2_; have GE282 := n3_; clear n0_ n1_ n2_ n3_; clear hb hbox hg; have hcz10_0 : w9.cell? ⟨gb282, 0, none⟩ = some (.int .u8 a0_0) := (blk_cell BK282.out 0).trans rfl; have hcz10_1 : w9.cell? ⟨gb282, 1, none⟩ = some (.int .u64 a0_1) := (blk_cell BK282.out 1).trans rfl; have hcz10_2 : w9.cell? ⟨gb282, 2, none⟩ = some (.int .u32 a0_2) := (blk_cell BK282.out 2).trans rfl; have hcz10_3 : w9.cell? ⟨gb282, 3, none⟩ = some (.int .u32 a0_3) := (blk_cell BK282.out 3).trans rfl; have hcz10_4 : w9.cell? ⟨gb282, 4, none⟩ = some (.string a0_4) := (blk_cell BK282.out 4).trans rfl; have hcz10_5 : w9.cell? ⟨gb282, 5, none⟩ = some (.string a0_5) := (blk_cell BK282.out 5).trans rfl; have hfz10_0 := blk_frozen BK282.out 0; have hfz10_1 := blk_frozen BK282.out 1; have hfz10_2 := blk_frozen BK282.out 2; have hfz10_3 := blk_frozen BK282.out 3; have hfz10_4 := blk_frozen BK282.out 4; have hfz10_5 := blk_frozen BK282.out 5; have p8 : 0 ≤ ((ji5) : Int) := of_decide_eq_true (by first | (with_reducible assumption) | assumption); have q8 : (ji5) < (a0_4.size : Int) := of_decide_eq_true (by first | (with_reducible assumption) | assumption); have hx8 := bt_at a0_4 (ji5); replace p8 := eq_true p8; replace q8 := eq_true q8))
        go_ret
        exact ⟨by first | rfl | (simp [errW_none, errW_some] <;> rfl) | (simp only [← hji5]; first | rfl | (simp [errW_none, errW_some] <;> rfl)) | (simp [*, errW_none, errW_some] <;> rfl), by repeat (first | (with_reducible first | exact HB.out | apply below_alloc | apply pw_below_drewN | apply below_drew1 | refine below_set ?_ GE282.out) | exact HB.out)⟩
      · rw [if_neg c7] at H
        exact absurd H (by simp)
    · rw [if_neg c6] at H
      exact absurd H (by simp)

/-! ### octet_Safe: function 77 -/
def octet_Safe.f (a0 : Int) : Option (ByteArray × Bool) := if a0 > 268435455 then (some ((⟨#[]⟩ : ByteArray), false)) else (some (strOfNums (([(a0 / 2097152) % 256, (Go.bits .and .u64 (a0 / 16384) 127) % 256, (Go.bits .and .u64 (a0 / 128) 127) % 256, (Go.bits .and .u64 a0 127) % 256] : List Int)), true))
set_option maxHeartbeats 8000000 in
set_option maxRecDepth 100000 in
theorem octet_Safe.calls (a0 : Int) (r1 : ByteArray) (r2 : Bool) (w : World) (h : octet_Safe.f a0 = some (r1, r2)) :
    Calls Try.prog 77 #[.int .u64 a0] w fun e w' => e = .returned (.tuple #[.string r1, .bool r2]) ∧ Below w.heap.size w w' := by
  have HB := Aside0.mk (Below.refl w.heap.size w)
  have H : (if a0 > 268435455 then (some ((⟨#[]⟩ : ByteArray), false)) else (some (strOfNums (([(a0 / 2097152) % 256, (Go.bits .and .u64 (a0 / 16384) 127) % 256, (Go.bits .and .u64 (a0 / 128) 127) % 256, (Go.bits .and .u64 a0 127) % 256] : List Int)), true))) = some (r1, r2) := h
  clear h
  by_cases c2 : a0 > 268435455
  · rw [if_pos c2] at H
    have c2b0 : decide (268435455 < a0) = true := decide_eq_true c2
    clear c2
    simp only [Option.some.injEq, Prod.mk.injEq] at H
    obtain ⟨rfl, rfl⟩ := H
    go_enter Try.func77, Try.ntmps77
    go_wp2
    go_ret2
    exact ⟨by first | rfl | (simp [errW_none, errW_some] <;> rfl) | (simp [*, errW_none, errW_some] <;> rfl), by repeat (first | (with_reducible first | exact HB.out | apply below_alloc | apply pw_below_drewN | apply below_drew1) | exact HB.out)⟩
  · rw [if_neg c2] at H
    have c2b0 : decide (268435455 < a0) = false := decide_eq_false c2
    clear c2
    obtain ⟨y283, hy283⟩ : ∃ y_ : List Int, y_ = (([(a0 / 2097152) % 256, (Go.bits .and .u64 (a0 / 16384) 127) % 256, (Go.bits .and .u64 (a0 / 128) 127) % 256, (Go.bits .and .u64 a0 127) % 256] : List Int)) := ⟨_, rfl⟩
    replace H : (some (strOfNums y283, true)) = some (r1, r2) := by first | (rw [hy283]; with_reducible exact H) | (have H2_ := (Option.bind_some _ _).symm.trans H; rw [hy283]; with_reducible exact H2_) | (have H2_ := (Option.bind_some _ _).symm.trans H; with_reducible exact H2_) | with_reducible exact H | (rw [hy283]; exact H) | exact H
    have Ny283 := Aside0.mk hy283
    clear hy283
    simp only [Option.some.injEq, Prod.mk.injEq] at H
    obtain ⟨rfl, rfl⟩ := H
    go_enter Try.func77, Try.ntmps77
    go_wp2_with (first | ((with_reducible refine gate_dst (N := 20) rfl ?_); refine Kd.R_lit (Kd.int .u8) _ 5 ?hg (N := 20) ?hd (xs := ([(a0 / 2097152) % 256, (Go.bits .and .u64 (a0 / 16384) 127) % 256, (Go.bits .and .u64 (a0 / 128) 127) % 256, (Go.bits .and .u64 a0 127) % 256] : List Int)) (inner := [.int .u8 ((a0 / 2097152) % 256), .int .u8 ((Go.bits .and .u64 (a0 / 16384) 127) % 256), .int .u8 ((Go.bits .and .u64 (a0 / 128) 127) % 256), .int .u8 ((Go.bits .and .u64 a0 127) % 256)]) (ok := fun _ => True) (okp := fun _ => True) ?hr ?hp (fun _ hk => hk) trivial (Below.refl _ _) (Nat.le_refl _) (by simp) ?_; (case hd => rfl); (case hg => rfl); (case hr => first | (go_simp; done) | (go_simp; rfl)); (case hp => exact (Reps.one (show Kd.M (Kd.int .u8) _ _ _ ((a0 / 2097152) % 256) [.int .u8 ((a0 / 2097152) % 256)] from rfl) (Reps.one (show Kd.M (Kd.int .u8) _ _ _ ((Go.bits .and .u64 (a0 / 16384) 127) % 256) [.int .u8 ((Go.bits .and .u64 (a0 / 16384) 127) % 256)] from rfl) (Reps.one (show Kd.M (Kd.int .u8) _ _ _ ((Go.bits .and .u64 (a0 / 128) 127) % 256) [.int .u8 ((Go.bits .and .u64 (a0 / 128) 127) % 256)] from rfl) (Reps.one (show Kd.M (Kd.int .u8) _ _ _ ((Go.bits .and .u64 a0 127) % 256) [.int .u8 ((Go.bits .and .u64 a0 127) % 256)] from rfl) (Reps.none _ _)))))); intro v284 w3 ho4 hb hg_ hnew_; clear hg_ hnew_; (first | rw [← Ny283.out] at ho4 | (simp only [Int.reduceToNat] at ho4; rw [← Ny283.out] at ho4)); have n0_ := Aside0.mk (Kd.R_lower ho4 (below_size (by repeat (first | (with_reducible first | exact HB.out | apply below_alloc | apply pw_below_drewN | apply below_drew1) | exact HB.out)))); have n1_ := Aside0.mk (below_step (by repeat (first | (with_reducible first | exact HB.out | apply below_alloc | apply pw_below_drewN | apply below_drew1) | exact HB.out)) hb); clear HB; have HO285 := n0_; have HB := n1_; clear n0_ n1_; clear hb ho4; have hcv5 := own_string (P := Try.prog) Try.underlying35 Try.underlying5 Try.underlying9 (Kd.own_of_R HO285.out)))
    go_ret2
    exact ⟨by first | rfl | (simp [errW_none, errW_some] <;> rfl) | (simp [*, errW_none, errW_some] <;> rfl), by repeat (first | (with_reducible first | exact HB.out | apply below_alloc | apply pw_below_drewN | apply below_drew1) | exact HB.out)⟩

/-! ### octet_Inner: function 78 -/
def octet_Inner.f (a0 : ByteArray) (a1 : Int) : Option (ByteArray × Int × Int × Int × Int) := some (a0, 0, mx a1 0, 0, 0)
set_option maxHeartbeats 8000000 in
set_option maxRecDepth 100000 in
theorem octet_Inner.calls (a0 : ByteArray) (a1 : Int) (r1 : ByteArray) (r2 : Int) (r3 : Int) (r4 : Int) (r5 : Int) (w0 w : World) (hB : Below w0.heap.size w0 w) (h : octet_Inner.f a0 a1 = some (r1, r2, r3, r4, r5)) :
    Calls Try.prog 78 #[.string a0, .int .i64 a1] w fun e w' => ∃ g_ : Nat, e = .returned (.pointer (some ⟨g_, 0, none⟩)) ∧ IsS81 w0 w' g_ r1 r2 r3 r4 r5 ∧ Below w0.heap.size w0 w' ∧ Below w.heap.size w w' := by
  have hu81 := Try.underlying81
  have HBW := Aside0.mk (Below.refl w.heap.size w)
  have HW0 := Aside0.mk hB.size
  have HB := Aside0.mk hB
  clear hB
  have H : (some (a0, 0, mx a1 0, 0, 0)) = some (r1, r2, r3, r4, r5) := h
  clear h
  obtain ⟨ji3, hji3⟩ : ∃ j_ : Int, (mx a1 0) = j_ := ⟨_, rfl⟩
  replace H : (some (a0, 0, ji3, 0, 0)) = some (r1, r2, r3, r4, r5) := by first | (rw [hji3] at H; exact H) | (simp only [hji3] at H ⊢; exact H)
  (try (have hji3l : 0 ≤ ji3 := by (rw [← hji3]; unfold mx; (repeat' split) <;> omega)))
  (try (have hji3m : 0 ≤ ji3 := by omega))
  have hji3_ : (if a1 < 0 then 0 else a1) = ji3 := hji3
  simp only [Option.some.injEq, Prod.mk.injEq] at H
  obtain ⟨rfl, rfl, rfl, rfl, rfl⟩ := H
  go_enter Try.func78, Try.ntmps78
  go_wp2_with (first | ((with_reducible refine gate_dst (N := 9) rfl ?_); refine box_event ?hg (N := 9) ?hd (cs := #[.string a0, .int .i64 0, .int .i64 ji3, .int .i64 0, .int .i64 0]) (t := 81) ?hr ?_; (case hd => rfl); (case hg => rfl); (case hr => first | (go_simp; done) | (go_simp; rfl)); intro gb286 hg w4 hbox hb; have n0_ := Aside0.mk (below_step HBW.out hb); have n1_ := Aside0.mk (below_step (by repeat (first | (with_reducible first | exact HB.out | apply below_alloc | apply pw_below_drewN | apply below_drew1) | exact HB.out)) hb); have n2_ := Aside0.mk (hbox); have n3_ := Aside0.mk ((by rw [hg]; exact (below_size (by repeat (first | (with_reducible first | exact HBW.out | apply below_alloc | apply pw_below_drewN | apply below_drew1) | exact HBW.out))) : w.heap.size ≤ gb286)); have n4_ := Aside0.mk ((Nat.le_trans HW0.out (by rw [hg]; exact (below_size (by repeat (first | (with_reducible first | exact HBW.out | apply below_alloc | apply pw_below_drewN | apply below_drew1) | exact HBW.out))) : w.heap.size ≤ gb286) : w0.heap.size ≤ gb286)); clear HBW; clear HB; have HBW := n0_; have HB := n1_; have BK286 := n2_; have GW286 := n3_; have GE286 := n4_; clear n0_ n1_ n2_ n3_ n4_; clear hb hbox hg))
  go_ret
  exact ⟨_, rfl, (show IsS81 w0 _ gb286 a0 0 ji3 0 0 from ⟨by (with_reducible repeat (first | refine blk_drewN ?_ _ | refine blk_drew ?_ | refine blk_alloc ?_ _)); exact BK286.out, GE286.out⟩), by repeat (first | (with_reducible first | exact HB.out | apply below_alloc | apply pw_below_drewN | apply below_drew1 | refine below_set ?_ GE286.out) | exact HB.out), by repeat (first | (with_reducible first | exact HBW.out | apply below_alloc | apply pw_below_drewN | apply below_drew1 | refine below_set ?_ GW286.out) | exact HBW.out)⟩

/-! ### diacriticlaw01_Awake: function 70 -/
def diacriticlaw01_Awake.f (k : Nat)  : Option (Bool) := (octet_Safe.f 129).bind fun bt287 => ((octet_Inner.f (⟨#[97, 98]⟩ : ByteArray) 10).bind fun bt289 => ((octet_In_Take.f bt289.1 bt289.2.1 bt289.2.2.1 bt289.2.2.2.1 bt289.2.2.2.2 3).bind fun bt295 => (if bt287.2 = true then (if bt287.1.toList = ([0, 0, 1, 1] : List UInt8) then ((octet_Big.f k 258 2).bind fun t301 => (if t301.toList = ([1, 2] : List UInt8) then (if bt295.1.toList = ([] : List UInt8) then ((octet_In_Fault.f bt295.2.1 bt295.2.2.1 bt295.2.2.2.1 bt295.2.2.2.2.1 bt295.2.2.2.2.2).bind fun bt302 => (some (bt302.1 == 1 && (bt302.2.1 == 12)))) else (some false)) else (some false))) else (some false)) else (some false))))
theorem diacriticlaw01_Awake.mono : ∀ k, LeO (diacriticlaw01_Awake.f k ) (diacriticlaw01_Awake.f (k + 1) ) := by
  intro  k
  unfold diacriticlaw01_Awake.f
  repeat' first
      | (with_reducible exact octet_Big.mono _ _ _)
      | (with_reducible exact LeO.refl _)
      | (with_reducible exact LeO.none _)
      | (with_reducible refine LeO.ite ?_ ?_)
      | (with_reducible refine LeO.bind ?_ (fun _ => ?_))
      | exact octet_Big.mono _ _ _
      | exact LeO.none _
      | refine LeO.ite ?_ ?_
      | refine LeO.bind ?_ (fun _ => ?_)
set_option maxHeartbeats 8000000 in
set_option maxRecDepth 100000 in
theorem diacriticlaw01_Awake.calls (k : Nat)  (r : Bool) (w : World) (h : diacriticlaw01_Awake.f k  = some r) :
    Calls Try.prog 70 #[] w fun e w' => e = .returned (.bool r) ∧ Below w.heap.size w w' := by
  have hr_ : r = true := by
    have a_ := at_rounds diacriticlaw01_Awake.mono (Nat.le_max_left k 100) h
    have b_ := at_rounds diacriticlaw01_Awake.mono (Nat.le_max_right k 100) (show diacriticlaw01_Awake.f 100 = some true by kernel_rfl)
    exact Option.some.inj (a_.symm.trans b_)
  have hu32 := Try.underlying32
  have HB := Aside0.mk (Below.refl w.heap.size w)
  have H : ((octet_Safe.f 129).bind fun bt287 => ((octet_Inner.f (⟨#[97, 98]⟩ : ByteArray) 10).bind fun bt289 => ((octet_In_Take.f bt289.1 bt289.2.1 bt289.2.2.1 bt289.2.2.2.1 bt289.2.2.2.2 3).bind fun bt295 => (if bt287.2 = true then (if bt287.1.toList = ([0, 0, 1, 1] : List UInt8) then ((octet_Big.f k 258 2).bind fun t301 => (if t301.toList = ([1, 2] : List UInt8) then (if bt295.1.toList = ([] : List UInt8) then ((octet_In_Fault.f bt295.2.1 bt295.2.2.1 bt295.2.2.2.1 bt295.2.2.2.2.1 bt295.2.2.2.2.2).bind fun bt302 => (some (bt302.1 == 1 && (bt302.2.1 == 12)))) else (some false)) else (some false))) else (some false)) else (some false))))) = some r := h
  clear h
  replace H := Option.bind_eq_some_iff.mp H
  obtain ⟨⟨t287, t288⟩, A10, H⟩ := H
  replace H : ((octet_Inner.f (⟨#[97, 98]⟩ : ByteArray) 10).bind fun bt289 => ((octet_In_Take.f bt289.1 bt289.2.1 bt289.2.2.1 bt289.2.2.2.1 bt289.2.2.2.2 3).bind fun bt295 => (if t288 = true then (if t287.toList = ([0, 0, 1, 1] : List UInt8) then ((octet_Big.f k 258 2).bind fun t301 => (if t301.toList = ([1, 2] : List UInt8) then (if bt295.1.toList = ([] : List UInt8) then ((octet_In_Fault.f bt295.2.1 bt295.2.2.1 bt295.2.2.2.1 bt295.2.2.2.2.1 bt295.2.2.2.2.2).bind fun bt302 => (some (bt302.1 == 1 && (bt302.2.1 == 12)))) else (some false)) else (some false))) else (some false)) else (some false)))) = some r := H
  have A1 := Aside0.mk A10
  clear A10
  replace H := Option.bind_eq_some_iff.mp H
  obtain ⟨⟨t289, t290, t291, t292, t293⟩, A20, H⟩ := H
  replace H : ((octet_In_Take.f t289 t290 t291 t292 t293 3).bind fun bt295 => (if t288 = true then (if t287.toList = ([0, 0, 1, 1] : List UInt8) then ((octet_Big.f k 258 2).bind fun t301 => (if t301.toList = ([1, 2] : List UInt8) then (if bt295.1.toList = ([] : List UInt8) then ((octet_In_Fault.f bt295.2.1 bt295.2.2.1 bt295.2.2.2.1 bt295.2.2.2.2.1 bt295.2.2.2.2.2).bind fun bt302 => (some (bt302.1 == 1 && (bt302.2.1 == 12)))) else (some false)) else (some false))) else (some false)) else (some false))) = some r := H
  have A2 := Aside0.mk A20
  clear A20
  replace H := Option.bind_eq_some_iff.mp H
  obtain ⟨⟨t295, t296, t297, t298, t299, t300⟩, A30, H⟩ := H
  replace H : (if t288 = true then (if t287.toList = ([0, 0, 1, 1] : List UInt8) then ((octet_Big.f k 258 2).bind fun t301 => (if t301.toList = ([1, 2] : List UInt8) then (if t295.toList = ([] : List UInt8) then ((octet_In_Fault.f t296 t297 t298 t299 t300).bind fun bt302 => (some (bt302.1 == 1 && (bt302.2.1 == 12)))) else (some false)) else (some false))) else (some false)) else (some false)) = some r := H
  have A3 := Aside0.mk A30
  clear A30
  by_cases c4 : t288 = true
  · subst c4
    have H1 : (if t287.toList = ([0, 0, 1, 1] : List UInt8) then ((octet_Big.f k 258 2).bind fun t301 => (if t301.toList = ([1, 2] : List UInt8) then (if t295.toList = ([] : List UInt8) then ((octet_In_Fault.f t296 t297 t298 t299 t300).bind fun bt302 => (some (bt302.1 == 1 && (bt302.2.1 == 12)))) else (some false)) else (some false))) else (some false)) = some r := by rw [if_pos rfl] at H; exact H
    clear H
    have H := H1
    clear H1
    by_cases c5 : t287.toList = ([0, 0, 1, 1] : List UInt8)
    · rw [if_pos c5] at H
      have c5b0 : (t287.toList == ([0, 0, 1, 1] : List UInt8)) = true := beq_iff_eq.mpr c5
      have c5b1 : (t287.toList != ([0, 0, 1, 1] : List UInt8)) = false := bne_eq_false_iff_eq.mpr c5
      clear c5
      replace H := Option.bind_eq_some_iff.mp H
      obtain ⟨t301, A60, H⟩ := H
      replace H : (if t301.toList = ([1, 2] : List UInt8) then (if t295.toList = ([] : List UInt8) then ((octet_In_Fault.f t296 t297 t298 t299 t300).bind fun bt302 => (some (bt302.1 == 1 && (bt302.2.1 == 12)))) else (some false)) else (some false)) = some r := H
      have A6 := Aside0.mk A60
      clear A60
      by_cases c7 : t301.toList = ([1, 2] : List UInt8)
      · rw [if_pos c7] at H
        have c7b0 : (t301.toList == ([1, 2] : List UInt8)) = true := beq_iff_eq.mpr c7
        have c7b1 : (t301.toList != ([1, 2] : List UInt8)) = false := bne_eq_false_iff_eq.mpr c7
        clear c7
        by_cases c8 : t295.toList = ([] : List UInt8)
        · rw [if_pos c8] at H
          have c8b0 : (t295.toList == ([] : List UInt8)) = true := beq_iff_eq.mpr c8
          have c8b1 : (t295.toList != ([] : List UInt8)) = false := bne_eq_false_iff_eq.mpr c8
          clear c8
          replace H := Option.bind_eq_some_iff.mp H
          obtain ⟨⟨t302, t303, t304, t305, t306, t307, t308⟩, A90, H⟩ := H
          replace H : (some (t302 == 1 && (t303 == 12))) = some r := H
          have A9 := Aside0.mk A90
          clear A90
          obtain rfl := Option.some.inj H
          go_enter Try.func70, Try.ntmps70
          go_wp2_with (first | ((with_reducible refine gate_callee (f := 77) rfl ?_); refine goesL_ (some 6) rfl rfl Try.func77 (by kernel_rfl) rfl #[.int .u64 129] rfl (by (try simp only [List.map_toArray, List.map_cons, List.map_nil]); first | done | rfl | (simp only [List.length_drop, List.length_take]; rfl)) ?_; (with_reducible refine (octet_Safe.calls 129 t287 true _ A1.out).mono ?_); rintro e w10 ⟨rfl, hb⟩; refine ⟨_, rfl, ?_⟩; have n0_ := Aside0.mk (below_step (by repeat (first | (with_reducible first | exact HB.out | apply below_alloc | apply pw_below_drewN | apply below_drew1) | exact HB.out)) hb); clear HB; have HB := n0_; clear n0_; (try clear hb); (try clear hb2); (try clear hk); (try clear hi)) | ((with_reducible refine gate_callee (f := 78) rfl ?_); refine goesL_ (some 9) rfl rfl Try.func78 (by kernel_rfl) rfl #[.string (⟨#[97, 98]⟩ : ByteArray), .int .i64 10] rfl (by (try simp only [List.map_toArray, List.map_cons, List.map_nil]); first | done | rfl | (simp only [List.length_drop, List.length_take]; rfl)) ?_; (with_reducible refine (octet_Inner.calls (⟨#[97, 98]⟩ : ByteArray) 10 t289 t290 t291 t292 t293 w _ ?side1 A2.out).mono ?_); (case side1 => repeat (first | (with_reducible first | exact HB.out | apply below_alloc | apply pw_below_drewN | apply below_drew1) | exact HB.out)); rintro e w11 ⟨g294, rfl, hi, hb, hb2⟩; refine ⟨_, rfl, ?_⟩; have n0_ := Aside0.mk (hb); have n1_ := Aside0.mk (hi); clear HB; have HB := n0_; have HI294 := n1_; clear n0_ n1_; (try clear hb); (try clear hb2); (try clear hk); (try clear hi)) | ((with_reducible refine gate_callee (f := 45) rfl ?_); refine goesL_ (some 11) rfl rfl Try.func45 (by kernel_rfl) rfl #[.pointer (some ⟨g294, 0, none⟩), .int .i64 3] rfl (by (try simp only [List.map_toArray, List.map_cons, List.map_nil]); first | done | rfl | (simp only [List.length_drop, List.length_take]; rfl)) ?_; (with_reducible refine (octet_In_Take.calls g294 t289 t290 t291 t292 t293 3 t295 t296 t297 t298 t299 t300 w _ ?side1 ?side2 A3.out).mono ?_); (case side1 => repeat (first | (with_reducible first | exact HI294.out | apply IsS81.alloc | apply IsS81.drewN | apply IsS81.drew | apply IsS81.set_0 | apply IsS81.set_1 | apply IsS81.set_2 | apply IsS81.set_3 | apply IsS81.set_4) | exact HI294.out)); (case side2 => repeat (first | (with_reducible first | exact HB.out | apply below_alloc | apply pw_below_drewN | apply below_drew1 | refine below_set ?_ (IsS81.ge HI294.out)) | exact HB.out)); rintro e w12 ⟨rfl, hi, hb, hk⟩; refine ⟨_, rfl, ?_⟩; have n0_ := Aside0.mk (hb); have n1_ := Aside0.mk (hi); clear HB; clear HI294; have HB := n0_; have HI294 := n1_; clear n0_ n1_; (try clear hb); (try clear hb2); (try clear hk); (try clear hi)) | (go_at_call 54; (with_reducible refine (octet_Big.calls k 258 2 t301 _ A6.out).mono ?_); rintro e w13 ⟨rfl, hb⟩; have n0_ := Aside0.mk (IsS81.below (by repeat (first | (with_reducible first | exact HI294.out | apply IsS81.alloc | apply IsS81.drewN | apply IsS81.drew | apply IsS81.set_0 | apply IsS81.set_1 | apply IsS81.set_2 | apply IsS81.set_3 | apply IsS81.set_4) | exact HI294.out)) hb); have n1_ := Aside0.mk (below_step (by repeat (first | (with_reducible first | exact HB.out | apply below_alloc | apply pw_below_drewN | apply below_drew1 | refine below_set ?_ (IsS81.ge HI294.out)) | exact HB.out)) hb); clear HI294; clear HB; have HI294 := n0_; have HB := n1_; clear n0_ n1_; (try clear hb); (try clear hb2); (try clear hk); (try clear hi)) | (go_at_call 47; (with_reducible refine (octet_In_Fault.calls g294 t296 t297 t298 t299 t300 t302 t303 t304 t305 t306 t307 t308 w _ ?side1 ?side2 A9.out).mono ?_); (case side1 => repeat (first | (with_reducible first | exact HI294.out | apply IsS81.alloc | apply IsS81.drewN | apply IsS81.drew | apply IsS81.set_0 | apply IsS81.set_1 | apply IsS81.set_2 | apply IsS81.set_3 | apply IsS81.set_4) | exact HI294.out)); (case side2 => repeat (first | (with_reducible first | exact HB.out | apply below_alloc | apply pw_below_drewN | apply below_drew1 | refine below_set ?_ (IsS81.ge HI294.out)) | exact HB.out)); rintro e w14 ⟨rfl, hi, hb, hk⟩; have n0_ := Aside0.mk (hb); have n1_ := Aside0.mk (hi); clear HB; clear HI294; have HB := n0_; have HI294 := n1_; clear n0_ n1_; (try clear hb); (try clear hb2); (try clear hk); (try clear hi)))
          go_ret
          exact ⟨by first | rfl | (simp [errW_none, errW_some] <;> rfl) | (simp [*, errW_none, errW_some] <;> rfl), by repeat (first | (with_reducible first | exact HB.out | apply below_alloc | apply pw_below_drewN | apply below_drew1 | refine below_set ?_ (IsS81.ge HI294.out)) | exact HB.out)⟩
        · rw [if_neg c8] at H
          exact absurd ((Option.some.inj H).trans hr_) (by decide)
      · rw [if_neg c7] at H
        exact absurd ((Option.some.inj H).trans hr_) (by decide)
    · rw [if_neg c5] at H
      exact absurd ((Option.some.inj H).trans hr_) (by decide)
  · replace c4 := Bool.eq_false_iff.mpr c4
    subst c4
    have H1 : (some false) = some r := by rw [if_neg (show ¬ (false = true) by decide)] at H; exact H
    clear H
    have H := H1
    clear H1
    exact absurd ((Option.some.inj H).trans hr_) (by decide)

/-! ### diacriticlaw16_Awake: function 56 -/
def diacriticlaw16_Awake.f : Option (Bool) := some true
set_option maxHeartbeats 8000000 in
set_option maxRecDepth 100000 in
theorem diacriticlaw16_Awake.calls (r : Bool) (w : World) (h : diacriticlaw16_Awake.f = some r) :
    Calls Try.prog 56 #[] w fun e w' => e = .returned (.bool r) ∧ Below w.heap.size w w' := by
  have HB := Aside0.mk (Below.refl w.heap.size w)
  obtain rfl : true = r := Option.some.inj h
  clear h
  have A1 : Aside0 (diacriticlaw01_Awake.f 40 = some true) := ⟨by kernel_rfl⟩
  have A3 : Aside0 (sum_Of.f 40 [] = some 0) := ⟨by kernel_rfl⟩
  obtain ⟨y167, hy167⟩ : ∃ y_ : List ByteArray, y_ = (([(⟨#[1]⟩ : ByteArray)] : List ByteArray)) := ⟨_, rfl⟩
  have A5 : Aside0 (sum_Of.f 40 y167 = some 79764919) := ⟨by rw [hy167]; kernel_rfl⟩
  have Ny167 := Aside0.mk hy167
  clear hy167
  have N3 : ∀ W : World, Calls Try.prog 35 #[.slice none 0 0] W fun e w' => e = .returned (.int .u32 0) ∧ Drawn0 W w' :=
    fun W => sum_Of.calls 40 none 0 [] 0 W (Kd.C_nil _ _) (Nat.le_refl _) A3.out
  go_enter Try.func56, Try.ntmps56
  go_wp2_with (first | ((with_reducible refine gate_callee (f := 70) rfl ?_); refine goesL_ (some 1) rfl rfl Try.func70 (by kernel_rfl) rfl #[] rfl (by (try simp only [List.map_toArray, List.map_cons, List.map_nil]); first | done | rfl | (simp only [List.length_drop, List.length_take]; rfl)) ?_; (with_reducible refine (diacriticlaw01_Awake.calls 40 true _ A1.out).mono ?_); rintro e w6 ⟨rfl, hb⟩; refine ⟨_, rfl, ?_⟩; have n0_ := Aside0.mk (below_step (by repeat (first | (with_reducible first | exact HB.out | apply below_alloc | apply pw_below_drewN | apply below_drew1) | exact HB.out)) hb); clear HB; have HB := n0_; clear n0_; (try clear hb); (try clear hb2); (try clear hk); (try clear hi)) | (go_at_call 35; (with_reducible refine (N3 _).mono ?_); rintro e w' ⟨rfl, ⟨nd, rfl⟩⟩) | ((with_reducible refine gate_dst (N := 7) rfl ?_); (try (refine gate_guard (by rfl) ?_; dsimp only)); refine Kd.R_lit Kd.string _ 9 ?hg (N := 7) ?hd (xs := ([(⟨#[1]⟩ : ByteArray)] : List ByteArray)) (inner := [.string (⟨#[1]⟩ : ByteArray)]) (ok := fun _ => True) (okp := fun _ => True) ?hr ?hp (fun _ hk => hk) trivial (Below.refl _ _) (Nat.le_refl _) (by simp) ?_; (case hd => rfl); (case hg => rfl); (case hr => first | (go_simp; done) | (go_simp; rfl)); (case hp => exact (Reps.one (show Kd.M Kd.string _ _ _ (⟨#[1]⟩ : ByteArray) [.string (⟨#[1]⟩ : ByteArray)] from rfl) (Reps.none _ _))); intro v168 w7 ho8 hb hg_ hnew_; clear hg_ hnew_; (first | rw [← Ny167.out] at ho8 | (simp only [Int.reduceToNat] at ho8; rw [← Ny167.out] at ho8)); have n0_ := Aside0.mk (Kd.R_lower ho8 (below_size (by repeat (first | (with_reducible first | exact HB.out | apply below_alloc | apply pw_below_drewN | apply below_drew1) | exact HB.out)))); have n1_ := Aside0.mk (below_step (by repeat (first | (with_reducible first | exact HB.out | apply below_alloc | apply pw_below_drewN | apply below_drew1) | exact HB.out)) hb); clear HB; have HO169 := n0_; have HB := n1_; clear n0_ n1_; clear hb ho8; obtain ⟨Ao9, co9, eo9⟩ := Kd.R_slice HO169.out; subst eo9) | (go_at_call 35; (with_reducible refine (sum_Of.calls 40 _ _ y167 79764919 _ ?side1 ?side2 A5.out).mono ?_); (case side1 => repeat (first | exact (Kd.R_reads' HO169.out).2.2 | (with_reducible refine Kd.C_alloc ?_ _) | (with_reducible refine Kd.C_drewN ?_ _) | (with_reducible refine Kd.C_drew ?_))); (case side2 => exact (Kd.R_reads' HO169.out).2.1); rintro e w' ⟨rfl, ⟨nd, rfl⟩⟩))
  go_ret
  exact ⟨by first | rfl | (simp [errW_none, errW_some] <;> rfl) | (simp [*, errW_none, errW_some] <;> rfl), by repeat (first | (with_reducible first | exact HB.out | apply below_alloc | apply pw_below_drewN | apply below_drew1) | exact HB.out)⟩


/-! ### diacriticlaw17_Awake: function 34 -/
def diacriticlaw17_Awake.f (k : Nat)  : Option (Bool) := (page_Page_Print.f k 0 0 0 0 (⟨#[]⟩ : ByteArray) (⟨#[]⟩ : ByteArray)).bind fun bt309 => ((octet_Read.f bt309.1).bind fun bt313 => ((page_Parse.f k bt313.1 bt313.2.1 bt313.2.2.1 bt313.2.2.2.1 bt313.2.2.2.2).bind fun bt319 => ((diacriticlaw16_Awake.f).bind fun t332 => (if t332 = true then (if (bt309.1.size : Int) = 27 then ((api_Fault_Bad.f bt309.2.1 bt309.2.2).bind fun t333 => (if t333 = true then (some false) else (if bt319.2.2.2.2.2.2.1 = true then (if ((bt319.1 == 0 && (bt319.2.1 == 0 && (bt319.2.2.1 == 0 && (bt319.2.2.2.1 == 0)))) && (bt319.2.2.2.2.1.toList == ([] : List UInt8) && (bt319.2.2.2.2.2.1.toList == ([] : List UInt8)))) = true then ((page_Page_Open.f 0 0 0 0 (⟨#[3, 255]⟩ : ByteArray) (⟨#[]⟩ : ByteArray)).bind fun t334 => (some t334)) else (some false)) else (some false)))) else (some false)) else (some false)))))
theorem diacriticlaw17_Awake.mono : ∀ k, LeO (diacriticlaw17_Awake.f k ) (diacriticlaw17_Awake.f (k + 1) ) := by
  intro  k
  unfold diacriticlaw17_Awake.f
  repeat' first
      | (with_reducible exact page_Page_Print.mono _ _ _ _ _ _ _)
      | (with_reducible exact page_Parse.mono _ _ _ _ _ _)
      | (with_reducible exact LeO.refl _)
      | (with_reducible exact LeO.none _)
      | (with_reducible refine LeO.ite ?_ ?_)
      | (with_reducible refine LeO.bind ?_ (fun _ => ?_))
      | exact page_Page_Print.mono _ _ _ _ _ _ _
      | exact page_Parse.mono _ _ _ _ _ _
      | exact LeO.none _
      | refine LeO.ite ?_ ?_
      | refine LeO.bind ?_ (fun _ => ?_)
set_option maxHeartbeats 8000000 in
set_option maxRecDepth 100000 in
theorem diacriticlaw17_Awake.calls (k : Nat)  (r : Bool) (w : World) (h : diacriticlaw17_Awake.f k  = some r) :
    Calls Try.prog 34 #[] w fun e w' => e = .returned (.bool r) ∧ Below w.heap.size w w' := by
  have hr_ : r = true := by
    have a_ := at_rounds diacriticlaw17_Awake.mono (Nat.le_max_left k 100) h
    have b_ := at_rounds diacriticlaw17_Awake.mono (Nat.le_max_right k 100) (show diacriticlaw17_Awake.f 100 = some true by kernel_rfl)
    exact Option.some.inj (a_.symm.trans b_)
  have hu27 := Try.underlying27
  have hu32 := Try.underlying32
  have HB := Aside0.mk (Below.refl w.heap.size w)
  have H : ((page_Page_Print.f k 0 0 0 0 (⟨#[]⟩ : ByteArray) (⟨#[]⟩ : ByteArray)).bind fun bt309 => ((octet_Read.f bt309.1).bind fun bt313 => ((page_Parse.f k bt313.1 bt313.2.1 bt313.2.2.1 bt313.2.2.2.1 bt313.2.2.2.2).bind fun bt319 => ((diacriticlaw16_Awake.f).bind fun t332 => (if t332 = true then (if (bt309.1.size : Int) = 27 then ((api_Fault_Bad.f bt309.2.1 bt309.2.2).bind fun t333 => (if t333 = true then (some false) else (if bt319.2.2.2.2.2.2.1 = true then (if ((bt319.1 == 0 && (bt319.2.1 == 0 && (bt319.2.2.1 == 0 && (bt319.2.2.2.1 == 0)))) && (bt319.2.2.2.2.1.toList == ([] : List UInt8) && (bt319.2.2.2.2.2.1.toList == ([] : List UInt8)))) = true then ((page_Page_Open.f 0 0 0 0 (⟨#[3, 255]⟩ : ByteArray) (⟨#[]⟩ : ByteArray)).bind fun t334 => (some t334)) else (some false)) else (some false)))) else (some false)) else (some false)))))) = some r := h
  clear h
  replace H := Option.bind_eq_some_iff.mp H
  obtain ⟨⟨t309, t310, t311⟩, A10, H⟩ := H
  replace H : ((octet_Read.f t309).bind fun bt313 => ((page_Parse.f k bt313.1 bt313.2.1 bt313.2.2.1 bt313.2.2.2.1 bt313.2.2.2.2).bind fun bt319 => ((diacriticlaw16_Awake.f).bind fun t332 => (if t332 = true then (if (t309.size : Int) = 27 then ((api_Fault_Bad.f t310 t311).bind fun t333 => (if t333 = true then (some false) else (if bt319.2.2.2.2.2.2.1 = true then (if ((bt319.1 == 0 && (bt319.2.1 == 0 && (bt319.2.2.1 == 0 && (bt319.2.2.2.1 == 0)))) && (bt319.2.2.2.2.1.toList == ([] : List UInt8) && (bt319.2.2.2.2.2.1.toList == ([] : List UInt8)))) = true then ((page_Page_Open.f 0 0 0 0 (⟨#[3, 255]⟩ : ByteArray) (⟨#[]⟩ : ByteArray)).bind fun t334 => (some t334)) else (some false)) else (some false)))) else (some false)) else (some false))))) = some r := H
  have A1 := Aside0.mk A10
  clear A10
  replace H := Option.bind_eq_some_iff.mp H
  obtain ⟨⟨t313, t314, t315, t316, t317⟩, A20, H⟩ := H
  replace H : ((page_Parse.f k t313 t314 t315 t316 t317).bind fun bt319 => ((diacriticlaw16_Awake.f).bind fun t332 => (if t332 = true then (if (t309.size : Int) = 27 then ((api_Fault_Bad.f t310 t311).bind fun t333 => (if t333 = true then (some false) else (if bt319.2.2.2.2.2.2.1 = true then (if ((bt319.1 == 0 && (bt319.2.1 == 0 && (bt319.2.2.1 == 0 && (bt319.2.2.2.1 == 0)))) && (bt319.2.2.2.2.1.toList == ([] : List UInt8) && (bt319.2.2.2.2.2.1.toList == ([] : List UInt8)))) = true then ((page_Page_Open.f 0 0 0 0 (⟨#[3, 255]⟩ : ByteArray) (⟨#[]⟩ : ByteArray)).bind fun t334 => (some t334)) else (some false)) else (some false)))) else (some false)) else (some false)))) = some r := H
  have A2 := Aside0.mk A20
  clear A20
  replace H := Option.bind_eq_some_iff.mp H
  obtain ⟨⟨t319, t320, t321, t322, t323, t324, t325, t326, t327, t328, t329, t330⟩, A30, H⟩ := H
  replace H : ((diacriticlaw16_Awake.f).bind fun t332 => (if t332 = true then (if (t309.size : Int) = 27 then ((api_Fault_Bad.f t310 t311).bind fun t333 => (if t333 = true then (some false) else (if t325 = true then (if ((t319 == 0 && (t320 == 0 && (t321 == 0 && (t322 == 0)))) && (t323.toList == ([] : List UInt8) && (t324.toList == ([] : List UInt8)))) = true then ((page_Page_Open.f 0 0 0 0 (⟨#[3, 255]⟩ : ByteArray) (⟨#[]⟩ : ByteArray)).bind fun t334 => (some t334)) else (some false)) else (some false)))) else (some false)) else (some false))) = some r := H
  have A3 := Aside0.mk A30
  clear A30
  replace H := Option.bind_eq_some_iff.mp H
  obtain ⟨t332, A40, H⟩ := H
  replace H : (if t332 = true then (if (t309.size : Int) = 27 then ((api_Fault_Bad.f t310 t311).bind fun t333 => (if t333 = true then (some false) else (if t325 = true then (if ((t319 == 0 && (t320 == 0 && (t321 == 0 && (t322 == 0)))) && (t323.toList == ([] : List UInt8) && (t324.toList == ([] : List UInt8)))) = true then ((page_Page_Open.f 0 0 0 0 (⟨#[3, 255]⟩ : ByteArray) (⟨#[]⟩ : ByteArray)).bind fun t334 => (some t334)) else (some false)) else (some false)))) else (some false)) else (some false)) = some r := H
  have A4 := Aside0.mk A40
  clear A40
  by_cases c5 : t332 = true
  · subst c5
    have H1 : (if (t309.size : Int) = 27 then ((api_Fault_Bad.f t310 t311).bind fun t333 => (if t333 = true then (some false) else (if t325 = true then (if ((t319 == 0 && (t320 == 0 && (t321 == 0 && (t322 == 0)))) && (t323.toList == ([] : List UInt8) && (t324.toList == ([] : List UInt8)))) = true then ((page_Page_Open.f 0 0 0 0 (⟨#[3, 255]⟩ : ByteArray) (⟨#[]⟩ : ByteArray)).bind fun t334 => (some t334)) else (some false)) else (some false)))) else (some false)) = some r := by rw [if_pos rfl] at H; exact H
    clear H
    have H := H1
    clear H1
    by_cases c6 : (t309.size : Int) = 27
    · rw [if_pos c6] at H
      have c6b0 : ((t309.size : Int) == 27) = true := beq_iff_eq.mpr c6
      have c6b1 : ((t309.size : Int) != 27) = false := bne_eq_false_iff_eq.mpr c6
      clear c6
      replace H := Option.bind_eq_some_iff.mp H
      obtain ⟨t333, A70, H⟩ := H
      replace H : (if t333 = true then (some false) else (if t325 = true then (if ((t319 == 0 && (t320 == 0 && (t321 == 0 && (t322 == 0)))) && (t323.toList == ([] : List UInt8) && (t324.toList == ([] : List UInt8)))) = true then ((page_Page_Open.f 0 0 0 0 (⟨#[3, 255]⟩ : ByteArray) (⟨#[]⟩ : ByteArray)).bind fun t334 => (some t334)) else (some false)) else (some false))) = some r := H
      have A7 := Aside0.mk A70
      clear A70
      by_cases c8 : t333 = true
      · subst c8
        have H1 : (some false) = some r := by rw [if_pos rfl] at H; exact H
        clear H
        have H := H1
        clear H1
        exact absurd ((Option.some.inj H).trans hr_) (by decide)
      · replace c8 := Bool.eq_false_iff.mpr c8
        subst c8
        have H1 : (if t325 = true then (if ((t319 == 0 && (t320 == 0 && (t321 == 0 && (t322 == 0)))) && (t323.toList == ([] : List UInt8) && (t324.toList == ([] : List UInt8)))) = true then ((page_Page_Open.f 0 0 0 0 (⟨#[3, 255]⟩ : ByteArray) (⟨#[]⟩ : ByteArray)).bind fun t334 => (some t334)) else (some false)) else (some false)) = some r := by rw [if_neg (show ¬ (false = true) by decide)] at H; exact H
        clear H
        have H := H1
        clear H1
        by_cases c22 : t325 = true
        · subst c22
          have H1 : (if ((t319 == 0 && (t320 == 0 && (t321 == 0 && (t322 == 0)))) && (t323.toList == ([] : List UInt8) && (t324.toList == ([] : List UInt8)))) = true then ((page_Page_Open.f 0 0 0 0 (⟨#[3, 255]⟩ : ByteArray) (⟨#[]⟩ : ByteArray)).bind fun t334 => (some t334)) else (some false)) = some r := by rw [if_pos rfl] at H; exact H
          clear H
          have H := H1
          clear H1
          by_cases c23 : ((t319 == 0 && (t320 == 0 && (t321 == 0 && (t322 == 0)))) && (t323.toList == ([] : List UInt8) && (t324.toList == ([] : List UInt8)))) = true
          · rw [if_pos c23] at H
            have c23b0 : ((t319 == 0 && (t320 == 0 && (t321 == 0 && (t322 == 0)))) && (t323.toList == ([] : List UInt8) && (t324.toList == ([] : List UInt8)))) = true := c23
            (try (have c23b0E := c23b0; simp only [beq_nil_isEmpty, bne_nil_isEmpty] at c23b0E))
            clear c23
            replace H := Option.bind_eq_some_iff.mp H
            obtain ⟨t334, A240, H⟩ := H
            replace H : (some t334) = some r := H
            have A24 := Aside0.mk A240
            clear A240
            obtain rfl := Option.some.inj H
            go_enter Try.func34, Try.ntmps34
            go_wp2_with (first | ((with_reducible refine gate_callee (f := 11) rfl ?_); refine goesL_ (some 7) rfl rfl Try.func11 (by kernel_rfl) rfl #[.agg #[.int .u8 0, .int .u64 0, .int .u32 0, .int .u32 0, .string (⟨#[]⟩ : ByteArray), .string (⟨#[]⟩ : ByteArray)]] rfl (by (try simp only [List.map_toArray, List.map_cons, List.map_nil]); first | done | rfl | (simp only [List.length_drop, List.length_take]; rfl)) ?_; (with_reducible refine (page_Page_Print.calls k 0 0 0 0 (⟨#[]⟩ : ByteArray) (⟨#[]⟩ : ByteArray) t309 t310 t311 _ A1.out).mono ?_); rintro e w25 ⟨rfl, hb⟩; refine ⟨_, rfl, ?_⟩; have n0_ := Aside0.mk (below_step (by repeat (first | (with_reducible first | exact HB.out | apply below_alloc | apply pw_below_drewN | apply below_drew1) | exact HB.out)) hb); clear HB; have HB := n0_; clear n0_; (try clear hb); (try clear hb2); (try clear hk); (try clear hi)) | ((with_reducible refine gate_dst (N := 2) rfl ?_); (try (refine gate_guard (by rfl) ?_; dsimp only)); refine box_event ?hg (N := 2) ?hd (cs := #[.int .i64 0, .int .i64 0]) (t := 32) ?hr ?_; (case hd => rfl); (case hg => rfl); (case hr => first | (go_simp; done) | (go_simp; rfl)); intro gb312 hg w26 hbox hb; have n0_ := Aside0.mk (below_step (by repeat (first | (with_reducible first | exact HB.out | apply below_alloc | apply pw_below_drewN | apply below_drew1) | exact HB.out)) hb); have n1_ := Aside0.mk (hbox); have n2_ := Aside0.mk ((by rw [hg]; exact (below_size (by repeat (first | (with_reducible first | exact HB.out | apply below_alloc | apply pw_below_drewN | apply below_drew1) | exact HB.out))) : w.heap.size ≤ gb312)); have n3_ := Aside0.mk ((by rw [hg]; exact (below_size (by repeat (first | (with_reducible first | exact HB.out | apply below_alloc | apply pw_below_drewN | apply below_drew1) | exact HB.out))) : w.heap.size ≤ gb312)); clear HB; have HB := n0_; have BK312 := n1_; have GW312 := n2_; have GE312 := n3_; clear n0_ n1_ n2_ n3_; clear hb hbox hg; have hcz27_0 : w26.cell? ⟨gb312, 0, none⟩ = some (.int .i64 0) := (blk_cell BK312.out 0).trans rfl; have hcz27_1 : w26.cell? ⟨gb312, 1, none⟩ = some (.int .i64 0) := (blk_cell BK312.out 1).trans rfl; have hfz27_0 := blk_frozen BK312.out 0; have hfz27_1 := blk_frozen BK312.out 1) | ((with_reducible refine gate_callee (f := 14) rfl ?_); refine goesL_ (some 12) rfl rfl Try.func14 (by kernel_rfl) rfl #[.string t309] rfl (by (try simp only [List.map_toArray, List.map_cons, List.map_nil]); first | done | rfl | (simp only [List.length_drop, List.length_take]; rfl)) ?_; (with_reducible refine (octet_Read.calls t309 t313 t314 t315 t316 t317 w _ ?side1 A2.out).mono ?_); (case side1 => repeat (first | (with_reducible first | exact HB.out | apply below_alloc | apply pw_below_drewN | apply below_drew1 | refine below_set ?_ GE312.out) | exact HB.out)); rintro e w28 ⟨g318, rfl, hi, hb, hb2⟩; refine ⟨_, rfl, ?_⟩; have n0_ := Aside0.mk (blk_below (g := gb312) (o := .cells #[.int .i64 t310, .int .i64 t311] 32 (0, 0)) (by (with_reducible repeat (first | refine blk_drewN ?_ _ | refine blk_drew ?_ | refine blk_alloc ?_ _)); refine blk_put (cs := #[.int .i64 t310, .int .i64 0]) ?_ 1 _ rfl; (with_reducible repeat (first | refine blk_drewN ?_ _ | refine blk_drew ?_ | refine blk_alloc ?_ _)); refine blk_put (cs := #[.int .i64 0, .int .i64 0]) ?_ 0 _ rfl; (with_reducible repeat (first | refine blk_drewN ?_ _ | refine blk_drew ?_ | refine blk_alloc ?_ _)); exact BK312.out) hb2); have n1_ := Aside0.mk (hb); have n2_ := Aside0.mk (hi); have n3_ := Aside0.mk (IsS81.ne_blk hi (blk_below (g := gb312) (o := .cells #[.int .i64 t310, .int .i64 t311] 32 (0, 0)) (by (with_reducible repeat (first | refine blk_drewN ?_ _ | refine blk_drew ?_ | refine blk_alloc ?_ _)); refine blk_put (cs := #[.int .i64 t310, .int .i64 0]) ?_ 1 _ rfl; (with_reducible repeat (first | refine blk_drewN ?_ _ | refine blk_drew ?_ | refine blk_alloc ?_ _)); refine blk_put (cs := #[.int .i64 0, .int .i64 0]) ?_ 0 _ rfl; (with_reducible repeat (first | refine blk_drewN ?_ _ | refine blk_drew ?_ | refine blk_alloc ?_ _)); exact BK312.out) hb2) (by decide)); have n4_ := Aside0.mk (Ne.symm (IsS81.ne_blk hi (blk_below (g := gb312) (o := .cells #[.int .i64 t310, .int .i64 t311] 32 (0, 0)) (by (with_reducible repeat (first | refine blk_drewN ?_ _ | refine blk_drew ?_ | refine blk_alloc ?_ _)); refine blk_put (cs := #[.int .i64 t310, .int .i64 0]) ?_ 1 _ rfl; (with_reducible repeat (first | refine blk_drewN ?_ _ | refine blk_drew ?_ | refine blk_alloc ?_ _)); refine blk_put (cs := #[.int .i64 0, .int .i64 0]) ?_ 0 _ rfl; (with_reducible repeat (first | refine blk_drewN ?_ _ | refine blk_drew ?_ | refine blk_alloc ?_ _)); exact BK312.out) hb2) (by decide))); clear BK312; clear HB; have BK312 := n0_; have HB := n1_; have HI318 := n2_; have NB318_312 := n3_; have NB312_318 := n4_; clear n0_ n1_ n2_ n3_ n4_; (try clear hb); (try clear hb2); (try clear hk); (try clear hi)) | ((with_reducible refine gate_callee (f := 13) rfl ?_); refine goesL_ (some 13) rfl rfl Try.func13 (by kernel_rfl) rfl #[.pointer (some ⟨g318, 0, none⟩)] rfl (by (try simp only [List.map_toArray, List.map_cons, List.map_nil]); first | done | rfl | (simp only [List.length_drop, List.length_take]; rfl)) ?_; (with_reducible refine (page_Parse.calls k g318 t313 t314 t315 t316 t317 t319 t320 t321 t322 t323 t324 true t326 t327 t328 t329 t330 w _ ?side1 ?side2 A3.out).mono ?_); (case side1 => repeat (first | (with_reducible first | exact HI318.out | apply IsS81.alloc | apply IsS81.drewN | apply IsS81.drew | apply IsS81.set_0 | apply IsS81.set_1 | apply IsS81.set_2 | apply IsS81.set_3 | apply IsS81.set_4 | refine IsS81.far ?_ NB318_312.out _ | apply IsS81.far (hne := NB318_312.out)) | exact HI318.out)); (case side2 => repeat (first | (with_reducible first | exact HB.out | apply below_alloc | apply pw_below_drewN | apply below_drew1 | refine below_set ?_ (IsS81.ge HI318.out) | refine below_set ?_ GE312.out) | exact HB.out)); rintro e w29 ⟨rfl, hi, hb, hk⟩; refine ⟨_, rfl, ?_⟩; have n0_ := Aside0.mk (KeepBut.blk hk (g' := gb312) (o := .cells #[.int .i64 t310, .int .i64 t311] 32 (0, 0)) (by (with_reducible repeat (first | refine blk_drewN ?_ _ | refine blk_drew ?_ | refine blk_alloc ?_ _)); exact BK312.out) NB312_318.out (by simp)); have n1_ := Aside0.mk (hb); have n2_ := Aside0.mk (hi); clear BK312; clear HB; clear HI318; have BK312 := n0_; have HB := n1_; have HI318 := n2_; clear n0_ n1_ n2_; (try clear hb); (try clear hb2); (try clear hk); (try clear hi)) | ((with_reducible refine gate_dst (N := 3) rfl ?_); (try (refine gate_guard (by rfl) ?_; dsimp only)); refine box_event ?hg (N := 3) ?hd (cs := #[.int .u8 0, .int .u64 0, .int .u32 0, .int .u32 0, .string (⟨#[]⟩ : ByteArray), .string (⟨#[]⟩ : ByteArray)]) (t := 27) ?hr ?_; (case hd => rfl); (case hg => rfl); (case hr => first | (go_simp; done) | (go_simp; rfl)); intro gb331 hg w30 hbox hb; have n0_ := Aside0.mk (blk_below (g := gb312) (o := .cells #[.int .i64 t310, .int .i64 t311] 32 (0, 0)) (by (with_reducible repeat (first | refine blk_drewN ?_ _ | refine blk_drew ?_ | refine blk_alloc ?_ _)); exact BK312.out) hb); have n1_ := Aside0.mk (IsS81.below (by repeat (first | (with_reducible first | exact HI318.out | apply IsS81.alloc | apply IsS81.drewN | apply IsS81.drew | apply IsS81.set_0 | apply IsS81.set_1 | apply IsS81.set_2 | apply IsS81.set_3 | apply IsS81.set_4 | refine IsS81.far ?_ NB318_312.out _ | apply IsS81.far (hne := NB318_312.out)) | exact HI318.out)) hb); have n2_ := Aside0.mk (below_step (by repeat (first | (with_reducible first | exact HB.out | apply below_alloc | apply pw_below_drewN | apply below_drew1 | refine below_set ?_ (IsS81.ge HI318.out) | refine below_set ?_ GE312.out) | exact HB.out)) hb); have n3_ := Aside0.mk (hbox); have n4_ := Aside0.mk ((by rw [hg]; exact (below_size (by repeat (first | (with_reducible first | exact HB.out | apply below_alloc | apply pw_below_drewN | apply below_drew1 | refine below_set ?_ (IsS81.ge HI318.out) | refine below_set ?_ GE312.out) | exact HB.out))) : w.heap.size ≤ gb331)); have n5_ := Aside0.mk ((by rw [hg]; exact (below_size (by repeat (first | (with_reducible first | exact HB.out | apply below_alloc | apply pw_below_drewN | apply below_drew1 | refine below_set ?_ (IsS81.ge HI318.out) | refine below_set ?_ GE312.out) | exact HB.out))) : w.heap.size ≤ gb331)); have n6_ := Aside0.mk ((by rw [hg]; exact Nat.ne_of_lt (blk_lt (g := gb312) (o := .cells #[.int .i64 t310, .int .i64 t311] 32 (0, 0)) (by (with_reducible repeat (first | refine blk_drewN ?_ _ | refine blk_drew ?_ | refine blk_alloc ?_ _)); exact BK312.out)) : gb312 ≠ gb331)); have n7_ := Aside0.mk ((by rw [hg]; exact Nat.ne_of_gt (blk_lt (g := gb312) (o := .cells #[.int .i64 t310, .int .i64 t311] 32 (0, 0)) (by (with_reducible repeat (first | refine blk_drewN ?_ _ | refine blk_drew ?_ | refine blk_alloc ?_ _)); exact BK312.out)) : gb331 ≠ gb312)); have n8_ := Aside0.mk ((by rw [hg]; exact Nat.ne_of_lt (IsS81.lt (show IsS81 w _ g318 t326 t327 t328 t329 t330 from by repeat (first | (with_reducible first | exact HI318.out | apply IsS81.alloc | apply IsS81.drewN | apply IsS81.drew | apply IsS81.set_0 | apply IsS81.set_1 | apply IsS81.set_2 | apply IsS81.set_3 | apply IsS81.set_4 | refine IsS81.far ?_ NB318_312.out _ | apply IsS81.far (hne := NB318_312.out)) | exact HI318.out))) : g318 ≠ gb331)); have n9_ := Aside0.mk ((by rw [hg]; exact Nat.ne_of_gt (IsS81.lt (show IsS81 w _ g318 t326 t327 t328 t329 t330 from by repeat (first | (with_reducible first | exact HI318.out | apply IsS81.alloc | apply IsS81.drewN | apply IsS81.drew | apply IsS81.set_0 | apply IsS81.set_1 | apply IsS81.set_2 | apply IsS81.set_3 | apply IsS81.set_4 | refine IsS81.far ?_ NB318_312.out _ | apply IsS81.far (hne := NB318_312.out)) | exact HI318.out))) : gb331 ≠ g318)); clear BK312; clear HI318; clear HB; have BK312 := n0_; have HI318 := n1_; have HB := n2_; have BK331 := n3_; have GW331 := n4_; have GE331 := n5_; have NB312_331 := n6_; have NB331_312 := n7_; have NB318_331 := n8_; have NB331_318 := n9_; clear n0_ n1_ n2_ n3_ n4_ n5_ n6_ n7_ n8_ n9_; clear hb hbox hg; have hnb31 := NB331_312.out; have hnc31 := NB312_331.out; have hnb32 := NB331_318.out; have hnc32 := NB318_331.out; have hcz33_0 : w30.cell? ⟨gb331, 0, none⟩ = some (.int .u8 0) := (blk_cell BK331.out 0).trans rfl; have hcz33_1 : w30.cell? ⟨gb331, 1, none⟩ = some (.int .u64 0) := (blk_cell BK331.out 1).trans rfl; have hcz33_2 : w30.cell? ⟨gb331, 2, none⟩ = some (.int .u32 0) := (blk_cell BK331.out 2).trans rfl; have hcz33_3 : w30.cell? ⟨gb331, 3, none⟩ = some (.int .u32 0) := (blk_cell BK331.out 3).trans rfl; have hcz33_4 : w30.cell? ⟨gb331, 4, none⟩ = some (.string (⟨#[]⟩ : ByteArray)) := (blk_cell BK331.out 4).trans rfl; have hcz33_5 : w30.cell? ⟨gb331, 5, none⟩ = some (.string (⟨#[]⟩ : ByteArray)) := (blk_cell BK331.out 5).trans rfl; have hfz33_0 := blk_frozen BK331.out 0; have hfz33_1 := blk_frozen BK331.out 1; have hfz33_2 := blk_frozen BK331.out 2; have hfz33_3 := blk_frozen BK331.out 3; have hfz33_4 := blk_frozen BK331.out 4; have hfz33_5 := blk_frozen BK331.out 5) | ((with_reducible refine gate_callee (f := 56) rfl ?_); refine goesL_ (some 16) rfl rfl Try.func56 (by kernel_rfl) rfl #[] rfl (by (try simp only [List.map_toArray, List.map_cons, List.map_nil]); first | done | rfl | (simp only [List.length_drop, List.length_take]; rfl)) ?_; (with_reducible refine (diacriticlaw16_Awake.calls  true _ A4.out).mono ?_); rintro e w34 ⟨rfl, hb⟩; refine ⟨_, rfl, ?_⟩; have n0_ := Aside0.mk (blk_below (g := gb312) (o := .cells #[.int .i64 t310, .int .i64 t311] 32 (0, 0)) (by (with_reducible repeat (first | refine blk_drewN ?_ _ | refine blk_drew ?_ | refine blk_alloc ?_ _)); refine blk_far ?_ NB312_331.out _; (with_reducible repeat (first | refine blk_drewN ?_ _ | refine blk_drew ?_ | refine blk_alloc ?_ _)); refine blk_far ?_ NB312_331.out _; (with_reducible repeat (first | refine blk_drewN ?_ _ | refine blk_drew ?_ | refine blk_alloc ?_ _)); refine blk_far ?_ NB312_331.out _; (with_reducible repeat (first | refine blk_drewN ?_ _ | refine blk_drew ?_ | refine blk_alloc ?_ _)); refine blk_far ?_ NB312_331.out _; (with_reducible repeat (first | refine blk_drewN ?_ _ | refine blk_drew ?_ | refine blk_alloc ?_ _)); refine blk_far ?_ NB312_331.out _; (with_reducible repeat (first | refine blk_drewN ?_ _ | refine blk_drew ?_ | refine blk_alloc ?_ _)); refine blk_far ?_ NB312_331.out _; (with_reducible repeat (first | refine blk_drewN ?_ _ | refine blk_drew ?_ | refine blk_alloc ?_ _)); exact BK312.out) hb); have n1_ := Aside0.mk (IsS81.below (show IsS81 w ((((((w30.setCell ⟨gb331, 0, none⟩ (.int .u8 t319)).setCell ⟨gb331, 1, none⟩ (.int .u64 t320)).setCell ⟨gb331, 2, none⟩ (.int .u32 t321)).setCell ⟨gb331, 3, none⟩ (.int .u32 t322)).setCell ⟨gb331, 4, none⟩ (.string t323)).setCell ⟨gb331, 5, none⟩ (.string t324)) g318 t326 t327 t328 t329 t330 from by repeat (first | (with_reducible first | exact HI318.out | apply IsS81.alloc | apply IsS81.drewN | apply IsS81.drew | apply IsS81.set_0 | apply IsS81.set_1 | apply IsS81.set_2 | apply IsS81.set_3 | apply IsS81.set_4 | refine IsS81.far ?_ NB318_312.out _ | apply IsS81.far (hne := NB318_312.out) | refine IsS81.far ?_ NB318_331.out _ | apply IsS81.far (hne := NB318_331.out)) | exact HI318.out)) hb); have n2_ := Aside0.mk (blk_below (g := gb331) (o := .cells #[.int .u8 t319, .int .u64 t320, .int .u32 t321, .int .u32 t322, .string t323, .string t324] 27 (0, 0)) (by (with_reducible repeat (first | refine blk_drewN ?_ _ | refine blk_drew ?_ | refine blk_alloc ?_ _)); refine blk_put (cs := #[.int .u8 t319, .int .u64 t320, .int .u32 t321, .int .u32 t322, .string t323, .string (⟨#[]⟩ : ByteArray)]) ?_ 5 _ rfl; (with_reducible repeat (first | refine blk_drewN ?_ _ | refine blk_drew ?_ | refine blk_alloc ?_ _)); refine blk_put (cs := #[.int .u8 t319, .int .u64 t320, .int .u32 t321, .int .u32 t322, .string (⟨#[]⟩ : ByteArray), .string (⟨#[]⟩ : ByteArray)]) ?_ 4 _ rfl; (with_reducible repeat (first | refine blk_drewN ?_ _ | refine blk_drew ?_ | refine blk_alloc ?_ _)); refine blk_put (cs := #[.int .u8 t319, .int .u64 t320, .int .u32 t321, .int .u32 0, .string (⟨#[]⟩ : ByteArray), .string (⟨#[]⟩ : ByteArray)]) ?_ 3 _ rfl; (with_reducible repeat (first | refine blk_drewN ?_ _ | refine blk_drew ?_ | refine blk_alloc ?_ _)); refine blk_put (cs := #[.int .u8 t319, .int .u64 t320, .int .u32 0, .int .u32 0, .string (⟨#[]⟩ : ByteArray), .string (⟨#[]⟩ : ByteArray)]) ?_ 2 _ rfl; (with_reducible repeat (first | refine blk_drewN ?_ _ | refine blk_drew ?_ | refine blk_alloc ?_ _)); refine blk_put (cs := #[.int .u8 t319, .int .u64 0, .int .u32 0, .int .u32 0, .string (⟨#[]⟩ : ByteArray), .string (⟨#[]⟩ : ByteArray)]) ?_ 1 _ rfl; (with_reducible repeat (first | refine blk_drewN ?_ _ | refine blk_drew ?_ | refine blk_alloc ?_ _)); refine blk_put (cs := #[.int .u8 0, .int .u64 0, .int .u32 0, .int .u32 0, .string (⟨#[]⟩ : ByteArray), .string (⟨#[]⟩ : ByteArray)]) ?_ 0 _ rfl; (with_reducible repeat (first | refine blk_drewN ?_ _ | refine blk_drew ?_ | refine blk_alloc ?_ _)); exact BK331.out) hb); have n3_ := Aside0.mk (below_step (by repeat (first | (with_reducible first | exact HB.out | apply below_alloc | apply pw_below_drewN | apply below_drew1 | refine below_set ?_ (IsS81.ge HI318.out) | refine below_set ?_ GE312.out | refine below_set ?_ GE331.out) | exact HB.out)) hb); clear BK312; clear HI318; clear BK331; clear HB; have BK312 := n0_; have HI318 := n1_; have BK331 := n2_; have HB := n3_; clear n0_ n1_ n2_ n3_; (try clear hb); (try clear hb2); (try clear hk); (try clear hi); have hnb35 := NB312_318.out; have hnc35 := NB318_312.out; have hcz36_0 : w34.cell? ⟨gb312, 0, none⟩ = some (.int .i64 t310) := (blk_cell BK312.out 0).trans rfl; have hcz36_1 : w34.cell? ⟨gb312, 1, none⟩ = some (.int .i64 t311) := (blk_cell BK312.out 1).trans rfl; have hfz36_0 := blk_frozen BK312.out 0; have hfz36_1 := blk_frozen BK312.out 1) | (go_at_call 12; (with_reducible refine (api_Fault_Bad.calls t310 t311 false _ A7.out).mono ?_); rintro e w37 ⟨rfl, hb⟩; have n0_ := Aside0.mk (blk_below (g := gb312) (o := .cells #[.int .i64 t310, .int .i64 t311] 32 (0, 0)) (by (with_reducible repeat (first | refine blk_drewN ?_ _ | refine blk_drew ?_ | refine blk_alloc ?_ _)); exact BK312.out) hb); have n1_ := Aside0.mk (IsS81.below (by repeat (first | (with_reducible first | exact HI318.out | apply IsS81.alloc | apply IsS81.drewN | apply IsS81.drew | apply IsS81.set_0 | apply IsS81.set_1 | apply IsS81.set_2 | apply IsS81.set_3 | apply IsS81.set_4 | refine IsS81.far ?_ NB318_312.out _ | apply IsS81.far (hne := NB318_312.out) | refine IsS81.far ?_ NB318_331.out _ | apply IsS81.far (hne := NB318_331.out)) | exact HI318.out)) hb); have n2_ := Aside0.mk (blk_below (g := gb331) (o := .cells #[.int .u8 t319, .int .u64 t320, .int .u32 t321, .int .u32 t322, .string t323, .string t324] 27 (0, 0)) (by (with_reducible repeat (first | refine blk_drewN ?_ _ | refine blk_drew ?_ | refine blk_alloc ?_ _)); exact BK331.out) hb); have n3_ := Aside0.mk (below_step (by repeat (first | (with_reducible first | exact HB.out | apply below_alloc | apply pw_below_drewN | apply below_drew1 | refine below_set ?_ (IsS81.ge HI318.out) | refine below_set ?_ GE312.out | refine below_set ?_ GE331.out) | exact HB.out)) hb); clear BK312; clear HI318; clear BK331; clear HB; have BK312 := n0_; have HI318 := n1_; have BK331 := n2_; have HB := n3_; clear n0_ n1_ n2_ n3_; (try clear hb); (try clear hb2); (try clear hk); (try clear hi); have hcz38_0 : w37.cell? ⟨gb331, 0, none⟩ = some (.int .u8 t319) := (blk_cell BK331.out 0).trans rfl; have hcz38_1 : w37.cell? ⟨gb331, 1, none⟩ = some (.int .u64 t320) := (blk_cell BK331.out 1).trans rfl; have hcz38_2 : w37.cell? ⟨gb331, 2, none⟩ = some (.int .u32 t321) := (blk_cell BK331.out 2).trans rfl; have hcz38_3 : w37.cell? ⟨gb331, 3, none⟩ = some (.int .u32 t322) := (blk_cell BK331.out 3).trans rfl; have hcz38_4 : w37.cell? ⟨gb331, 4, none⟩ = some (.string t323) := (blk_cell BK331.out 4).trans rfl; have hcz38_5 : w37.cell? ⟨gb331, 5, none⟩ = some (.string t324) := (blk_cell BK331.out 5).trans rfl; have hfz38_0 := blk_frozen BK331.out 0; have hfz38_1 := blk_frozen BK331.out 1; have hfz38_2 := blk_frozen BK331.out 2; have hfz38_3 := blk_frozen BK331.out 3; have hfz38_4 := blk_frozen BK331.out 4; have hfz38_5 := blk_frozen BK331.out 5) | (go_at_call 20; (with_reducible refine (page_Page_Open.calls 0 0 0 0 (⟨#[3, 255]⟩ : ByteArray) (⟨#[]⟩ : ByteArray) t334 _ A24.out).mono ?_); rintro e w39 ⟨rfl, hb⟩; have n0_ := Aside0.mk (blk_below (g := gb312) (o := .cells #[.int .i64 t310, .int .i64 t311] 32 (0, 0)) (by (with_reducible repeat (first | refine blk_drewN ?_ _ | refine blk_drew ?_ | refine blk_alloc ?_ _)); exact BK312.out) hb); have n1_ := Aside0.mk (IsS81.below (by repeat (first | (with_reducible first | exact HI318.out | apply IsS81.alloc | apply IsS81.drewN | apply IsS81.drew | apply IsS81.set_0 | apply IsS81.set_1 | apply IsS81.set_2 | apply IsS81.set_3 | apply IsS81.set_4 | refine IsS81.far ?_ NB318_312.out _ | apply IsS81.far (hne := NB318_312.out) | refine IsS81.far ?_ NB318_331.out _ | apply IsS81.far (hne := NB318_331.out)) | exact HI318.out)) hb); have n2_ := Aside0.mk (blk_below (g := gb331) (o := .cells #[.int .u8 t319, .int .u64 t320, .int .u32 t321, .int .u32 t322, .string t323, .string t324] 27 (0, 0)) (by (with_reducible repeat (first | refine blk_drewN ?_ _ | refine blk_drew ?_ | refine blk_alloc ?_ _)); exact BK331.out) hb); have n3_ := Aside0.mk (below_step (by repeat (first | (with_reducible first | exact HB.out | apply below_alloc | apply pw_below_drewN | apply below_drew1 | refine below_set ?_ (IsS81.ge HI318.out) | refine below_set ?_ GE312.out | refine below_set ?_ GE331.out) | exact HB.out)) hb); clear BK312; clear HI318; clear BK331; clear HB; have BK312 := n0_; have HI318 := n1_; have BK331 := n2_; have HB := n3_; clear n0_ n1_ n2_ n3_; (try clear hb); (try clear hb2); (try clear hk); (try clear hi)))
            go_ret
            exact ⟨by first | rfl | (simp [errW_none, errW_some] <;> rfl) | (simp [*, errW_none, errW_some] <;> rfl), by repeat (first | (with_reducible first | exact HB.out | apply below_alloc | apply pw_below_drewN | apply below_drew1 | refine below_set ?_ (IsS81.ge HI318.out) | refine below_set ?_ GE312.out | refine below_set ?_ GE331.out) | exact HB.out)⟩
          · rw [if_neg c23] at H
            exact absurd ((Option.some.inj H).trans hr_) (by decide)
        · replace c22 := Bool.eq_false_iff.mpr c22
          subst c22
          have H1 : (some false) = some r := by rw [if_neg (show ¬ (false = true) by decide)] at H; exact H
          clear H
          have H := H1
          clear H1
          exact absurd ((Option.some.inj H).trans hr_) (by decide)
    · rw [if_neg c6] at H
      exact absurd ((Option.some.inj H).trans hr_) (by decide)
  · replace c5 := Bool.eq_false_iff.mpr c5
    subst c5
    have H1 : (some false) = some r := by rw [if_neg (show ¬ (false = true) by decide)] at H; exact H
    clear H
    have H := H1
    clear H1
    exact absurd ((Option.some.inj H).trans hr_) (by decide)

/-! ### diacriticlaw17_awake: function 10 -/
def diacriticlaw17_awake.f (k : Nat)  : Option (Bool) := (diacriticlaw17_Awake.f k).bind fun t335 => (some t335)
theorem diacriticlaw17_awake.mono : ∀ k, LeO (diacriticlaw17_awake.f k ) (diacriticlaw17_awake.f (k + 1) ) := by
  intro  k
  unfold diacriticlaw17_awake.f
  repeat' first
      | (with_reducible exact diacriticlaw17_Awake.mono _)
      | (with_reducible exact LeO.refl _)
      | (with_reducible exact LeO.none _)
      | (with_reducible refine LeO.ite ?_ ?_)
      | (with_reducible refine LeO.bind ?_ (fun _ => ?_))
      | exact diacriticlaw17_Awake.mono _
      | exact LeO.none _
      | refine LeO.ite ?_ ?_
      | refine LeO.bind ?_ (fun _ => ?_)
set_option maxHeartbeats 8000000 in
set_option maxRecDepth 100000 in
theorem diacriticlaw17_awake.calls (k : Nat)  (r : Bool) (w : World) (h : diacriticlaw17_awake.f k  = some r) :
    Calls Try.prog 10 #[] w fun e w' => e = .returned (.bool r) ∧ Below w.heap.size w w' := by
  have HB := Aside0.mk (Below.refl w.heap.size w)
  have H : ((diacriticlaw17_Awake.f k).bind fun t335 => (some t335)) = some r := h
  clear h
  replace H := Option.bind_eq_some_iff.mp H
  obtain ⟨t335, A10, H⟩ := H
  replace H : (some t335) = some r := H
  have A1 := Aside0.mk A10
  clear A10
  obtain rfl := Option.some.inj H
  go_enter Try.func10, Try.ntmps10
  go_wp2_with (first | ((with_reducible refine gate_callee (f := 34) rfl ?_); refine goesL_ (some 1) rfl rfl Try.func34 (by kernel_rfl) rfl #[] rfl (by (try simp only [List.map_toArray, List.map_cons, List.map_nil]); first | done | rfl | (simp only [List.length_drop, List.length_take]; rfl)) ?_; (with_reducible refine (diacriticlaw17_Awake.calls k  t335 _ A1.out).mono ?_); rintro e w2 ⟨rfl, hb⟩; refine ⟨_, rfl, ?_⟩; have n0_ := Aside0.mk (below_step (by repeat (first | (with_reducible first | exact HB.out | apply below_alloc | apply pw_below_drewN | apply below_drew1) | exact HB.out)) hb); clear HB; have HB := n0_; clear n0_; (try clear hb); (try clear hb2); (try clear hk); (try clear hi)))
  go_ret
  exact ⟨by first | rfl | (simp [errW_none, errW_some] <;> rfl) | (simp [*, errW_none, errW_some] <;> rfl), by repeat (first | (with_reducible first | exact HB.out | apply below_alloc | apply pw_below_drewN | apply below_drew1) | exact HB.out)⟩

end Go.Proofs.Ytmfamkkikiglmaa.PAll
