/- Written by a program of this session: functions of the Go program as Lean functions, and the walks that tie them to it. -/
import Derived.Test.YtlmhlmendnjmlaaDoorPAllx0
import Derived.Test.YtlmhlmendnjmlaaDoorPAllx8
import Derived.Test.YtlmhlmendnjmlaaDoorPAllx9
import Derived.Test.YtlmhlmendnjmlaaDoorPAllx10
namespace Go.Proofs.YtlmhlmendnjmlaaDoor.PAll
open Go.RowKit Go.Proofs.YtlmhlmendnjmlaaDoorW.PrintWords Go.Proofs.YtlmhlmendnjmlaaDoorW.PrintLast Go.Proofs.YtlmhlmendnjmlaaDoorW.PrintMore
attribute [local go_sem] max2_int min2_int max_two min_two max_three min_three max_four min_four   -- for this text's walks alone
set_option linter.unusedVariables false
set_option linter.unusedSimpArgs false

/-! ### frame_Frame_Print: function 31 -/
def frame_Frame_Print.j0 : Nat → Int → ByteArray → Int → Bool → ByteArray → Int → Int → Int → ByteArray → Int → Int → Int → Option (ByteArray × Int × Int)
  | 0, _, _, _, _, _, _, _, _, _, _, _, _ => none
  | k + 1, x1, x7, x9, x42, x189000, x189001, x189002, x189003, x189004, x189005, x197000, x197001 => if x42 = true then (some ((⟨#[]⟩ : ByteArray), x197000, x197001)) else ((octet_Safe.f x9).bind fun bt197 => (if x1 = 2 then ((octet_Big.f k x9 3).bind fun t199 => ((octet_Join.f (([x189000, t199, x7] : List ByteArray))).bind fun t203 => (some (t203, 0, 0)))) else (if x1 = 3 then ((octet_Big.f k x9 4).bind fun t204 => ((octet_Big.f k (IntKind.u64.wrap (x189001)) 1).bind fun t205 => ((octet_Big.f k (IntKind.u64.wrap (x189002)) 1).bind fun t206 => ((octet_Join.f (([x189000, t204, t205, t206, x7] : List ByteArray))).bind fun t210 => (some (t210, 0, 0)))))) else ((octet_Big.f k (IntKind.u64.wrap (x189001)) 1).bind fun t211 => ((octet_Big.f k (IntKind.u64.wrap (x189002)) 1).bind fun t212 => ((octet_Join.f (([x189000, bt197.1, t211, t212, x7] : List ByteArray))).bind fun t216 => (some (t216, 0, 0))))))))
def frame_Frame_Print.f (k : Nat) (a0_0 : ByteArray) (a0_1 : Int) (a0_2 : Int) (a0_3 : Int) (a0_4 : ByteArray) (a0_5 : Int) (a1 : Int) : Option (ByteArray × Int × Int) := (frame_Frame_Check.f k a0_0 a0_1 a0_2 a0_3 a0_4 a0_5 a1).bind fun bt190 => ((api_Fault_Bad.f bt190.1 bt190.2).bind fun t193 => (if t193 = true then (some ((⟨#[]⟩ : ByteArray), bt190.1, bt190.2)) else ((frame_Frame_data.f k a0_0 a0_1 a0_2 a0_3 a0_4 a0_5 a1).bind fun bt194 => (if bt194.2 = true then (if (IntKind.u64.wrap ((bt194.1.size : Int))) > 268435455 then (frame_Frame_Print.j0 k a1 bt194.1 (IntKind.u64.wrap ((bt194.1.size : Int))) true a0_0 a0_1 a0_2 a0_3 a0_4 a0_5 4 0) else (if a1 = 2 then (frame_Frame_Print.j0 k a1 bt194.1 (IntKind.u64.wrap ((bt194.1.size : Int))) (decide ((IntKind.u64.wrap ((bt194.1.size : Int))) ≥ 16777216)) a0_0 a0_1 a0_2 a0_3 a0_4 a0_5 4 0) else (frame_Frame_Print.j0 k a1 bt194.1 (IntKind.u64.wrap ((bt194.1.size : Int))) false a0_0 a0_1 a0_2 a0_3 a0_4 a0_5 4 0))) else (frame_Frame_Print.j0 k a1 bt194.1 (IntKind.u64.wrap ((bt194.1.size : Int))) true a0_0 a0_1 a0_2 a0_3 a0_4 a0_5 4 0)))))
theorem frame_Frame_Print.mono_l : ∀ k, (∀ y0 y1 y2 y3 y4 y5 y6 y7 y8 y9 y10 y11, LeO (frame_Frame_Print.j0 k y0 y1 y2 y3 y4 y5 y6 y7 y8 y9 y10 y11) (frame_Frame_Print.j0 (k + 1) y0 y1 y2 y3 y4 y5 y6 y7 y8 y9 y10 y11))
  | 0 => fun _ _ _ _ _ _ _ _ _ _ _ _ r h => by simp [frame_Frame_Print.j0] at h
  | k + 1 => by
    have ih0 := frame_Frame_Print.mono_l k
    · intro y0 y1 y2 y3 y4 y5 y6 y7 y8 y9 y10 y11
      unfold frame_Frame_Print.j0
      repeat' first
      | (with_reducible exact ih0 _ _ _ _ _ _ _ _ _ _ _ _)
      | (with_reducible exact frame_Frame_Check.mono _ _ _ _ _ _ _ _)
      | (with_reducible exact frame_Frame_data.mono _ _ _ _ _ _ _ _)
      | (with_reducible exact octet_Big.mono _ _ _)
      | (with_reducible exact LeO.refl _)
      | (with_reducible exact LeO.none _)
      | (with_reducible refine LeO.ite ?_ ?_)
      | (with_reducible refine LeO.bind ?_ (fun _ => ?_))
      | exact ih0 _ _ _ _ _ _ _ _ _ _ _ _
      | exact frame_Frame_Check.mono _ _ _ _ _ _ _ _
      | exact frame_Frame_data.mono _ _ _ _ _ _ _ _
      | exact octet_Big.mono _ _ _
      | exact LeO.none _
      | refine LeO.ite ?_ ?_
      | refine LeO.bind ?_ (fun _ => ?_)
theorem frame_Frame_Print.mono : ∀ a0 a1 a2 a3 a4 a5 a6 k, LeO (frame_Frame_Print.f k a0 a1 a2 a3 a4 a5 a6) (frame_Frame_Print.f (k + 1) a0 a1 a2 a3 a4 a5 a6) := by
  intro a0 a1 a2 a3 a4 a5 a6 k
  have ih0 := frame_Frame_Print.mono_l k
  unfold frame_Frame_Print.f
  repeat' first
      | (with_reducible exact ih0 _ _ _ _ _ _ _ _ _ _ _ _)
      | (with_reducible exact frame_Frame_Check.mono _ _ _ _ _ _ _ _)
      | (with_reducible exact frame_Frame_data.mono _ _ _ _ _ _ _ _)
      | (with_reducible exact octet_Big.mono _ _ _)
      | (with_reducible exact LeO.refl _)
      | (with_reducible exact LeO.none _)
      | (with_reducible refine LeO.ite ?_ ?_)
      | (with_reducible refine LeO.bind ?_ (fun _ => ?_))
      | exact ih0 _ _ _ _ _ _ _ _ _ _ _ _
      | exact frame_Frame_Check.mono _ _ _ _ _ _ _ _
      | exact frame_Frame_data.mono _ _ _ _ _ _ _ _
      | exact octet_Big.mono _ _ _
      | exact LeO.none _
      | refine LeO.ite ?_ ?_
      | refine LeO.bind ?_ (fun _ => ?_)
def frame_Frame_Print.T12 : Bool × List (List Nat × List Nat) := (true, [([], []), ([0], [0]), ([1], [1]), ([], []), ([3], [3]), ([], []), ([2, 4, 5], [2, 4, 5]), ([6, 4], [6]), ([], []), ([7, 7, 0, 1, 2, 3, 4, 5, 6, 7], [7]), ([8, 9, 0, 1, 2, 3, 4, 5, 6, 7, 8, 9], [8])])
def frame_Frame_Print.B12 : List Nat := [0, 1, 3, 0, 8, 0, 63, 127, 0, 255, 1023]
theorem frame_Frame_Print.tab12 : rtab .any (opsOf Tryd.f31 12) = frame_Frame_Print.T12 := by kernel_rfl
theorem frame_Frame_Print.bits12 : waitsOk frame_Frame_Print.T12.2 frame_Frame_Print.B12 = true := by kernel_rfl
def frame_Frame_Print.T15 : Bool × List (List Nat × List Nat) := (true, [([], []), ([0], [0]), ([1], [1]), ([], []), ([], []), ([4], [4]), ([5], [5]), ([6], [6]), ([7], [7]), ([], []), ([9], [9]), ([10], [10]), ([11], [11]), ([12, 8], [12]), ([], []), ([2, 3, 8, 13, 14], [2, 3, 8, 13, 14]), ([15, 13], [15]), ([], []), ([16, 16, 0, 1, 2, 3, 4, 5, 6, 7, 8, 9, 10, 11, 12, 13, 14, 15, 16], [16]), ([17, 18, 0, 1, 2, 3, 4, 5, 6, 7, 8, 9, 10, 11, 12, 13, 14, 15, 16, 17, 18], [17])])
def frame_Frame_Print.B15 : List Nat := [0, 1, 3, 0, 0, 16, 48, 112, 240, 0, 512, 1536, 3584, 8176, 0, 32767, 65535, 0, 131071, 524287]
theorem frame_Frame_Print.tab15 : rtab .any (opsOf Tryd.f31 15) = frame_Frame_Print.T15 := by kernel_rfl
theorem frame_Frame_Print.bits15 : waitsOk frame_Frame_Print.T15.2 frame_Frame_Print.B15 = true := by kernel_rfl
set_option maxHeartbeats 8000000 in
set_option maxRecDepth 100000 in
theorem frame_Frame_Print.calls (k : Nat) (a0_0 : ByteArray) (a0_1 : Int) (a0_2 : Int) (a0_3 : Int) (a0_4 : ByteArray) (a0_5 : Int) (a1 : Int) (r1 : ByteArray) (r2 : Int) (r3 : Int) (w : World) (h : frame_Frame_Print.f k a0_0 a0_1 a0_2 a0_3 a0_4 a0_5 a1 = some (r1, r2, r3)) :
    Calls Tryd.prog 31 #[.agg #[.string a0_0, .int .u8 a0_1, .int .u8 a0_2, .int .u8 a0_3, .string a0_4, .int .i64 a0_5], .int .i64 a1] w fun e w' => e = .returned (.tuple #[.string r1, .agg #[.int .i64 r2, .int .i64 r3]]) ∧ Below w.heap.size w w' := by
  have hu36 := Tryd.underlying36
  have hu39 := Tryd.underlying39
  have HB := Aside0.mk (Below.refl w.heap.size w)
  have H : ((frame_Frame_Check.f k a0_0 a0_1 a0_2 a0_3 a0_4 a0_5 a1).bind fun bt190 => ((api_Fault_Bad.f bt190.1 bt190.2).bind fun t193 => (if t193 = true then (some ((⟨#[]⟩ : ByteArray), bt190.1, bt190.2)) else ((frame_Frame_data.f k a0_0 a0_1 a0_2 a0_3 a0_4 a0_5 a1).bind fun bt194 => (if bt194.2 = true then (if (IntKind.u64.wrap ((bt194.1.size : Int))) > 268435455 then (frame_Frame_Print.j0 k a1 bt194.1 (IntKind.u64.wrap ((bt194.1.size : Int))) true a0_0 a0_1 a0_2 a0_3 a0_4 a0_5 4 0) else (if a1 = 2 then (frame_Frame_Print.j0 k a1 bt194.1 (IntKind.u64.wrap ((bt194.1.size : Int))) (decide ((IntKind.u64.wrap ((bt194.1.size : Int))) ≥ 16777216)) a0_0 a0_1 a0_2 a0_3 a0_4 a0_5 4 0) else (frame_Frame_Print.j0 k a1 bt194.1 (IntKind.u64.wrap ((bt194.1.size : Int))) false a0_0 a0_1 a0_2 a0_3 a0_4 a0_5 4 0))) else (frame_Frame_Print.j0 k a1 bt194.1 (IntKind.u64.wrap ((bt194.1.size : Int))) true a0_0 a0_1 a0_2 a0_3 a0_4 a0_5 4 0)))))) = some (r1, r2, r3) := h
  clear h
  replace H := Option.bind_eq_some_iff.mp H
  obtain ⟨⟨t190, t191⟩, A30, H⟩ := H
  replace H : ((api_Fault_Bad.f t190 t191).bind fun t193 => (if t193 = true then (some ((⟨#[]⟩ : ByteArray), t190, t191)) else ((frame_Frame_data.f k a0_0 a0_1 a0_2 a0_3 a0_4 a0_5 a1).bind fun bt194 => (if bt194.2 = true then (if (IntKind.u64.wrap ((bt194.1.size : Int))) > 268435455 then (frame_Frame_Print.j0 k a1 bt194.1 (IntKind.u64.wrap ((bt194.1.size : Int))) true a0_0 a0_1 a0_2 a0_3 a0_4 a0_5 4 0) else (if a1 = 2 then (frame_Frame_Print.j0 k a1 bt194.1 (IntKind.u64.wrap ((bt194.1.size : Int))) (decide ((IntKind.u64.wrap ((bt194.1.size : Int))) ≥ 16777216)) a0_0 a0_1 a0_2 a0_3 a0_4 a0_5 4 0) else (frame_Frame_Print.j0 k a1 bt194.1 (IntKind.u64.wrap ((bt194.1.size : Int))) false a0_0 a0_1 a0_2 a0_3 a0_4 a0_5 4 0))) else (frame_Frame_Print.j0 k a1 bt194.1 (IntKind.u64.wrap ((bt194.1.size : Int))) true a0_0 a0_1 a0_2 a0_3 a0_4 a0_5 4 0))))) = some (r1, r2, r3) := H
  have A3 := Aside0.mk A30
  clear A30
  replace H := Option.bind_eq_some_iff.mp H
  obtain ⟨t193, A40, H⟩ := H
  replace H : (if t193 = true then (some ((⟨#[]⟩ : ByteArray), t190, t191)) else ((frame_Frame_data.f k a0_0 a0_1 a0_2 a0_3 a0_4 a0_5 a1).bind fun bt194 => (if bt194.2 = true then (if (IntKind.u64.wrap ((bt194.1.size : Int))) > 268435455 then (frame_Frame_Print.j0 k a1 bt194.1 (IntKind.u64.wrap ((bt194.1.size : Int))) true a0_0 a0_1 a0_2 a0_3 a0_4 a0_5 4 0) else (if a1 = 2 then (frame_Frame_Print.j0 k a1 bt194.1 (IntKind.u64.wrap ((bt194.1.size : Int))) (decide ((IntKind.u64.wrap ((bt194.1.size : Int))) ≥ 16777216)) a0_0 a0_1 a0_2 a0_3 a0_4 a0_5 4 0) else (frame_Frame_Print.j0 k a1 bt194.1 (IntKind.u64.wrap ((bt194.1.size : Int))) false a0_0 a0_1 a0_2 a0_3 a0_4 a0_5 4 0))) else (frame_Frame_Print.j0 k a1 bt194.1 (IntKind.u64.wrap ((bt194.1.size : Int))) true a0_0 a0_1 a0_2 a0_3 a0_4 a0_5 4 0)))) = some (r1, r2, r3) := H
  have A4 := Aside0.mk A40
  clear A40
  by_cases c5 : t193 = true
  · subst c5
    have H1 : (some ((⟨#[]⟩ : ByteArray), t190, t191)) = some (r1, r2, r3) := by rw [if_pos rfl] at H; exact H
    clear H
    have H := H1
    clear H1
    simp only [Option.some.injEq, Prod.mk.injEq] at H
    obtain ⟨rfl, rfl, rfl⟩ := H
    go_enter Tryd.func31, Tryd.ntmps31
    try go_wp2_with (first | ((with_reducible refine gate_dst (N := 2) rfl ?_); refine box_event ?hg (N := 2) ?hd (cs := #[.string a0_0, .int .u8 a0_1, .int .u8 a0_2, .int .u8 a0_3, .string a0_4, .int .i64 a0_5]) (t := 36) ?hr ?_; (case hd => rfl); (case hg => rfl); (case hr => first | (go_simp; done) | (go_simp; rfl)); intro gb188 hg w6 hbox hb; have n0_ := Aside0.mk (below_step q_3 hb); have n1_ := Aside0.mk (hbox); have n2_ := Aside0.mk ((by rw [hg]; exact (below_size q_3) : w.heap.size ≤ gb188)); have n3_ := Aside0.mk ((by rw [hg]; exact (below_size q_3) : w.heap.size ≤ gb188)); clear HB; have HB := n0_; have BK188 := n1_; have GW188 := n2_; have GE188 := n3_; clear n0_ n1_ n2_ n3_; clear hb hbox hg) | ((with_reducible refine gate_dst (N := 5) rfl ?_); refine box_event ?hg (N := 5) ?hd (cs := #[.int .i64 0, .int .i64 0]) (t := 39) ?hr ?_; (case hd => rfl); (case hg => rfl); (case hr => first | (go_simp; done) | (go_simp; rfl)); intro gb189 hg w7 hbox hb; have n0_ := Aside0.mk (blk_below (g := gb188) (o := .cells #[.string a0_0, .int .u8 a0_1, .int .u8 a0_2, .int .u8 a0_3, .string a0_4, .int .i64 a0_5] 36 (0, 0)) q_30 hb); have n1_ := Aside0.mk (below_step q_31 hb); have n2_ := Aside0.mk (hbox); have n3_ := Aside0.mk ((by rw [hg]; exact (below_size q_31) : w.heap.size ≤ gb189)); have n4_ := Aside0.mk ((by rw [hg]; exact (below_size q_31) : w.heap.size ≤ gb189)); have n5_ := Aside0.mk ((q_137 : gb188 ≠ gb189)); have n6_ := Aside0.mk ((q_138 : gb189 ≠ gb188)); clear BK188; clear HB; have BK188 := n0_; have HB := n1_; have BK189 := n2_; have GW189 := n3_; have GE189 := n4_; have NB188_189 := n5_; have NB189_188 := n6_; clear n0_ n1_ n2_ n3_ n4_ n5_ n6_; clear hb hbox hg; have hnb8 := NB188_189.out; have hnc8 := NB189_188.out; obtain ⟨hcz9_0, hcz9_1, hcz9_2, hcz9_3, hcz9_4, hcz9_5, hfz9_0, hfz9_1, hfz9_2, hfz9_3, hfz9_4, hfz9_5⟩ := cells6_ BK188.out) | ((with_reducible refine gate_callee (f := 34) rfl ?_); refine goesL_ (some 15) rfl rfl Tryd.func34 (by kernel_rfl) rfl #[.agg #[.string a0_0, .int .u8 a0_1, .int .u8 a0_2, .int .u8 a0_3, .string a0_4, .int .i64 a0_5], .int .i64 a1] rfl q_7 ?_; (with_reducible refine (frame_Frame_Check.calls k a0_0 a0_1 a0_2 a0_3 a0_4 a0_5 a1 t190 t191 _ A3.out).mono ?_); rintro e w10 ⟨rfl, hb⟩; refine ⟨_, rfl, ?_⟩; have n0_ := Aside0.mk (blk_below (g := gb188) (o := .cells #[.string a0_0, .int .u8 a0_1, .int .u8 a0_2, .int .u8 a0_3, .string a0_4, .int .i64 a0_5] 36 (0, 0)) q_30 hb); have n1_ := Aside0.mk (blk_below (g := gb189) (o := .cells #[.int .i64 0, .int .i64 0] 39 (0, 0)) q_32 hb); have n2_ := Aside0.mk (below_step q_33 hb); clear BK188; clear BK189; clear HB; have BK188 := n0_; have BK189 := n1_; have HB := n2_; clear n0_ n1_ n2_; (try clear hb); (try clear hb2); (try clear hk); (try clear hi)) | ((with_reducible refine gate_dst (N := 6) rfl ?_); refine box_event ?hg (N := 6) ?hd (cs := #[.int .i64 0, .int .i64 0]) (t := 39) ?hr ?_; (case hd => rfl); (case hg => rfl); (case hr => first | (go_simp; done) | (go_simp; rfl)); intro gb192 hg w11 hbox hb; have n0_ := Aside0.mk (blk_below (g := gb188) (o := .cells #[.string a0_0, .int .u8 a0_1, .int .u8 a0_2, .int .u8 a0_3, .string a0_4, .int .i64 a0_5] 36 (0, 0)) q_30 hb); have n1_ := Aside0.mk (blk_below (g := gb189) (o := .cells #[.int .i64 0, .int .i64 0] 39 (0, 0)) q_32 hb); have n2_ := Aside0.mk (below_step q_33 hb); have n3_ := Aside0.mk (hbox); have n4_ := Aside0.mk ((by rw [hg]; exact (below_size q_33) : w.heap.size ≤ gb192)); have n5_ := Aside0.mk ((by rw [hg]; exact (below_size q_33) : w.heap.size ≤ gb192)); have n6_ := Aside0.mk ((q_137 : gb188 ≠ gb192)); have n7_ := Aside0.mk ((q_138 : gb192 ≠ gb188)); have n8_ := Aside0.mk ((q_139 : gb189 ≠ gb192)); have n9_ := Aside0.mk ((q_140 : gb192 ≠ gb189)); clear BK188; clear BK189; clear HB; have BK188 := n0_; have BK189 := n1_; have HB := n2_; have BK192 := n3_; have GW192 := n4_; have GE192 := n5_; have NB188_192 := n6_; have NB192_188 := n7_; have NB189_192 := n8_; have NB192_189 := n9_; clear n0_ n1_ n2_ n3_ n4_ n5_ n6_ n7_ n8_ n9_; clear hb hbox hg; have hnb12 := NB192_188.out; have hnc12 := NB188_192.out; have hnb13 := NB192_189.out; have hnc13 := NB189_192.out; obtain ⟨hcz14_0, hcz14_1, hfz14_0, hfz14_1⟩ := cells2_ BK192.out) | ((with_reducible refine gate_callee (f := 39) rfl ?_); refine goesL_ (some 17) rfl rfl Tryd.func39 (by kernel_rfl) rfl #[.agg #[.int .i64 t190, .int .i64 t191]] rfl q_7 ?_; (with_reducible refine (api_Fault_Bad.calls t190 t191 true _ A4.out).mono ?_); rintro e w15 ⟨rfl, hb⟩; refine ⟨_, rfl, ?_⟩; have n0_ := Aside0.mk (blk_below (g := gb188) (o := .cells #[.string a0_0, .int .u8 a0_1, .int .u8 a0_2, .int .u8 a0_3, .string a0_4, .int .i64 a0_5] 36 (0, 0)) (by (with_reducible repeat (first | refine blk_drewN ?_ _ | refine blk_drew ?_ | refine blk_alloc ?_ _)); refine blk_far ?_ NB188_192.out _; (with_reducible repeat (first | refine blk_drewN ?_ _ | refine blk_drew ?_ | refine blk_alloc ?_ _)); refine blk_far ?_ NB188_192.out _; (with_reducible repeat (first | refine blk_drewN ?_ _ | refine blk_drew ?_ | refine blk_alloc ?_ _)); exact BK188.out) hb); have n1_ := Aside0.mk (blk_below (g := gb189) (o := .cells #[.int .i64 0, .int .i64 0] 39 (0, 0)) (by (with_reducible repeat (first | refine blk_drewN ?_ _ | refine blk_drew ?_ | refine blk_alloc ?_ _)); refine blk_far ?_ NB189_192.out _; (with_reducible repeat (first | refine blk_drewN ?_ _ | refine blk_drew ?_ | refine blk_alloc ?_ _)); refine blk_far ?_ NB189_192.out _; (with_reducible repeat (first | refine blk_drewN ?_ _ | refine blk_drew ?_ | refine blk_alloc ?_ _)); exact BK189.out) hb); have n2_ := Aside0.mk (blk_below (g := gb192) (o := .cells #[.int .i64 t190, .int .i64 t191] 39 (0, 0)) (by (with_reducible repeat (first | refine blk_drewN ?_ _ | refine blk_drew ?_ | refine blk_alloc ?_ _)); refine blk_put (cs := #[.int .i64 t190, .int .i64 0]) ?_ 1 _ rfl; (with_reducible repeat (first | refine blk_drewN ?_ _ | refine blk_drew ?_ | refine blk_alloc ?_ _)); refine blk_put (cs := #[.int .i64 0, .int .i64 0]) ?_ 0 _ rfl; (with_reducible repeat (first | refine blk_drewN ?_ _ | refine blk_drew ?_ | refine blk_alloc ?_ _)); exact BK192.out) hb); have n3_ := Aside0.mk (below_step q_34 hb); clear BK188; clear BK189; clear BK192; clear HB; have BK188 := n0_; have BK189 := n1_; have BK192 := n2_; have HB := n3_; clear n0_ n1_ n2_ n3_; (try clear hb); (try clear hb2); (try clear hk); (try clear hi)))
    have n0_ := Aside0.mk (blk_drew BK188.out)
    have n1_ := Aside0.mk (blk_drew BK189.out)
    have n2_ := Aside0.mk (blk_drew BK192.out)
    have n3_ := Aside0.mk (below_drew1 HB.out)
    clear BK188
    clear BK189
    clear BK192
    clear HB
    have BK188 := n0_
    have BK189 := n1_
    have BK192 := n2_
    have HB := n3_
    clear n0_ n1_ n2_ n3_
    refine start_ (n := 3) (S := fun w' => w'.cell? ⟨gb192, 0, none⟩ = some (.int .i64 t190) ∧ w'.cell? ⟨gb192, 1, none⟩ = some (.int .i64 t191)) (ds := []) #[false, false, false] (by kernel_rfl) rfl rfl ⟨(blk_cell BK192.out 0).trans rfl, (blk_cell BK192.out 1).trans rfl⟩ (fun hHeld => ?_)
    generalize w15.drew = w16 at BK188 BK189 BK192 HB hHeld ⊢
    refine pure_ (i := 1) (N := some 4) (v := ?_) (a' := ?_) #[false, true, false] rfl rfl (by kernel_rfl) (fun _ _ _ h => h) (Or.inl ⟨by rfl, ?_⟩) ?_ ?_
    rotate_left
    · intro w'
      go_simp
      with_reducible rfl
    rotate_left
    · simp only [Act.put, List.setIfInBounds_toArray, List.set_cons_zero, List.set_cons_succ, i64_w, i32_w]
      rfl
    refine take_ (i := 0) (N := some 18) (v := ?_) (a' := ?_) #[true, true, false] rfl rfl (by kernel_rfl) (fun _ _ _ h => h) (Or.inl ⟨by rfl, ?_⟩) hHeld ?_ ?_
    rotate_left
    · rintro w' ⟨s0, s1⟩
      go_simp
      with_reducible rfl
    rotate_left
    · simp only [Act.put, List.setIfInBounds_toArray, List.set_cons_zero, List.set_cons_succ, i64_w, i32_w]
      rfl
    refine one_ (i := 2) (N := none) #[true, true, true] rfl rfl (by kernel_rfl) (by decide) (fun K hK => ?_)
    have hs17 : w16.cell? ⟨gb189, 0, none⟩ = some (.int .i64 0) := (blk_cell BK189.out 0).trans rfl
    have hfs17 := blk_frozen BK189.out 0
    have hns17_0 := NB188_189.out
    have hns17_2 := NB192_189.out
    have hms17_0 := NB189_188.out
    have hms17_2 := NB189_192.out
    have hs18 : w16.cell? ⟨gb189, 1, none⟩ = some (.int .i64 0) := (blk_cell BK189.out 1).trans rfl
    have hfs18 := blk_frozen BK189.out 1
    have hns18_0 := NB188_189.out
    have hns18_2 := NB192_189.out
    have hms18_0 := NB189_188.out
    have hms18_2 := NB189_192.out
    refine skip_ (w1 := ?_) (by rfl) rfl ?_ ?_
    rotate_left
    · go_simp
      rfl
    refine hK.out _ _ ⟨((cell_far (p := ⟨gb189, _, none⟩) NB192_189.out _).trans (((cell_far (p := ⟨gb189, _, none⟩) NB192_189.out _).trans (hHeld.1)))), ((cell_far (p := ⟨gb189, _, none⟩) NB192_189.out _).trans (((cell_far (p := ⟨gb189, _, none⟩) NB192_189.out _).trans (hHeld.2))))⟩ (fun hHeld => ?_)
    clear hK K
    refine done_ (by kernel_rfl) ?_
    try go_wp2
    refine bodyPost_ret (results_tc rfl _ _ gb189 39 #[.int .i64 t190, .int .i64 t191] (0, 0) _ rfl (by (with_reducible repeat (first | refine blk_drewN ?_ _ | refine blk_drew ?_ | refine blk_alloc ?_ _)); refine blk_put (cs := #[.int .i64 t190, .int .i64 0]) ?_ 1 _ rfl; (with_reducible repeat (first | refine blk_drewN ?_ _ | refine blk_drew ?_ | refine blk_alloc ?_ _)); refine blk_put (cs := #[.int .i64 0, .int .i64 0]) ?_ 0 _ rfl; (with_reducible repeat (first | refine blk_drewN ?_ _ | refine blk_drew ?_ | refine blk_alloc ?_ _)); exact BK189.out) Tryd.underlying39 rfl (by kernel_rfl)) rfl ?_
    exact ⟨q_11, q_34⟩
  · replace c5 := Bool.eq_false_iff.mpr c5
    subst c5
    have H1 : ((frame_Frame_data.f k a0_0 a0_1 a0_2 a0_3 a0_4 a0_5 a1).bind fun bt194 => (if bt194.2 = true then (if (IntKind.u64.wrap ((bt194.1.size : Int))) > 268435455 then (frame_Frame_Print.j0 k a1 bt194.1 (IntKind.u64.wrap ((bt194.1.size : Int))) true a0_0 a0_1 a0_2 a0_3 a0_4 a0_5 4 0) else (if a1 = 2 then (frame_Frame_Print.j0 k a1 bt194.1 (IntKind.u64.wrap ((bt194.1.size : Int))) (decide ((IntKind.u64.wrap ((bt194.1.size : Int))) ≥ 16777216)) a0_0 a0_1 a0_2 a0_3 a0_4 a0_5 4 0) else (frame_Frame_Print.j0 k a1 bt194.1 (IntKind.u64.wrap ((bt194.1.size : Int))) false a0_0 a0_1 a0_2 a0_3 a0_4 a0_5 4 0))) else (frame_Frame_Print.j0 k a1 bt194.1 (IntKind.u64.wrap ((bt194.1.size : Int))) true a0_0 a0_1 a0_2 a0_3 a0_4 a0_5 4 0))) = some (r1, r2, r3) := by rw [if_neg (show ¬ (false = true) by decide)] at H; exact H
    clear H
    have H := H1
    clear H1
    replace H := Option.bind_eq_some_iff.mp H
    obtain ⟨⟨t194, t195⟩, A190, H⟩ := H
    replace H : (if t195 = true then (if (IntKind.u64.wrap ((t194.size : Int))) > 268435455 then (frame_Frame_Print.j0 k a1 t194 (IntKind.u64.wrap ((t194.size : Int))) true a0_0 a0_1 a0_2 a0_3 a0_4 a0_5 4 0) else (if a1 = 2 then (frame_Frame_Print.j0 k a1 t194 (IntKind.u64.wrap ((t194.size : Int))) (decide ((IntKind.u64.wrap ((t194.size : Int))) ≥ 16777216)) a0_0 a0_1 a0_2 a0_3 a0_4 a0_5 4 0) else (frame_Frame_Print.j0 k a1 t194 (IntKind.u64.wrap ((t194.size : Int))) false a0_0 a0_1 a0_2 a0_3 a0_4 a0_5 4 0))) else (frame_Frame_Print.j0 k a1 t194 (IntKind.u64.wrap ((t194.size : Int))) true a0_0 a0_1 a0_2 a0_3 a0_4 a0_5 4 0)) = some (r1, r2, r3) := H
    have A19 := Aside0.mk A190
    clear A190
    have HC20 := Aside0.mk H
    clear H
    go_enter Tryd.func31, Tryd.ntmps31
    go_upto_region 7 with (first | ((with_reducible refine gate_dst (N := 2) rfl ?_); refine box_event ?hg (N := 2) ?hd (cs := #[.string a0_0, .int .u8 a0_1, .int .u8 a0_2, .int .u8 a0_3, .string a0_4, .int .i64 a0_5]) (t := 36) ?hr ?_; (case hd => rfl); (case hg => rfl); (case hr => first | (go_simp; done) | (go_simp; rfl)); intro gb188 hg w21 hbox hb; have n0_ := Aside0.mk (below_step q_3 hb); have n1_ := Aside0.mk (hbox); have n2_ := Aside0.mk ((by rw [hg]; exact (below_size q_3) : w.heap.size ≤ gb188)); have n3_ := Aside0.mk ((by rw [hg]; exact (below_size q_3) : w.heap.size ≤ gb188)); clear HB; have HB := n0_; have BK188 := n1_; have GW188 := n2_; have GE188 := n3_; clear n0_ n1_ n2_ n3_; clear hb hbox hg) | ((with_reducible refine gate_dst (N := 5) rfl ?_); refine box_event ?hg (N := 5) ?hd (cs := #[.int .i64 0, .int .i64 0]) (t := 39) ?hr ?_; (case hd => rfl); (case hg => rfl); (case hr => first | (go_simp; done) | (go_simp; rfl)); intro gb189 hg w22 hbox hb; have n0_ := Aside0.mk (blk_below (g := gb188) (o := .cells #[.string a0_0, .int .u8 a0_1, .int .u8 a0_2, .int .u8 a0_3, .string a0_4, .int .i64 a0_5] 36 (0, 0)) q_30 hb); have n1_ := Aside0.mk (below_step q_31 hb); have n2_ := Aside0.mk (hbox); have n3_ := Aside0.mk ((by rw [hg]; exact (below_size q_31) : w.heap.size ≤ gb189)); have n4_ := Aside0.mk ((by rw [hg]; exact (below_size q_31) : w.heap.size ≤ gb189)); have n5_ := Aside0.mk ((q_137 : gb188 ≠ gb189)); have n6_ := Aside0.mk ((q_138 : gb189 ≠ gb188)); clear BK188; clear HB; have BK188 := n0_; have HB := n1_; have BK189 := n2_; have GW189 := n3_; have GE189 := n4_; have NB188_189 := n5_; have NB189_188 := n6_; clear n0_ n1_ n2_ n3_ n4_ n5_ n6_; clear hb hbox hg; have hnb23 := NB188_189.out; have hnc23 := NB189_188.out; obtain ⟨hcz24_0, hcz24_1, hcz24_2, hcz24_3, hcz24_4, hcz24_5, hfz24_0, hfz24_1, hfz24_2, hfz24_3, hfz24_4, hfz24_5⟩ := cells6_ BK188.out) | ((with_reducible refine gate_callee (f := 34) rfl ?_); refine goesL_ (some 15) rfl rfl Tryd.func34 (by kernel_rfl) rfl #[.agg #[.string a0_0, .int .u8 a0_1, .int .u8 a0_2, .int .u8 a0_3, .string a0_4, .int .i64 a0_5], .int .i64 a1] rfl q_7 ?_; (with_reducible refine (frame_Frame_Check.calls k a0_0 a0_1 a0_2 a0_3 a0_4 a0_5 a1 t190 t191 _ A3.out).mono ?_); rintro e w25 ⟨rfl, hb⟩; refine ⟨_, rfl, ?_⟩; have n0_ := Aside0.mk (blk_below (g := gb188) (o := .cells #[.string a0_0, .int .u8 a0_1, .int .u8 a0_2, .int .u8 a0_3, .string a0_4, .int .i64 a0_5] 36 (0, 0)) q_30 hb); have n1_ := Aside0.mk (blk_below (g := gb189) (o := .cells #[.int .i64 0, .int .i64 0] 39 (0, 0)) q_32 hb); have n2_ := Aside0.mk (below_step q_33 hb); clear BK188; clear BK189; clear HB; have BK188 := n0_; have BK189 := n1_; have HB := n2_; clear n0_ n1_ n2_; (try clear hb); (try clear hb2); (try clear hk); (try clear hi)) | ((with_reducible refine gate_dst (N := 6) rfl ?_); refine box_event ?hg (N := 6) ?hd (cs := #[.int .i64 0, .int .i64 0]) (t := 39) ?hr ?_; (case hd => rfl); (case hg => rfl); (case hr => first | (go_simp; done) | (go_simp; rfl)); intro gb192 hg w26 hbox hb; have n0_ := Aside0.mk (blk_below (g := gb188) (o := .cells #[.string a0_0, .int .u8 a0_1, .int .u8 a0_2, .int .u8 a0_3, .string a0_4, .int .i64 a0_5] 36 (0, 0)) q_30 hb); have n1_ := Aside0.mk (blk_below (g := gb189) (o := .cells #[.int .i64 0, .int .i64 0] 39 (0, 0)) q_32 hb); have n2_ := Aside0.mk (below_step q_33 hb); have n3_ := Aside0.mk (hbox); have n4_ := Aside0.mk ((by rw [hg]; exact (below_size q_33) : w.heap.size ≤ gb192)); have n5_ := Aside0.mk ((by rw [hg]; exact (below_size q_33) : w.heap.size ≤ gb192)); have n6_ := Aside0.mk ((q_137 : gb188 ≠ gb192)); have n7_ := Aside0.mk ((q_138 : gb192 ≠ gb188)); have n8_ := Aside0.mk ((q_139 : gb189 ≠ gb192)); have n9_ := Aside0.mk ((q_140 : gb192 ≠ gb189)); clear BK188; clear BK189; clear HB; have BK188 := n0_; have BK189 := n1_; have HB := n2_; have BK192 := n3_; have GW192 := n4_; have GE192 := n5_; have NB188_192 := n6_; have NB192_188 := n7_; have NB189_192 := n8_; have NB192_189 := n9_; clear n0_ n1_ n2_ n3_ n4_ n5_ n6_ n7_ n8_ n9_; clear hb hbox hg; have hnb27 := NB192_188.out; have hnc27 := NB188_192.out; have hnb28 := NB192_189.out; have hnc28 := NB189_192.out; obtain ⟨hcz29_0, hcz29_1, hfz29_0, hfz29_1⟩ := cells2_ BK192.out) | ((with_reducible refine gate_callee (f := 39) rfl ?_); refine goesL_ (some 17) rfl rfl Tryd.func39 (by kernel_rfl) rfl #[.agg #[.int .i64 t190, .int .i64 t191]] rfl q_7 ?_; (with_reducible refine (api_Fault_Bad.calls t190 t191 false _ A4.out).mono ?_); rintro e w30 ⟨rfl, hb⟩; refine ⟨_, rfl, ?_⟩; have n0_ := Aside0.mk (blk_below (g := gb188) (o := .cells #[.string a0_0, .int .u8 a0_1, .int .u8 a0_2, .int .u8 a0_3, .string a0_4, .int .i64 a0_5] 36 (0, 0)) (by (with_reducible repeat (first | refine blk_drewN ?_ _ | refine blk_drew ?_ | refine blk_alloc ?_ _)); refine blk_far ?_ NB188_192.out _; (with_reducible repeat (first | refine blk_drewN ?_ _ | refine blk_drew ?_ | refine blk_alloc ?_ _)); refine blk_far ?_ NB188_192.out _; (with_reducible repeat (first | refine blk_drewN ?_ _ | refine blk_drew ?_ | refine blk_alloc ?_ _)); exact BK188.out) hb); have n1_ := Aside0.mk (blk_below (g := gb189) (o := .cells #[.int .i64 0, .int .i64 0] 39 (0, 0)) (by (with_reducible repeat (first | refine blk_drewN ?_ _ | refine blk_drew ?_ | refine blk_alloc ?_ _)); refine blk_far ?_ NB189_192.out _; (with_reducible repeat (first | refine blk_drewN ?_ _ | refine blk_drew ?_ | refine blk_alloc ?_ _)); refine blk_far ?_ NB189_192.out _; (with_reducible repeat (first | refine blk_drewN ?_ _ | refine blk_drew ?_ | refine blk_alloc ?_ _)); exact BK189.out) hb); have n2_ := Aside0.mk (blk_below (g := gb192) (o := .cells #[.int .i64 t190, .int .i64 t191] 39 (0, 0)) (by (with_reducible repeat (first | refine blk_drewN ?_ _ | refine blk_drew ?_ | refine blk_alloc ?_ _)); refine blk_put (cs := #[.int .i64 t190, .int .i64 0]) ?_ 1 _ rfl; (with_reducible repeat (first | refine blk_drewN ?_ _ | refine blk_drew ?_ | refine blk_alloc ?_ _)); refine blk_put (cs := #[.int .i64 0, .int .i64 0]) ?_ 0 _ rfl; (with_reducible repeat (first | refine blk_drewN ?_ _ | refine blk_drew ?_ | refine blk_alloc ?_ _)); exact BK192.out) hb); have n3_ := Aside0.mk (below_step q_34 hb); clear BK188; clear BK189; clear BK192; clear HB; have BK188 := n0_; have BK189 := n1_; have BK192 := n2_; have HB := n3_; clear n0_ n1_ n2_ n3_; (try clear hb); (try clear hb2); (try clear hk); (try clear hi); obtain ⟨hcz31_0, hcz31_1, hcz31_2, hcz31_3, hcz31_4, hcz31_5, hfz31_0, hfz31_1, hfz31_2, hfz31_3, hfz31_4, hfz31_5⟩ := cells6_ BK188.out) | ((with_reducible refine gate_callee (f := 49) rfl ?_); refine goesL_ (some 22) rfl rfl Tryd.func49 (by kernel_rfl) rfl #[.agg #[.string a0_0, .int .u8 a0_1, .int .u8 a0_2, .int .u8 a0_3, .string a0_4, .int .i64 a0_5], .int .i64 a1] rfl q_7 ?_; (with_reducible refine (frame_Frame_data.calls k a0_0 a0_1 a0_2 a0_3 a0_4 a0_5 a1 t194 t195 _ A19.out).mono ?_); rintro e w32 ⟨rfl, hb⟩; refine ⟨_, rfl, ?_⟩; have n0_ := Aside0.mk (blk_below (g := gb188) (o := .cells #[.string a0_0, .int .u8 a0_1, .int .u8 a0_2, .int .u8 a0_3, .string a0_4, .int .i64 a0_5] 36 (0, 0)) q_30 hb); have n1_ := Aside0.mk (blk_below (g := gb189) (o := .cells #[.int .i64 0, .int .i64 0] 39 (0, 0)) q_32 hb); have n2_ := Aside0.mk (blk_below (g := gb192) (o := .cells #[.int .i64 t190, .int .i64 t191] 39 (0, 0)) q_35 hb); have n3_ := Aside0.mk (below_step q_34 hb); clear BK188; clear BK189; clear BK192; clear HB; have BK188 := n0_; have BK189 := n1_; have BK192 := n2_; have HB := n3_; clear n0_ n1_ n2_ n3_; (try clear hb); (try clear hb2); (try clear hk); (try clear hi)) | ((with_reducible refine gate_dst (N := 10) rfl ?_); refine box_event ?hg (N := 10) ?hd (cs := #[.int .i64 0, .int .i64 0]) (t := 39) ?hr ?_; (case hd => rfl); (case hg => rfl); (case hr => first | (go_simp; done) | (go_simp; rfl)); intro gb196 hg w33 hbox hb; have n0_ := Aside0.mk (blk_below (g := gb188) (o := .cells #[.string a0_0, .int .u8 a0_1, .int .u8 a0_2, .int .u8 a0_3, .string a0_4, .int .i64 a0_5] 36 (0, 0)) q_30 hb); have n1_ := Aside0.mk (blk_below (g := gb189) (o := .cells #[.int .i64 0, .int .i64 0] 39 (0, 0)) q_32 hb); have n2_ := Aside0.mk (blk_below (g := gb192) (o := .cells #[.int .i64 t190, .int .i64 t191] 39 (0, 0)) q_35 hb); have n3_ := Aside0.mk (below_step q_34 hb); have n4_ := Aside0.mk (hbox); have n5_ := Aside0.mk ((by rw [hg]; exact (below_size q_34) : w.heap.size ≤ gb196)); have n6_ := Aside0.mk ((by rw [hg]; exact (below_size q_34) : w.heap.size ≤ gb196)); have n7_ := Aside0.mk ((q_137 : gb188 ≠ gb196)); have n8_ := Aside0.mk ((q_138 : gb196 ≠ gb188)); have n9_ := Aside0.mk ((q_139 : gb189 ≠ gb196)); have n10_ := Aside0.mk ((q_140 : gb196 ≠ gb189)); have n11_ := Aside0.mk ((by rw [hg]; exact Nat.ne_of_lt (blk_lt (g := gb192) (o := .cells #[.int .i64 t190, .int .i64 t191] 39 (0, 0)) q_35) : gb192 ≠ gb196)); have n12_ := Aside0.mk ((by rw [hg]; exact Nat.ne_of_gt (blk_lt (g := gb192) (o := .cells #[.int .i64 t190, .int .i64 t191] 39 (0, 0)) q_35) : gb196 ≠ gb192)); clear BK188; clear BK189; clear BK192; clear HB; have BK188 := n0_; have BK189 := n1_; have BK192 := n2_; have HB := n3_; have BK196 := n4_; have GW196 := n5_; have GE196 := n6_; have NB188_196 := n7_; have NB196_188 := n8_; have NB189_196 := n9_; have NB196_189 := n10_; have NB192_196 := n11_; have NB196_192 := n12_; clear n0_ n1_ n2_ n3_ n4_ n5_ n6_ n7_ n8_ n9_ n10_ n11_ n12_; clear hb hbox hg; have hnb34 := NB196_188.out; have hnc34 := NB188_196.out; have hnb35 := NB196_189.out; have hnc35 := NB189_196.out; have hnb36 := NB196_192.out; have hnc36 := NB192_196.out; obtain ⟨hcz37_0, hcz37_1, hfz37_0, hfz37_1⟩ := cells2_ BK196.out))
    (try simp only [Act.put, List.setIfInBounds_toArray, List.set_cons_zero, List.set_cons_succ])
    go_cut [42] (fun v42 wc => ∃ (kq : Nat) (x42_19 : Bool), v42 = .bool x42_19 ∧ Aside0 (frame_Frame_Print.j0 kq a1 t194 (IntKind.u64.wrap ((t194.size : Int))) x42_19 a0_0 a0_1 a0_2 a0_3 a0_4 a0_5 4 0 = some (r1, r2, r3)) ∧ Aside0 (kq ≤ k) ∧ Aside0 (wc.heap[gb188]? = some (.cells #[.string a0_0, .int .u8 a0_1, .int .u8 a0_2, .int .u8 a0_3, .string a0_4, .int .i64 a0_5] 36 (0, 0))) ∧ Aside0 (wc.heap[gb189]? = some (.cells #[.int .i64 0, .int .i64 0] 39 (0, 0))) ∧ Aside0 (wc.heap[gb192]? = some (.cells #[.int .i64 t190, .int .i64 t191] 39 (0, 0))) ∧ Aside0 (wc.heap[gb196]? = some (.cells #[.int .i64 4, .int .i64 0] 39 (0, 0))) ∧ Aside0 (Below w.heap.size w wc))
    case first =>
      have H := HC20.out
      clear HC20
      by_cases c38 : t195 = true
      · subst c38
        have H1 : (if (IntKind.u64.wrap ((t194.size : Int))) > 268435455 then (frame_Frame_Print.j0 k a1 t194 (IntKind.u64.wrap ((t194.size : Int))) true a0_0 a0_1 a0_2 a0_3 a0_4 a0_5 4 0) else (if a1 = 2 then (frame_Frame_Print.j0 k a1 t194 (IntKind.u64.wrap ((t194.size : Int))) (decide ((IntKind.u64.wrap ((t194.size : Int))) ≥ 16777216)) a0_0 a0_1 a0_2 a0_3 a0_4 a0_5 4 0) else (frame_Frame_Print.j0 k a1 t194 (IntKind.u64.wrap ((t194.size : Int))) false a0_0 a0_1 a0_2 a0_3 a0_4 a0_5 4 0))) = some (r1, r2, r3) := by rw [if_pos rfl] at H; exact H
        clear H
        have H := H1
        clear H1
        by_cases c39 : (IntKind.u64.wrap ((t194.size : Int))) > 268435455
        · rw [if_pos c39] at H
          have c39b0 : decide (268435455 < (IntKind.u64.wrap ((t194.size : Int)))) = true := decide_eq_true c39
          clear c39
          (first | rw [c39b0] | (simp only [i64_w, i32_w]; rw [c39b0]) | skip)
          have H' := Aside0.mk H
          clear H
          go_wp2
          go_meet
          case rel => exact ⟨_, (true), q_1, H', ⟨by first | omega | exact Nat.le_refl _⟩, ⟨q_40⟩, ⟨q_41⟩, ⟨q_42⟩, ⟨q_43⟩, ⟨q_38⟩⟩
        · rw [if_neg c39] at H
          have c39b0 : decide (268435455 < (IntKind.u64.wrap ((t194.size : Int)))) = false := decide_eq_false c39
          clear c39
          (first | rw [c39b0] | (simp only [i64_w, i32_w]; rw [c39b0]) | skip)
          by_cases c40 : a1 = 2
          · rw [if_pos c40] at H
            have c40b0 : (a1 == 2) = true := beq_iff_eq.mpr c40
            have c40b1 : (a1 != 2) = false := bne_eq_false_iff_eq.mpr c40
            clear c40
            have H' := Aside0.mk H
            clear H
            go_wp2
            go_meet
            case rel => exact ⟨_, (decide ((IntKind.u64.wrap ((t194.size : Int))) ≥ 16777216)), q_1, H', ⟨by first | omega | exact Nat.le_refl _⟩, ⟨q_40⟩, ⟨q_41⟩, ⟨q_42⟩, ⟨q_43⟩, ⟨q_38⟩⟩
          · rw [if_neg c40] at H
            have c40b0 : (a1 == 2) = false := beq_eq_false_iff_ne.mpr c40
            have c40b1 : (a1 != 2) = true := bne_iff_ne.mpr c40
            have H' := Aside0.mk H
            clear H
            go_wp2
            go_meet
            case rel => exact ⟨_, (false), q_1, H', ⟨by first | omega | exact Nat.le_refl _⟩, ⟨q_40⟩, ⟨q_41⟩, ⟨q_42⟩, ⟨q_43⟩, ⟨q_38⟩⟩
      · replace c38 := Bool.eq_false_iff.mpr c38
        subst c38
        have H1 : (frame_Frame_Print.j0 k a1 t194 (IntKind.u64.wrap ((t194.size : Int))) true a0_0 a0_1 a0_2 a0_3 a0_4 a0_5 4 0) = some (r1, r2, r3) := by rw [if_neg (show ¬ (false = true) by decide)] at H; exact H
        clear H
        have H := H1
        clear H1
        have H' := Aside0.mk H
        clear H
        go_wp2
        go_meet
        case rel => exact ⟨_, (true), q_1, H', ⟨by first | omega | exact Nat.le_refl _⟩, ⟨q_40⟩, ⟨q_41⟩, ⟨q_42⟩, ⟨q_43⟩, ⟨q_38⟩⟩
    case rest =>
      clear HC20
      try clear c1; try clear c2; try clear p2; try clear c3; try clear c4; try clear c5; try clear c8; try clear c12; try clear c13; try clear c23; try clear c27; try clear c28; try clear c31; try clear c34; try clear c35; try clear c36; try clear c38; try clear c39; try clear c39b0; try clear c40; try clear c40b0; try clear c40b1; try clear hcz14_0; try clear hcz14_1; try clear hcz24_0; try clear hcz24_1; try clear hcz24_2; try clear hcz24_3; try clear hcz24_4; try clear hcz24_5; try clear hcz29_0; try clear hcz29_1; try clear hcz31_0; try clear hcz31_1; try clear hcz31_2; try clear hcz31_3; try clear hcz31_4; try clear hcz31_5; try clear hcz37_0; try clear hcz37_1; try clear hcz9_0; try clear hcz9_1; try clear hcz9_2; try clear hcz9_3; try clear hcz9_4; try clear hcz9_5; try clear hfz14_0; try clear hfz14_1; try clear hfz24_0; try clear hfz24_1; try clear hfz24_2; try clear hfz24_3; try clear hfz24_4; try clear hfz24_5; try clear hfz29_0; try clear hfz29_1; try clear hfz31_0; try clear hfz31_1; try clear hfz31_2; try clear hfz31_3; try clear hfz31_4; try clear hfz31_5; try clear hfz37_0; try clear hfz37_1; try clear hfz9_0; try clear hfz9_1; try clear hfz9_2; try clear hfz9_3; try clear hfz9_4; try clear hfz9_5
      obtain ⟨kq, x42_19, rfl, HA, HJ19, BK188, BK189, BK192, BK196, HB⟩ := hcut
      cases kq with
      | zero => exact absurd HA.out (by simp [frame_Frame_Print.j0])
      | succ kj19 =>
        have H := HA.out
        clear HA
        simp only [frame_Frame_Print.j0] at H
        by_cases c41 : x42_19 = true
        · subst c41
          have H1 : (some ((⟨#[]⟩ : ByteArray), 4, 0)) = some (r1, r2, r3) := by rw [if_pos rfl] at H; exact H
          clear H
          have H := H1
          clear H1
          simp only [Option.some.injEq, Prod.mk.injEq] at H
          obtain ⟨rfl, rfl, rfl⟩ := H
          try go_wp2
          have n0_ := Aside0.mk (blk_drew BK188.out)
          have n1_ := Aside0.mk (blk_drew BK189.out)
          have n2_ := Aside0.mk (blk_drew BK192.out)
          have n3_ := Aside0.mk (blk_drew BK196.out)
          have n4_ := Aside0.mk (below_drew1 HB.out)
          clear BK188
          clear BK189
          clear BK192
          clear BK196
          clear HB
          have BK188 := n0_
          have BK189 := n1_
          have BK192 := n2_
          have BK196 := n3_
          have HB := n4_
          clear n0_ n1_ n2_ n3_ n4_
          refine start_ (n := 3) (S := fun w' => w'.cell? ⟨gb196, 0, none⟩ = some (.int .i64 4) ∧ w'.cell? ⟨gb196, 1, none⟩ = some (.int .i64 0)) (ds := []) #[false, false, false] (by kernel_rfl) rfl rfl ⟨(blk_cell BK196.out 0).trans rfl, (blk_cell BK196.out 1).trans rfl⟩ (fun hHeld => ?_)
          generalize wc.drew = w42 at BK188 BK189 BK192 BK196 HB hHeld ⊢
          refine pure_ (i := 1) (N := some 4) (v := ?_) (a' := ?_) #[false, true, false] rfl rfl (by kernel_rfl) (fun _ _ _ h => h) (Or.inl ⟨by rfl, ?_⟩) ?_ ?_
          rotate_left
          · intro w'
            go_simp
            with_reducible rfl
          rotate_left
          · simp only [Act.put, List.setIfInBounds_toArray, List.set_cons_zero, List.set_cons_succ, i64_w, i32_w]
            rfl
          refine take_ (i := 0) (N := some 43) (v := ?_) (a' := ?_) #[true, true, false] rfl rfl (by kernel_rfl) (fun _ _ _ h => h) (Or.inl ⟨by rfl, ?_⟩) hHeld ?_ ?_
          rotate_left
          · rintro w' ⟨s0, s1⟩
            go_simp
            with_reducible rfl
          rotate_left
          · simp only [Act.put, List.setIfInBounds_toArray, List.set_cons_zero, List.set_cons_succ, i64_w, i32_w]
            rfl
          refine one_ (i := 2) (N := none) #[true, true, true] rfl rfl (by kernel_rfl) (by decide) (fun K hK => ?_)
          have hs43 : w42.cell? ⟨gb189, 0, none⟩ = some (.int .i64 0) := (blk_cell BK189.out 0).trans rfl
          have hfs43 := blk_frozen BK189.out 0
          have hns43_0 := NB188_189.out
          have hns43_2 := NB192_189.out
          have hns43_3 := NB196_189.out
          have hms43_0 := NB189_188.out
          have hms43_2 := NB189_192.out
          have hms43_3 := NB189_196.out
          have hs44 : w42.cell? ⟨gb189, 1, none⟩ = some (.int .i64 0) := (blk_cell BK189.out 1).trans rfl
          have hfs44 := blk_frozen BK189.out 1
          have hns44_0 := NB188_189.out
          have hns44_2 := NB192_189.out
          have hns44_3 := NB196_189.out
          have hms44_0 := NB189_188.out
          have hms44_2 := NB189_192.out
          have hms44_3 := NB189_196.out
          refine skip_ (w1 := ?_) (by rfl) rfl ?_ ?_
          rotate_left
          · go_simp
            rfl
          refine hK.out _ _ ⟨((cell_far (p := ⟨gb189, _, none⟩) NB196_189.out _).trans (((cell_far (p := ⟨gb189, _, none⟩) NB196_189.out _).trans (hHeld.1)))), ((cell_far (p := ⟨gb189, _, none⟩) NB196_189.out _).trans (((cell_far (p := ⟨gb189, _, none⟩) NB196_189.out _).trans (hHeld.2))))⟩ (fun hHeld => ?_)
          clear hK K
          refine done_ (by kernel_rfl) ?_
          try go_wp2
          refine bodyPost_ret (results_tc rfl _ _ gb189 39 #[.int .i64 4, .int .i64 0] (0, 0) _ rfl (by (with_reducible repeat (first | refine blk_drewN ?_ _ | refine blk_drew ?_ | refine blk_alloc ?_ _)); refine blk_put (cs := #[.int .i64 4, .int .i64 0]) ?_ 1 _ rfl; (with_reducible repeat (first | refine blk_drewN ?_ _ | refine blk_drew ?_ | refine blk_alloc ?_ _)); refine blk_put (cs := #[.int .i64 0, .int .i64 0]) ?_ 0 _ rfl; (with_reducible repeat (first | refine blk_drewN ?_ _ | refine blk_drew ?_ | refine blk_alloc ?_ _)); exact BK189.out) Tryd.underlying39 rfl (by kernel_rfl)) rfl ?_
          exact ⟨q_11, q_38⟩
        · replace c41 := Bool.eq_false_iff.mpr c41
          subst c41
          have H1 : ((octet_Safe.f (IntKind.u64.wrap ((t194.size : Int)))).bind fun bt197 => (if a1 = 2 then ((octet_Big.f kj19 (IntKind.u64.wrap ((t194.size : Int))) 3).bind fun t199 => ((octet_Join.f (([a0_0, t199, t194] : List ByteArray))).bind fun t203 => (some (t203, 0, 0)))) else (if a1 = 3 then ((octet_Big.f kj19 (IntKind.u64.wrap ((t194.size : Int))) 4).bind fun t204 => ((octet_Big.f kj19 (IntKind.u64.wrap (a0_1)) 1).bind fun t205 => ((octet_Big.f kj19 (IntKind.u64.wrap (a0_2)) 1).bind fun t206 => ((octet_Join.f (([a0_0, t204, t205, t206, t194] : List ByteArray))).bind fun t210 => (some (t210, 0, 0)))))) else ((octet_Big.f kj19 (IntKind.u64.wrap (a0_1)) 1).bind fun t211 => ((octet_Big.f kj19 (IntKind.u64.wrap (a0_2)) 1).bind fun t212 => ((octet_Join.f (([a0_0, bt197.1, t211, t212, t194] : List ByteArray))).bind fun t216 => (some (t216, 0, 0)))))))) = some (r1, r2, r3) := by rw [if_neg (show ¬ (false = true) by decide)] at H; exact H
          clear H
          have H := H1
          clear H1
          replace H := Option.bind_eq_some_iff.mp H
          obtain ⟨⟨t197, t198⟩, A450, H⟩ := H
          replace H : (if a1 = 2 then ((octet_Big.f kj19 (IntKind.u64.wrap ((t194.size : Int))) 3).bind fun t199 => ((octet_Join.f (([a0_0, t199, t194] : List ByteArray))).bind fun t203 => (some (t203, 0, 0)))) else (if a1 = 3 then ((octet_Big.f kj19 (IntKind.u64.wrap ((t194.size : Int))) 4).bind fun t204 => ((octet_Big.f kj19 (IntKind.u64.wrap (a0_1)) 1).bind fun t205 => ((octet_Big.f kj19 (IntKind.u64.wrap (a0_2)) 1).bind fun t206 => ((octet_Join.f (([a0_0, t204, t205, t206, t194] : List ByteArray))).bind fun t210 => (some (t210, 0, 0)))))) else ((octet_Big.f kj19 (IntKind.u64.wrap (a0_1)) 1).bind fun t211 => ((octet_Big.f kj19 (IntKind.u64.wrap (a0_2)) 1).bind fun t212 => ((octet_Join.f (([a0_0, t197, t211, t212, t194] : List ByteArray))).bind fun t216 => (some (t216, 0, 0))))))) = some (r1, r2, r3) := H
          have A45 := Aside0.mk A450
          clear A450
          by_cases c46 : a1 = 2
          · rw [if_pos c46] at H
            have c46b0 : (a1 == 2) = true := beq_iff_eq.mpr c46
            have c46b1 : (a1 != 2) = false := bne_eq_false_iff_eq.mpr c46
            clear c46
            replace H := Option.bind_eq_some_iff.mp H
            obtain ⟨t199, A470, H⟩ := H
            replace H : ((octet_Join.f (([a0_0, t199, t194] : List ByteArray))).bind fun t203 => (some (t203, 0, 0))) = some (r1, r2, r3) := H
            have A47 := Aside0.mk A470
            clear A470
            obtain ⟨y200, hy200⟩ : ∃ y_ : List ByteArray, y_ = (([a0_0, t199, t194] : List ByteArray)) := ⟨_, rfl⟩
            replace H : ((octet_Join.f y200).bind fun t203 => (some (t203, 0, 0))) = some (r1, r2, r3) := by first | (rw [hy200]; with_reducible exact H) | (have H2_ := (Option.bind_some _ _).symm.trans H; rw [hy200]; with_reducible exact H2_) | (have H2_ := (Option.bind_some _ _).symm.trans H; with_reducible exact H2_) | with_reducible exact H | (rw [hy200]; exact H) | exact H
            have Ny200 := Aside0.mk hy200
            clear hy200
            replace H := Option.bind_eq_some_iff.mp H
            obtain ⟨t203, A480, H⟩ := H
            replace H : (some (t203, 0, 0)) = some (r1, r2, r3) := H
            have A48 := Aside0.mk A480
            clear A480
            simp only [Option.some.injEq, Prod.mk.injEq] at H
            obtain ⟨rfl, rfl, rfl⟩ := H
            try go_wp2_with (first | ((with_reducible refine gate_callee (f := 50) rfl ?_); refine goesL_ (some 46) rfl rfl Tryd.func50 (by kernel_rfl) rfl #[.int .u64 (IntKind.u64.wrap ((t194.size : Int)))] rfl q_36 ?_; (with_reducible refine (octet_Safe.calls (IntKind.u64.wrap ((t194.size : Int))) t197 t198 _ A45.out).mono ?_); rintro e w49 ⟨rfl, hb⟩; refine ⟨_, rfl, ?_⟩; have n0_ := Aside0.mk (blk_below (g := gb188) (o := .cells #[.string a0_0, .int .u8 a0_1, .int .u8 a0_2, .int .u8 a0_3, .string a0_4, .int .i64 a0_5] 36 (0, 0)) q_30 hb); have n1_ := Aside0.mk (blk_below (g := gb189) (o := .cells #[.int .i64 0, .int .i64 0] 39 (0, 0)) q_32 hb); have n2_ := Aside0.mk (blk_below (g := gb192) (o := .cells #[.int .i64 t190, .int .i64 t191] 39 (0, 0)) q_35 hb); have n3_ := Aside0.mk (blk_below (g := gb196) (o := .cells #[.int .i64 4, .int .i64 0] 39 (0, 0)) q_37 hb); have n4_ := Aside0.mk (below_step q_38 hb); clear BK188; clear BK189; clear BK192; clear BK196; clear HB; have BK188 := n0_; have BK189 := n1_; have BK192 := n2_; have BK196 := n3_; have HB := n4_; clear n0_ n1_ n2_ n3_ n4_; (try clear hb); (try clear hb2); (try clear hk); (try clear hi)))
            have n0_ := Aside0.mk (blk_drew BK188.out)
            have n1_ := Aside0.mk (blk_drew BK189.out)
            have n2_ := Aside0.mk (blk_drew BK192.out)
            have n3_ := Aside0.mk (blk_drew BK196.out)
            have n4_ := Aside0.mk (below_drew1 HB.out)
            clear BK188
            clear BK189
            clear BK192
            clear BK196
            clear HB
            have BK188 := n0_
            have BK189 := n1_
            have BK192 := n2_
            have BK196 := n3_
            have HB := n4_
            clear n0_ n1_ n2_ n3_ n4_
            refine start_ (n := 11) (S := fun w' => w'.cell? ⟨gb188, 0, none⟩ = some (.string a0_0) ∧ w'.cell? ⟨gb188, 1, none⟩ = some (.int .u8 a0_1) ∧ w'.cell? ⟨gb188, 2, none⟩ = some (.int .u8 a0_2) ∧ w'.cell? ⟨gb188, 3, none⟩ = some (.int .u8 a0_3) ∧ w'.cell? ⟨gb188, 4, none⟩ = some (.string a0_4) ∧ w'.cell? ⟨gb188, 5, none⟩ = some (.int .i64 a0_5)) (ds := []) #[false, false, false, false, false, false, false, false, false, false, false] (by kernel_rfl) rfl rfl ⟨(blk_cell BK188.out 0).trans rfl, (blk_cell BK188.out 1).trans rfl, (blk_cell BK188.out 2).trans rfl, (blk_cell BK188.out 3).trans rfl, (blk_cell BK188.out 4).trans rfl, (blk_cell BK188.out 5).trans rfl⟩ (fun hHeld => ?_); refine with_tabW frame_Frame_Print.tab12 frame_Frame_Print.bits12 (fun HT_ HW_ => ?_)
            generalize w49.drew = w50 at BK188 BK189 BK192 BK196 HB hHeld ⊢
            refine pure_ (i := 0) (N := some 52) (v := ?_) (a' := ?_) #[true, false, false, false, false, false, false, false, false, false, false] rfl rfl (any_of HT_.out (by kernel_rfl)) (fun _ _ _ h => h) (Or.inl ⟨by rfl, ?_⟩) ?_ ?_
            rotate_left
            · intro w'
              go_simp
              with_reducible rfl
            rotate_left
            · simp only [Act.put, List.setIfInBounds_toArray, List.set_cons_zero, List.set_cons_succ, i64_w, i32_w]
              rfl
            refine pure_ (i := 1) (N := some 53) (v := ?_) (a' := ?_) #[true, true, false, false, false, false, false, false, false, false, false] rfl rfl (any_of HT_.out (by kernel_rfl)) (fun _ _ _ h => h) (Or.inl ⟨by rfl, ?_⟩) ?_ ?_
            rotate_left
            · intro w'
              go_simp
              with_reducible rfl
            rotate_left
            · simp only [Act.put, List.setIfInBounds_toArray, List.set_cons_zero, List.set_cons_succ, i64_w, i32_w]
              rfl
            refine pure_ (i := 3) (N := some 55) (v := ?_) (a' := ?_) #[true, true, false, true, false, false, false, false, false, false, false] rfl rfl (any_of HT_.out (by kernel_rfl)) (fun _ _ _ h => h) (Or.inl ⟨by rfl, ?_⟩) ?_ ?_
            rotate_left
            · intro w'
              go_simp
              with_reducible rfl
            rotate_left
            · simp only [Act.put, List.setIfInBounds_toArray, List.set_cons_zero, List.set_cons_succ, i64_w, i32_w]
              rfl
            refine pure_ (i := 5) (N := some 57) (v := ?_) (a' := ?_) #[true, true, false, true, false, true, false, false, false, false, false] rfl rfl (any_of HT_.out (by kernel_rfl)) (fun _ _ _ h => h) (Or.inl ⟨by rfl, ?_⟩) ?_ ?_
            rotate_left
            · intro w'
              go_simp
              with_reducible rfl
            rotate_left
            · simp only [Act.put, List.setIfInBounds_toArray, List.set_cons_zero, List.set_cons_succ, i64_w, i32_w]
              rfl
            refine pure_ (i := 8) (N := some 60) (v := ?_) (a' := ?_) #[true, true, false, true, false, true, false, false, true, false, false] rfl rfl (any_of HT_.out (by kernel_rfl)) (fun _ _ _ h => h) (Or.inl ⟨by rfl, ?_⟩) ?_ ?_
            rotate_left
            · intro w'
              go_simp
              with_reducible rfl
            rotate_left
            · simp only [Act.put, List.setIfInBounds_toArray, List.set_cons_zero, List.set_cons_succ, i64_w, i32_w]
              rfl
            refine take_ (i := 2) (N := some 54) (v := ?_) (a' := ?_) #[true, true, true, true, false, true, false, false, true, false, false] rfl rfl (take_ofW HT_.out HW_.out (by kernel_rfl)) (fun _ _ _ h => h) (Or.inl ⟨by rfl, ?_⟩) hHeld ?_ ?_
            rotate_left
            · rintro w' ⟨s0, s1, s2, s3, s4, s5⟩
              go_simp
              with_reducible rfl
            rotate_left
            · simp only [Act.put, List.setIfInBounds_toArray, List.set_cons_zero, List.set_cons_succ, i64_w, i32_w]
              rfl
            refine one_ (i := 4) (N := some 56) #[true, true, true, true, true, true, false, false, true, false, false] rfl rfl (one_of HT_.out (by kernel_rfl)) (by decide) (fun K hK => ?_)
            refine goes_ Tryd.func52 (by kernel_rfl) rfl #[.int .u64 (IntKind.u64.wrap ((t194.size : Int))), .int .i64 3] (by rfl) rfl rfl q_36 ?_
            with_reducible refine (octet_Big.calls kj19 (IntKind.u64.wrap ((t194.size : Int))) 3 t199 _ A47.out).mono ?_
            rintro e w51 ⟨rfl, hb⟩
            refine ⟨_, rfl, ?_⟩
            have n0_ := Aside0.mk (blk_below (g := gb188) (o := .cells #[.string a0_0, .int .u8 a0_1, .int .u8 a0_2, .int .u8 a0_3, .string a0_4, .int .i64 a0_5] 36 (0, 0)) q_30 hb)
            have n1_ := Aside0.mk (blk_below (g := gb189) (o := .cells #[.int .i64 0, .int .i64 0] 39 (0, 0)) q_32 hb)
            have n2_ := Aside0.mk (blk_below (g := gb192) (o := .cells #[.int .i64 t190, .int .i64 t191] 39 (0, 0)) q_35 hb)
            have n3_ := Aside0.mk (blk_below (g := gb196) (o := .cells #[.int .i64 4, .int .i64 0] 39 (0, 0)) q_37 hb)
            have n4_ := Aside0.mk (below_step q_38 hb)
            clear BK188
            clear BK189
            clear BK192
            clear BK196
            clear HB
            have BK188 := n0_
            have BK189 := n1_
            have BK192 := n2_
            have BK196 := n3_
            have HB := n4_
            clear n0_ n1_ n2_ n3_ n4_
            (try clear hb)
            (try clear hb2)
            (try clear hk)
            (try clear hi)
            refine hK.out _ _ ⟨(blk_cell BK188.out 0).trans rfl, (blk_cell BK188.out 1).trans rfl, (blk_cell BK188.out 2).trans rfl, (blk_cell BK188.out 3).trans rfl, (blk_cell BK188.out 4).trans rfl, (blk_cell BK188.out 5).trans rfl⟩ (fun hHeld => ?_)
            clear hK K
            refine norm_ (a' := ?_) ?_ ?_
            rotate_left
            · show Act.put _ (some 56) _ = _
              simp only [Act.put, List.setIfInBounds_toArray, List.set_cons_zero, List.set_cons_succ, i64_w, i32_w]
              rfl
            refine one_ (i := 6) (N := some 58) #[true, true, true, true, true, true, true, false, true, false, false] rfl rfl (one_of HT_.out (by kernel_rfl)) (by decide) (fun K hK => ?_)
            refine Kd.R_lit_step Kd.string _ 9 ?hg (N := 58) ?hd (xs := ([a0_0, t199, t194] : List ByteArray)) (inner := [.string a0_0, .string t199, .string t194]) (ok := fun _ => True) (okp := fun _ => True) ?hr ?hp (fun _ hk => hk) trivial (Below.refl _ _) (Nat.le_refl _) (by simp) ?_; (case hd => rfl); (case hg => rfl); (case hr => first | (go_simp; done) | (go_simp; rfl)); (case hp => exact (Reps.one (show Kd.M Kd.string _ _ _ a0_0 [.string a0_0] from rfl) (Reps.one (show Kd.M Kd.string _ _ _ t199 [.string t199] from rfl) (Reps.one (show Kd.M Kd.string _ _ _ t194 [.string t194] from rfl) (Reps.none _ _)))))
            intro v201 w52 ho53 hb hg_ hnew_
            clear hg_ hnew_
            (first | rw [← Ny200.out] at ho53 | (simp only [Int.reduceToNat] at ho53; rw [← Ny200.out] at ho53))
            have n0_ := Aside0.mk (Kd.R_lower ho53 (below_size q_38))
            have n1_ := Aside0.mk (blk_below (g := gb188) (o := .cells #[.string a0_0, .int .u8 a0_1, .int .u8 a0_2, .int .u8 a0_3, .string a0_4, .int .i64 a0_5] 36 (0, 0)) q_30 hb)
            have n2_ := Aside0.mk (blk_below (g := gb189) (o := .cells #[.int .i64 0, .int .i64 0] 39 (0, 0)) q_32 hb)
            have n3_ := Aside0.mk (blk_below (g := gb192) (o := .cells #[.int .i64 t190, .int .i64 t191] 39 (0, 0)) q_35 hb)
            have n4_ := Aside0.mk (blk_below (g := gb196) (o := .cells #[.int .i64 4, .int .i64 0] 39 (0, 0)) q_37 hb)
            have n5_ := Aside0.mk (below_step q_38 hb)
            clear BK188
            clear BK189
            clear BK192
            clear BK196
            clear HB
            have HO202 := n0_
            have BK188 := n1_
            have BK189 := n2_
            have BK192 := n3_
            have BK196 := n4_
            have HB := n5_
            clear n0_ n1_ n2_ n3_ n4_ n5_
            clear hb ho53
            obtain ⟨Ao54, co54, eo54⟩ := Kd.R_slice HO202.out
            (first | subst eo54 | (injection eo54 with f1_ f2_ f3_; have f4_ := f1_.symm; have f5_ := f3_.symm; clear f1_ f2_ f3_; subst f4_; subst f5_))
            refine hK.out _ _ ⟨(blk_cell BK188.out 0).trans rfl, (blk_cell BK188.out 1).trans rfl, (blk_cell BK188.out 2).trans rfl, (blk_cell BK188.out 3).trans rfl, (blk_cell BK188.out 4).trans rfl, (blk_cell BK188.out 5).trans rfl⟩ (fun hHeld => ?_)
            clear hK K
            refine norm_ (a' := ?_) ?_ ?_
            rotate_left
            · show Act.put _ (some 58) _ = _
              simp only [Act.put, List.setIfInBounds_toArray, List.set_cons_zero, List.set_cons_succ, i64_w, i32_w]
              rfl
            refine one_ (i := 7) (N := some 59) #[true, true, true, true, true, true, true, true, true, false, false] rfl rfl (one_of HT_.out (by kernel_rfl)) (by decide) (fun K hK => ?_)
            refine goes_ Tryd.func51 (by kernel_rfl) rfl #[.slice Ao54 y200.length co54] (by rfl) rfl rfl q_7 ?_
            with_reducible refine (octet_Join.calls _ _ y200 t203 _ ?side1 ?side2 A48.out).mono ?_
            (case side1 => repeat (first | exact (Kd.R_reads' HO202.out).2.2 | (with_reducible refine Kd.C_alloc ?_ _) | (with_reducible refine Kd.C_drewN ?_ _) | (with_reducible refine Kd.C_drew ?_)))
            (case side2 => exact (Kd.R_reads' HO202.out).2.1)
            rintro e w55 ⟨rfl, hb⟩
            refine ⟨_, rfl, ?_⟩
            have n0_ := Aside0.mk (Kd.R_below (by (with_reducible repeat (first | apply Kd.R_alloc | apply Kd.R_drewN | apply Kd.R_drew)); exact HO202.out) hb)
            have n1_ := Aside0.mk (blk_below (g := gb188) (o := .cells #[.string a0_0, .int .u8 a0_1, .int .u8 a0_2, .int .u8 a0_3, .string a0_4, .int .i64 a0_5] 36 (0, 0)) q_30 hb)
            have n2_ := Aside0.mk (blk_below (g := gb189) (o := .cells #[.int .i64 0, .int .i64 0] 39 (0, 0)) q_32 hb)
            have n3_ := Aside0.mk (blk_below (g := gb192) (o := .cells #[.int .i64 t190, .int .i64 t191] 39 (0, 0)) q_35 hb)
            have n4_ := Aside0.mk (blk_below (g := gb196) (o := .cells #[.int .i64 4, .int .i64 0] 39 (0, 0)) q_37 hb)
            have n5_ := Aside0.mk (below_step q_38 hb)
            clear HO202
            clear BK188
            clear BK189
            clear BK192
            clear BK196
            clear HB
            have HO202 := n0_
            have BK188 := n1_
            have BK189 := n2_
            have BK192 := n3_
            have BK196 := n4_
            have HB := n5_
            clear n0_ n1_ n2_ n3_ n4_ n5_
            (try clear hb)
            (try clear hb2)
            (try clear hk)
            (try clear hi)
            refine hK.out _ _ ⟨(blk_cell BK188.out 0).trans rfl, (blk_cell BK188.out 1).trans rfl, (blk_cell BK188.out 2).trans rfl, (blk_cell BK188.out 3).trans rfl, (blk_cell BK188.out 4).trans rfl, (blk_cell BK188.out 5).trans rfl⟩ (fun hHeld => ?_)
            clear hK K
            refine norm_ (a' := ?_) ?_ ?_
            rotate_left
            · show Act.put _ (some 59) _ = _
              simp only [Act.put, List.setIfInBounds_toArray, List.set_cons_zero, List.set_cons_succ, i64_w, i32_w]
              rfl
            refine pure_ (i := 9) (N := some 4) (v := ?_) (a' := ?_) #[true, true, true, true, true, true, true, true, true, true, false] rfl rfl (any_of HT_.out (by kernel_rfl)) (fun _ _ _ h => h) (Or.inl ⟨by rfl, ?_⟩) ?_ ?_
            rotate_left
            · intro w'
              go_simp
              with_reducible rfl
            rotate_left
            · simp only [Act.put, List.setIfInBounds_toArray, List.set_cons_zero, List.set_cons_succ, i64_w, i32_w]
              rfl
            refine one_ (i := 10) (N := none) #[true, true, true, true, true, true, true, true, true, true, true] rfl rfl (one_of HT_.out (by kernel_rfl)) (by decide) (fun K hK => ?_)
            have hs56 : w55.cell? ⟨gb189, 0, none⟩ = some (.int .i64 0) := (blk_cell BK189.out 0).trans rfl
            have hfs56 := blk_frozen BK189.out 0
            have hns56_0 := NB188_189.out
            have hns56_2 := NB192_189.out
            have hns56_3 := NB196_189.out
            have hms56_0 := NB189_188.out
            have hms56_2 := NB189_192.out
            have hms56_3 := NB189_196.out
            have hs57 : w55.cell? ⟨gb189, 1, none⟩ = some (.int .i64 0) := (blk_cell BK189.out 1).trans rfl
            have hfs57 := blk_frozen BK189.out 1
            have hns57_0 := NB188_189.out
            have hns57_2 := NB192_189.out
            have hns57_3 := NB196_189.out
            have hms57_0 := NB189_188.out
            have hms57_2 := NB189_192.out
            have hms57_3 := NB189_196.out
            refine skip_ (w1 := ?_) (by rfl) rfl ?_ ?_
            rotate_left
            · go_simp
              rfl
            refine hK.out _ _ ⟨((cell_far (p := ⟨gb189, _, none⟩) NB188_189.out _).trans (((cell_far (p := ⟨gb189, _, none⟩) NB188_189.out _).trans (hHeld.1)))), ((cell_far (p := ⟨gb189, _, none⟩) NB188_189.out _).trans (((cell_far (p := ⟨gb189, _, none⟩) NB188_189.out _).trans (hHeld.2.1)))), ((cell_far (p := ⟨gb189, _, none⟩) NB188_189.out _).trans (((cell_far (p := ⟨gb189, _, none⟩) NB188_189.out _).trans (hHeld.2.2.1)))), ((cell_far (p := ⟨gb189, _, none⟩) NB188_189.out _).trans (((cell_far (p := ⟨gb189, _, none⟩) NB188_189.out _).trans (hHeld.2.2.2.1)))), ((cell_far (p := ⟨gb189, _, none⟩) NB188_189.out _).trans (((cell_far (p := ⟨gb189, _, none⟩) NB188_189.out _).trans (hHeld.2.2.2.2.1)))), ((cell_far (p := ⟨gb189, _, none⟩) NB188_189.out _).trans (((cell_far (p := ⟨gb189, _, none⟩) NB188_189.out _).trans (hHeld.2.2.2.2.2))))⟩ (fun hHeld => ?_)
            clear hK K
            refine done_ (done_of HT_.out (by kernel_rfl)) ?_
            try go_wp2
            refine bodyPost_ret (results_tc rfl _ _ gb189 39 #[.int .i64 0, .int .i64 0] (0, 0) _ rfl q_39 Tryd.underlying39 rfl (by kernel_rfl)) rfl ?_
            exact ⟨q_11, q_38⟩
          · rw [if_neg c46] at H
            have c46b0 : (a1 == 2) = false := beq_eq_false_iff_ne.mpr c46
            have c46b1 : (a1 != 2) = true := bne_iff_ne.mpr c46
            by_cases c58 : a1 = 3
            · rw [if_pos c58] at H
              have c58b0 : (a1 == 3) = true := beq_iff_eq.mpr c58
              have c58b1 : (a1 != 3) = false := bne_eq_false_iff_eq.mpr c58
              clear c58
              replace H := Option.bind_eq_some_iff.mp H
              obtain ⟨t204, A590, H⟩ := H
              replace H : ((octet_Big.f kj19 (IntKind.u64.wrap (a0_1)) 1).bind fun t205 => ((octet_Big.f kj19 (IntKind.u64.wrap (a0_2)) 1).bind fun t206 => ((octet_Join.f (([a0_0, t204, t205, t206, t194] : List ByteArray))).bind fun t210 => (some (t210, 0, 0))))) = some (r1, r2, r3) := H
              have A59 := Aside0.mk A590
              clear A590
              replace H := Option.bind_eq_some_iff.mp H
              obtain ⟨t205, A600, H⟩ := H
              replace H : ((octet_Big.f kj19 (IntKind.u64.wrap (a0_2)) 1).bind fun t206 => ((octet_Join.f (([a0_0, t204, t205, t206, t194] : List ByteArray))).bind fun t210 => (some (t210, 0, 0)))) = some (r1, r2, r3) := H
              have A60 := Aside0.mk A600
              clear A600
              replace H := Option.bind_eq_some_iff.mp H
              obtain ⟨t206, A610, H⟩ := H
              replace H : ((octet_Join.f (([a0_0, t204, t205, t206, t194] : List ByteArray))).bind fun t210 => (some (t210, 0, 0))) = some (r1, r2, r3) := H
              have A61 := Aside0.mk A610
              clear A610
              obtain ⟨y207, hy207⟩ : ∃ y_ : List ByteArray, y_ = (([a0_0, t204, t205, t206, t194] : List ByteArray)) := ⟨_, rfl⟩
              replace H : ((octet_Join.f y207).bind fun t210 => (some (t210, 0, 0))) = some (r1, r2, r3) := by first | (rw [hy207]; with_reducible exact H) | (have H2_ := (Option.bind_some _ _).symm.trans H; rw [hy207]; with_reducible exact H2_) | (have H2_ := (Option.bind_some _ _).symm.trans H; with_reducible exact H2_) | with_reducible exact H | (rw [hy207]; exact H) | exact H
              have Ny207 := Aside0.mk hy207
              clear hy207
              replace H := Option.bind_eq_some_iff.mp H
              obtain ⟨t210, A620, H⟩ := H
              replace H : (some (t210, 0, 0)) = some (r1, r2, r3) := H
              have A62 := Aside0.mk A620
              clear A620
              simp only [Option.some.injEq, Prod.mk.injEq] at H
              obtain ⟨rfl, rfl, rfl⟩ := H
              try go_wp2_with (first | ((with_reducible refine gate_callee (f := 50) rfl ?_); refine goesL_ (some 46) rfl rfl Tryd.func50 (by kernel_rfl) rfl #[.int .u64 (IntKind.u64.wrap ((t194.size : Int)))] rfl q_36 ?_; (with_reducible refine (octet_Safe.calls (IntKind.u64.wrap ((t194.size : Int))) t197 t198 _ A45.out).mono ?_); rintro e w63 ⟨rfl, hb⟩; refine ⟨_, rfl, ?_⟩; have n0_ := Aside0.mk (blk_below (g := gb188) (o := .cells #[.string a0_0, .int .u8 a0_1, .int .u8 a0_2, .int .u8 a0_3, .string a0_4, .int .i64 a0_5] 36 (0, 0)) q_30 hb); have n1_ := Aside0.mk (blk_below (g := gb189) (o := .cells #[.int .i64 0, .int .i64 0] 39 (0, 0)) q_32 hb); have n2_ := Aside0.mk (blk_below (g := gb192) (o := .cells #[.int .i64 t190, .int .i64 t191] 39 (0, 0)) q_35 hb); have n3_ := Aside0.mk (blk_below (g := gb196) (o := .cells #[.int .i64 4, .int .i64 0] 39 (0, 0)) q_37 hb); have n4_ := Aside0.mk (below_step q_38 hb); clear BK188; clear BK189; clear BK192; clear BK196; clear HB; have BK188 := n0_; have BK189 := n1_; have BK192 := n2_; have BK196 := n3_; have HB := n4_; clear n0_ n1_ n2_ n3_ n4_; (try clear hb); (try clear hb2); (try clear hk); (try clear hi)) | ((with_reducible refine gate_callee (f := 52) rfl ?_); refine goesL_ (some 64) rfl rfl Tryd.func52 (by kernel_rfl) rfl #[.int .u64 (IntKind.u64.wrap ((t194.size : Int))), .int .i64 4] rfl q_36 ?_; (with_reducible refine (octet_Big.calls kj19 (IntKind.u64.wrap ((t194.size : Int))) 4 t204 _ A59.out).mono ?_); rintro e w64 ⟨rfl, hb⟩; refine ⟨_, rfl, ?_⟩; have n0_ := Aside0.mk (blk_below (g := gb188) (o := .cells #[.string a0_0, .int .u8 a0_1, .int .u8 a0_2, .int .u8 a0_3, .string a0_4, .int .i64 a0_5] 36 (0, 0)) q_30 hb); have n1_ := Aside0.mk (blk_below (g := gb189) (o := .cells #[.int .i64 0, .int .i64 0] 39 (0, 0)) q_32 hb); have n2_ := Aside0.mk (blk_below (g := gb192) (o := .cells #[.int .i64 t190, .int .i64 t191] 39 (0, 0)) q_35 hb); have n3_ := Aside0.mk (blk_below (g := gb196) (o := .cells #[.int .i64 4, .int .i64 0] 39 (0, 0)) q_37 hb); have n4_ := Aside0.mk (below_step q_38 hb); clear BK188; clear BK189; clear BK192; clear BK196; clear HB; have BK188 := n0_; have BK189 := n1_; have BK192 := n2_; have BK196 := n3_; have HB := n4_; clear n0_ n1_ n2_ n3_ n4_; (try clear hb); (try clear hb2); (try clear hk); (try clear hi)))
              have n0_ := Aside0.mk (blk_drew BK188.out)
              have n1_ := Aside0.mk (blk_drew BK189.out)
              have n2_ := Aside0.mk (blk_drew BK192.out)
              have n3_ := Aside0.mk (blk_drew BK196.out)
              have n4_ := Aside0.mk (below_drew1 HB.out)
              clear BK188
              clear BK189
              clear BK192
              clear BK196
              clear HB
              have BK188 := n0_
              have BK189 := n1_
              have BK192 := n2_
              have BK196 := n3_
              have HB := n4_
              clear n0_ n1_ n2_ n3_ n4_
              refine start_ (n := 20) (S := fun w' => w'.cell? ⟨gb188, 0, none⟩ = some (.string a0_0) ∧ w'.cell? ⟨gb188, 1, none⟩ = some (.int .u8 a0_1) ∧ w'.cell? ⟨gb188, 2, none⟩ = some (.int .u8 a0_2) ∧ w'.cell? ⟨gb188, 3, none⟩ = some (.int .u8 a0_3) ∧ w'.cell? ⟨gb188, 4, none⟩ = some (.string a0_4) ∧ w'.cell? ⟨gb188, 5, none⟩ = some (.int .i64 a0_5)) (ds := []) #[false, false, false, false, false, false, false, false, false, false, false, false, false, false, false, false, false, false, false, false] (by kernel_rfl) rfl rfl ⟨(blk_cell BK188.out 0).trans rfl, (blk_cell BK188.out 1).trans rfl, (blk_cell BK188.out 2).trans rfl, (blk_cell BK188.out 3).trans rfl, (blk_cell BK188.out 4).trans rfl, (blk_cell BK188.out 5).trans rfl⟩ (fun hHeld => ?_); refine with_tabW frame_Frame_Print.tab15 frame_Frame_Print.bits15 (fun HT_ HW_ => ?_)
              generalize w64.drew = w65 at BK188 BK189 BK192 BK196 HB hHeld ⊢
              refine pure_ (i := 0) (N := some 65) (v := ?_) (a' := ?_) #[true, false, false, false, false, false, false, false, false, false, false, false, false, false, false, false, false, false, false, false] rfl rfl (any_of HT_.out (by kernel_rfl)) (fun _ _ _ h => h) (Or.inl ⟨by rfl, ?_⟩) ?_ ?_
              rotate_left
              · intro w'
                go_simp
                with_reducible rfl
              rotate_left
              · simp only [Act.put, List.setIfInBounds_toArray, List.set_cons_zero, List.set_cons_succ, i64_w, i32_w]
                rfl
              refine pure_ (i := 1) (N := some 66) (v := ?_) (a' := ?_) #[true, true, false, false, false, false, false, false, false, false, false, false, false, false, false, false, false, false, false, false] rfl rfl (any_of HT_.out (by kernel_rfl)) (fun _ _ _ h => h) (Or.inl ⟨by rfl, ?_⟩) ?_ ?_
              rotate_left
              · intro w'
                go_simp
                with_reducible rfl
              rotate_left
              · simp only [Act.put, List.setIfInBounds_toArray, List.set_cons_zero, List.set_cons_succ, i64_w, i32_w]
                rfl
              refine pure_ (i := 3) (N := some 68) (v := ?_) (a' := ?_) #[true, true, false, true, false, false, false, false, false, false, false, false, false, false, false, false, false, false, false, false] rfl rfl (any_of HT_.out (by kernel_rfl)) (fun _ _ _ h => h) (Or.inl ⟨by rfl, ?_⟩) ?_ ?_
              rotate_left
              · intro w'
                go_simp
                with_reducible rfl
              rotate_left
              · simp only [Act.put, List.setIfInBounds_toArray, List.set_cons_zero, List.set_cons_succ, i64_w, i32_w]
                rfl
              refine pure_ (i := 4) (N := some 69) (v := ?_) (a' := ?_) #[true, true, false, true, true, false, false, false, false, false, false, false, false, false, false, false, false, false, false, false] rfl rfl (any_of HT_.out (by kernel_rfl)) (fun _ _ _ h => h) (Or.inl ⟨by rfl, ?_⟩) ?_ ?_
              rotate_left
              · intro w'
                go_simp
                with_reducible rfl
              rotate_left
              · simp only [Act.put, List.setIfInBounds_toArray, List.set_cons_zero, List.set_cons_succ, i64_w, i32_w]
                rfl
              refine pure_ (i := 5) (N := some 70) (v := ?_) (a' := ?_) #[true, true, false, true, true, true, false, false, false, false, false, false, false, false, false, false, false, false, false, false] rfl rfl (any_of HT_.out (by kernel_rfl)) (fun _ _ _ h => h) (Or.inl ⟨by rfl, ?_⟩) ?_ ?_
              rotate_left
              · intro w'
                go_simp
                with_reducible rfl
              rotate_left
              · simp only [Act.put, List.setIfInBounds_toArray, List.set_cons_zero, List.set_cons_succ, i64_w, i32_w]
                rfl
              refine pure_ (i := 9) (N := some 74) (v := ?_) (a' := ?_) #[true, true, false, true, true, true, false, false, false, true, false, false, false, false, false, false, false, false, false, false] rfl rfl (any_of HT_.out (by kernel_rfl)) (fun _ _ _ h => h) (Or.inl ⟨by rfl, ?_⟩) ?_ ?_
              rotate_left
              · intro w'
                go_simp
                with_reducible rfl
              rotate_left
              · simp only [Act.put, List.setIfInBounds_toArray, List.set_cons_zero, List.set_cons_succ, i64_w, i32_w]
                rfl
              refine pure_ (i := 10) (N := some 75) (v := ?_) (a' := ?_) #[true, true, false, true, true, true, false, false, false, true, true, false, false, false, false, false, false, false, false, false] rfl rfl (any_of HT_.out (by kernel_rfl)) (fun _ _ _ h => h) (Or.inl ⟨by rfl, ?_⟩) ?_ ?_
              rotate_left
              · intro w'
                go_simp
                with_reducible rfl
              rotate_left
              · simp only [Act.put, List.setIfInBounds_toArray, List.set_cons_zero, List.set_cons_succ, i64_w, i32_w]
                rfl
              refine pure_ (i := 14) (N := some 79) (v := ?_) (a' := ?_) #[true, true, false, true, true, true, false, false, false, true, true, false, false, false, true, false, false, false, false, false] rfl rfl (any_of HT_.out (by kernel_rfl)) (fun _ _ _ h => h) (Or.inl ⟨by rfl, ?_⟩) ?_ ?_
              rotate_left
              · intro w'
                go_simp
                with_reducible rfl
              rotate_left
              · simp only [Act.put, List.setIfInBounds_toArray, List.set_cons_zero, List.set_cons_succ, i64_w, i32_w]
                rfl
              refine pure_ (i := 17) (N := some 82) (v := ?_) (a' := ?_) #[true, true, false, true, true, true, false, false, false, true, true, false, false, false, true, false, false, true, false, false] rfl rfl (any_of HT_.out (by kernel_rfl)) (fun _ _ _ h => h) (Or.inl ⟨by rfl, ?_⟩) ?_ ?_
              rotate_left
              · intro w'
                go_simp
                with_reducible rfl
              rotate_left
              · simp only [Act.put, List.setIfInBounds_toArray, List.set_cons_zero, List.set_cons_succ, i64_w, i32_w]
                rfl
              refine take_ (i := 2) (N := some 67) (v := ?_) (a' := ?_) #[true, true, true, true, true, true, false, false, false, true, true, false, false, false, true, false, false, true, false, false] rfl rfl (take_ofW HT_.out HW_.out (by kernel_rfl)) (fun _ _ _ h => h) (Or.inl ⟨by rfl, ?_⟩) hHeld ?_ ?_
              rotate_left
              · rintro w' ⟨s0, s1, s2, s3, s4, s5⟩
                go_simp
                with_reducible rfl
              rotate_left
              · simp only [Act.put, List.setIfInBounds_toArray, List.set_cons_zero, List.set_cons_succ, i64_w, i32_w]
                rfl
              refine take_ (i := 6) (N := some 71) (v := ?_) (a' := ?_) #[true, true, true, true, true, true, true, false, false, true, true, false, false, false, true, false, false, true, false, false] rfl rfl (take_ofW HT_.out HW_.out (by kernel_rfl)) (fun _ _ _ h => h) (Or.inl ⟨by rfl, ?_⟩) hHeld ?_ ?_
              rotate_left
              · rintro w' ⟨s0, s1, s2, s3, s4, s5⟩
                go_simp
                with_reducible rfl
              rotate_left
              · simp only [Act.put, List.setIfInBounds_toArray, List.set_cons_zero, List.set_cons_succ, i64_w, i32_w]
                rfl
              refine pure_ (i := 7) (N := some 72) (v := ?_) (a' := ?_) #[true, true, true, true, true, true, true, true, false, true, true, false, false, false, true, false, false, true, false, false] rfl rfl (any_of HT_.out (by kernel_rfl)) (fun _ _ _ h => h) (Or.inl ⟨by rfl, ?_⟩) ?_ ?_
              rotate_left
              · intro w'
                go_simp
                with_reducible rfl
              rotate_left
              · simp only [Act.put, List.setIfInBounds_toArray, List.set_cons_zero, List.set_cons_succ, i64_w, i32_w]
                rfl
              refine take_ (i := 11) (N := some 76) (v := ?_) (a' := ?_) #[true, true, true, true, true, true, true, true, false, true, true, true, false, false, true, false, false, true, false, false] rfl rfl (take_ofW HT_.out HW_.out (by kernel_rfl)) (fun _ _ _ h => h) (Or.inl ⟨by rfl, ?_⟩) hHeld ?_ ?_
              rotate_left
              · rintro w' ⟨s0, s1, s2, s3, s4, s5⟩
                go_simp
                with_reducible rfl
              rotate_left
              · simp only [Act.put, List.setIfInBounds_toArray, List.set_cons_zero, List.set_cons_succ, i64_w, i32_w]
                rfl
              refine pure_ (i := 12) (N := some 77) (v := ?_) (a' := ?_) #[true, true, true, true, true, true, true, true, false, true, true, true, true, false, true, false, false, true, false, false] rfl rfl (any_of HT_.out (by kernel_rfl)) (fun _ _ _ h => h) (Or.inl ⟨by rfl, ?_⟩) ?_ ?_
              rotate_left
              · intro w'
                go_simp
                with_reducible rfl
              rotate_left
              · simp only [Act.put, List.setIfInBounds_toArray, List.set_cons_zero, List.set_cons_succ, i64_w, i32_w]
                rfl
              refine one_ (i := 8) (N := some 73) #[true, true, true, true, true, true, true, true, true, true, true, true, true, false, true, false, false, true, false, false] rfl rfl (one_of HT_.out (by kernel_rfl)) (by decide) (fun K hK => ?_)
              refine goes_ Tryd.func52 (by kernel_rfl) rfl #[.int .u64 (IntKind.u64.wrap (a0_1)), .int .i64 1] (by rfl) rfl rfl q_7 ?_
              with_reducible refine (octet_Big.calls kj19 (IntKind.u64.wrap (a0_1)) 1 t205 _ A60.out).mono ?_
              rintro e w66 ⟨rfl, hb⟩
              refine ⟨_, rfl, ?_⟩
              have n0_ := Aside0.mk (blk_below (g := gb188) (o := .cells #[.string a0_0, .int .u8 a0_1, .int .u8 a0_2, .int .u8 a0_3, .string a0_4, .int .i64 a0_5] 36 (0, 0)) q_30 hb)
              have n1_ := Aside0.mk (blk_below (g := gb189) (o := .cells #[.int .i64 0, .int .i64 0] 39 (0, 0)) q_32 hb)
              have n2_ := Aside0.mk (blk_below (g := gb192) (o := .cells #[.int .i64 t190, .int .i64 t191] 39 (0, 0)) q_35 hb)
              have n3_ := Aside0.mk (blk_below (g := gb196) (o := .cells #[.int .i64 4, .int .i64 0] 39 (0, 0)) q_37 hb)
              have n4_ := Aside0.mk (below_step q_38 hb)
              clear BK188
              clear BK189
              clear BK192
              clear BK196
              clear HB
              have BK188 := n0_
              have BK189 := n1_
              have BK192 := n2_
              have BK196 := n3_
              have HB := n4_
              clear n0_ n1_ n2_ n3_ n4_
              (try clear hb)
              (try clear hb2)
              (try clear hk)
              (try clear hi)
              refine hK.out _ _ ⟨(blk_cell BK188.out 0).trans rfl, (blk_cell BK188.out 1).trans rfl, (blk_cell BK188.out 2).trans rfl, (blk_cell BK188.out 3).trans rfl, (blk_cell BK188.out 4).trans rfl, (blk_cell BK188.out 5).trans rfl⟩ (fun hHeld => ?_)
              clear hK K
              refine norm_ (a' := ?_) ?_ ?_
              rotate_left
              · show Act.put _ (some 73) _ = _
                simp only [Act.put, List.setIfInBounds_toArray, List.set_cons_zero, List.set_cons_succ, i64_w, i32_w]
                rfl
              refine one_ (i := 13) (N := some 78) #[true, true, true, true, true, true, true, true, true, true, true, true, true, true, true, false, false, true, false, false] rfl rfl (one_of HT_.out (by kernel_rfl)) (by decide) (fun K hK => ?_)
              refine goes_ Tryd.func52 (by kernel_rfl) rfl #[.int .u64 (IntKind.u64.wrap (a0_2)), .int .i64 1] (by rfl) rfl rfl q_7 ?_
              with_reducible refine (octet_Big.calls kj19 (IntKind.u64.wrap (a0_2)) 1 t206 _ A61.out).mono ?_
              rintro e w67 ⟨rfl, hb⟩
              refine ⟨_, rfl, ?_⟩
              have n0_ := Aside0.mk (blk_below (g := gb188) (o := .cells #[.string a0_0, .int .u8 a0_1, .int .u8 a0_2, .int .u8 a0_3, .string a0_4, .int .i64 a0_5] 36 (0, 0)) q_30 hb)
              have n1_ := Aside0.mk (blk_below (g := gb189) (o := .cells #[.int .i64 0, .int .i64 0] 39 (0, 0)) q_32 hb)
              have n2_ := Aside0.mk (blk_below (g := gb192) (o := .cells #[.int .i64 t190, .int .i64 t191] 39 (0, 0)) q_35 hb)
              have n3_ := Aside0.mk (blk_below (g := gb196) (o := .cells #[.int .i64 4, .int .i64 0] 39 (0, 0)) q_37 hb)
              have n4_ := Aside0.mk (below_step q_38 hb)
              clear BK188
              clear BK189
              clear BK192
              clear BK196
              clear HB
              have BK188 := n0_
              have BK189 := n1_
              have BK192 := n2_
              have BK196 := n3_
              have HB := n4_
              clear n0_ n1_ n2_ n3_ n4_
              (try clear hb)
              (try clear hb2)
              (try clear hk)
              (try clear hi)
              refine hK.out _ _ ⟨(blk_cell BK188.out 0).trans rfl, (blk_cell BK188.out 1).trans rfl, (blk_cell BK188.out 2).trans rfl, (blk_cell BK188.out 3).trans rfl, (blk_cell BK188.out 4).trans rfl, (blk_cell BK188.out 5).trans rfl⟩ (fun hHeld => ?_)
              clear hK K
              refine norm_ (a' := ?_) ?_ ?_
              rotate_left
              · show Act.put _ (some 78) _ = _
                simp only [Act.put, List.setIfInBounds_toArray, List.set_cons_zero, List.set_cons_succ, i64_w, i32_w]
                rfl
              refine one_ (i := 15) (N := some 80) #[true, true, true, true, true, true, true, true, true, true, true, true, true, true, true, true, false, true, false, false] rfl rfl (one_of HT_.out (by kernel_rfl)) (by decide) (fun K hK => ?_)
              refine Kd.R_lit_step Kd.string _ 9 ?hg (N := 80) ?hd (xs := ([a0_0, t204, t205, t206, t194] : List ByteArray)) (inner := [.string a0_0, .string t204, .string t205, .string t206, .string t194]) (ok := fun _ => True) (okp := fun _ => True) ?hr ?hp (fun _ hk => hk) trivial (Below.refl _ _) (Nat.le_refl _) (by simp) ?_; (case hd => rfl); (case hg => rfl); (case hr => first | (go_simp; done) | (go_simp; rfl)); (case hp => exact (Reps.one (show Kd.M Kd.string _ _ _ a0_0 [.string a0_0] from rfl) (Reps.one (show Kd.M Kd.string _ _ _ t204 [.string t204] from rfl) (Reps.one (show Kd.M Kd.string _ _ _ t205 [.string t205] from rfl) (Reps.one (show Kd.M Kd.string _ _ _ t206 [.string t206] from rfl) (Reps.one (show Kd.M Kd.string _ _ _ t194 [.string t194] from rfl) (Reps.none _ _)))))))
              intro v208 w68 ho69 hb hg_ hnew_
              clear hg_ hnew_
              (first | rw [← Ny207.out] at ho69 | (simp only [Int.reduceToNat] at ho69; rw [← Ny207.out] at ho69))
              have n0_ := Aside0.mk (Kd.R_lower ho69 (below_size q_38))
              have n1_ := Aside0.mk (blk_below (g := gb188) (o := .cells #[.string a0_0, .int .u8 a0_1, .int .u8 a0_2, .int .u8 a0_3, .string a0_4, .int .i64 a0_5] 36 (0, 0)) q_30 hb)
              have n2_ := Aside0.mk (blk_below (g := gb189) (o := .cells #[.int .i64 0, .int .i64 0] 39 (0, 0)) q_32 hb)
              have n3_ := Aside0.mk (blk_below (g := gb192) (o := .cells #[.int .i64 t190, .int .i64 t191] 39 (0, 0)) q_35 hb)
              have n4_ := Aside0.mk (blk_below (g := gb196) (o := .cells #[.int .i64 4, .int .i64 0] 39 (0, 0)) q_37 hb)
              have n5_ := Aside0.mk (below_step q_38 hb)
              clear BK188
              clear BK189
              clear BK192
              clear BK196
              clear HB
              have HO209 := n0_
              have BK188 := n1_
              have BK189 := n2_
              have BK192 := n3_
              have BK196 := n4_
              have HB := n5_
              clear n0_ n1_ n2_ n3_ n4_ n5_
              clear hb ho69
              obtain ⟨Ao70, co70, eo70⟩ := Kd.R_slice HO209.out
              (first | subst eo70 | (injection eo70 with f1_ f2_ f3_; have f4_ := f1_.symm; have f5_ := f3_.symm; clear f1_ f2_ f3_; subst f4_; subst f5_))
              refine hK.out _ _ ⟨(blk_cell BK188.out 0).trans rfl, (blk_cell BK188.out 1).trans rfl, (blk_cell BK188.out 2).trans rfl, (blk_cell BK188.out 3).trans rfl, (blk_cell BK188.out 4).trans rfl, (blk_cell BK188.out 5).trans rfl⟩ (fun hHeld => ?_)
              clear hK K
              refine norm_ (a' := ?_) ?_ ?_
              rotate_left
              · show Act.put _ (some 80) _ = _
                simp only [Act.put, List.setIfInBounds_toArray, List.set_cons_zero, List.set_cons_succ, i64_w, i32_w]
                rfl
              refine one_ (i := 16) (N := some 81) #[true, true, true, true, true, true, true, true, true, true, true, true, true, true, true, true, true, true, false, false] rfl rfl (one_of HT_.out (by kernel_rfl)) (by decide) (fun K hK => ?_)
              refine goes_ Tryd.func51 (by kernel_rfl) rfl #[.slice Ao70 y207.length co70] (by rfl) rfl rfl q_7 ?_
              with_reducible refine (octet_Join.calls _ _ y207 t210 _ ?side1 ?side2 A62.out).mono ?_
              (case side1 => repeat (first | exact (Kd.R_reads' HO209.out).2.2 | (with_reducible refine Kd.C_alloc ?_ _) | (with_reducible refine Kd.C_drewN ?_ _) | (with_reducible refine Kd.C_drew ?_)))
              (case side2 => exact (Kd.R_reads' HO209.out).2.1)
              rintro e w71 ⟨rfl, hb⟩
              refine ⟨_, rfl, ?_⟩
              have n0_ := Aside0.mk (Kd.R_below (by (with_reducible repeat (first | apply Kd.R_alloc | apply Kd.R_drewN | apply Kd.R_drew)); exact HO209.out) hb)
              have n1_ := Aside0.mk (blk_below (g := gb188) (o := .cells #[.string a0_0, .int .u8 a0_1, .int .u8 a0_2, .int .u8 a0_3, .string a0_4, .int .i64 a0_5] 36 (0, 0)) q_30 hb)
              have n2_ := Aside0.mk (blk_below (g := gb189) (o := .cells #[.int .i64 0, .int .i64 0] 39 (0, 0)) q_32 hb)
              have n3_ := Aside0.mk (blk_below (g := gb192) (o := .cells #[.int .i64 t190, .int .i64 t191] 39 (0, 0)) q_35 hb)
              have n4_ := Aside0.mk (blk_below (g := gb196) (o := .cells #[.int .i64 4, .int .i64 0] 39 (0, 0)) q_37 hb)
              have n5_ := Aside0.mk (below_step q_38 hb)
              clear HO209
              clear BK188
              clear BK189
              clear BK192
              clear BK196
              clear HB
              have HO209 := n0_
              have BK188 := n1_
              have BK189 := n2_
              have BK192 := n3_
              have BK196 := n4_
              have HB := n5_
              clear n0_ n1_ n2_ n3_ n4_ n5_
              (try clear hb)
              (try clear hb2)
              (try clear hk)
              (try clear hi)
              refine hK.out _ _ ⟨(blk_cell BK188.out 0).trans rfl, (blk_cell BK188.out 1).trans rfl, (blk_cell BK188.out 2).trans rfl, (blk_cell BK188.out 3).trans rfl, (blk_cell BK188.out 4).trans rfl, (blk_cell BK188.out 5).trans rfl⟩ (fun hHeld => ?_)
              clear hK K
              refine norm_ (a' := ?_) ?_ ?_
              rotate_left
              · show Act.put _ (some 81) _ = _
                simp only [Act.put, List.setIfInBounds_toArray, List.set_cons_zero, List.set_cons_succ, i64_w, i32_w]
                rfl
              refine pure_ (i := 18) (N := some 4) (v := ?_) (a' := ?_) #[true, true, true, true, true, true, true, true, true, true, true, true, true, true, true, true, true, true, true, false] rfl rfl (any_of HT_.out (by kernel_rfl)) (fun _ _ _ h => h) (Or.inl ⟨by rfl, ?_⟩) ?_ ?_
              rotate_left
              · intro w'
                go_simp
                with_reducible rfl
              rotate_left
              · simp only [Act.put, List.setIfInBounds_toArray, List.set_cons_zero, List.set_cons_succ, i64_w, i32_w]
                rfl
              refine one_ (i := 19) (N := none) #[true, true, true, true, true, true, true, true, true, true, true, true, true, true, true, true, true, true, true, true] rfl rfl (one_of HT_.out (by kernel_rfl)) (by decide) (fun K hK => ?_)
              have hs72 : w71.cell? ⟨gb189, 0, none⟩ = some (.int .i64 0) := (blk_cell BK189.out 0).trans rfl
              have hfs72 := blk_frozen BK189.out 0
              have hns72_0 := NB188_189.out
              have hns72_2 := NB192_189.out
              have hns72_3 := NB196_189.out
              have hms72_0 := NB189_188.out
              have hms72_2 := NB189_192.out
              have hms72_3 := NB189_196.out
              have hs73 : w71.cell? ⟨gb189, 1, none⟩ = some (.int .i64 0) := (blk_cell BK189.out 1).trans rfl
              have hfs73 := blk_frozen BK189.out 1
              have hns73_0 := NB188_189.out
              have hns73_2 := NB192_189.out
              have hns73_3 := NB196_189.out
              have hms73_0 := NB189_188.out
              have hms73_2 := NB189_192.out
              have hms73_3 := NB189_196.out
              refine skip_ (w1 := ?_) (by rfl) rfl ?_ ?_
              rotate_left
              · go_simp
                rfl
              refine hK.out _ _ ⟨((cell_far (p := ⟨gb189, _, none⟩) NB188_189.out _).trans (((cell_far (p := ⟨gb189, _, none⟩) NB188_189.out _).trans (hHeld.1)))), ((cell_far (p := ⟨gb189, _, none⟩) NB188_189.out _).trans (((cell_far (p := ⟨gb189, _, none⟩) NB188_189.out _).trans (hHeld.2.1)))), ((cell_far (p := ⟨gb189, _, none⟩) NB188_189.out _).trans (((cell_far (p := ⟨gb189, _, none⟩) NB188_189.out _).trans (hHeld.2.2.1)))), ((cell_far (p := ⟨gb189, _, none⟩) NB188_189.out _).trans (((cell_far (p := ⟨gb189, _, none⟩) NB188_189.out _).trans (hHeld.2.2.2.1)))), ((cell_far (p := ⟨gb189, _, none⟩) NB188_189.out _).trans (((cell_far (p := ⟨gb189, _, none⟩) NB188_189.out _).trans (hHeld.2.2.2.2.1)))), ((cell_far (p := ⟨gb189, _, none⟩) NB188_189.out _).trans (((cell_far (p := ⟨gb189, _, none⟩) NB188_189.out _).trans (hHeld.2.2.2.2.2))))⟩ (fun hHeld => ?_)
              clear hK K
              refine done_ (done_of HT_.out (by kernel_rfl)) ?_
              try go_wp2
              refine bodyPost_ret (results_tc rfl _ _ gb189 39 #[.int .i64 0, .int .i64 0] (0, 0) _ rfl q_39 Tryd.underlying39 rfl (by kernel_rfl)) rfl ?_
              exact ⟨q_11, q_38⟩
            · rw [if_neg c58] at H
              have c58b0 : (a1 == 3) = false := beq_eq_false_iff_ne.mpr c58
              have c58b1 : (a1 != 3) = true := bne_iff_ne.mpr c58
              replace H := Option.bind_eq_some_iff.mp H
              obtain ⟨t211, A740, H⟩ := H
              replace H : ((octet_Big.f kj19 (IntKind.u64.wrap (a0_2)) 1).bind fun t212 => ((octet_Join.f (([a0_0, t197, t211, t212, t194] : List ByteArray))).bind fun t216 => (some (t216, 0, 0)))) = some (r1, r2, r3) := H
              have A74 := Aside0.mk A740
              clear A740
              replace H := Option.bind_eq_some_iff.mp H
              obtain ⟨t212, A750, H⟩ := H
              replace H : ((octet_Join.f (([a0_0, t197, t211, t212, t194] : List ByteArray))).bind fun t216 => (some (t216, 0, 0))) = some (r1, r2, r3) := H
              have A75 := Aside0.mk A750
              clear A750
              obtain ⟨y213, hy213⟩ : ∃ y_ : List ByteArray, y_ = (([a0_0, t197, t211, t212, t194] : List ByteArray)) := ⟨_, rfl⟩
              replace H : ((octet_Join.f y213).bind fun t216 => (some (t216, 0, 0))) = some (r1, r2, r3) := by first | (rw [hy213]; with_reducible exact H) | (have H2_ := (Option.bind_some _ _).symm.trans H; rw [hy213]; with_reducible exact H2_) | (have H2_ := (Option.bind_some _ _).symm.trans H; with_reducible exact H2_) | with_reducible exact H | (rw [hy213]; exact H) | exact H
              have Ny213 := Aside0.mk hy213
              clear hy213
              replace H := Option.bind_eq_some_iff.mp H
              obtain ⟨t216, A760, H⟩ := H
              replace H : (some (t216, 0, 0)) = some (r1, r2, r3) := H
              have A76 := Aside0.mk A760
              clear A760
              simp only [Option.some.injEq, Prod.mk.injEq] at H
              obtain ⟨rfl, rfl, rfl⟩ := H
              try go_wp2_with (first | ((with_reducible refine gate_callee (f := 50) rfl ?_); refine goesL_ (some 46) rfl rfl Tryd.func50 (by kernel_rfl) rfl #[.int .u64 (IntKind.u64.wrap ((t194.size : Int)))] rfl q_36 ?_; (with_reducible refine (octet_Safe.calls (IntKind.u64.wrap ((t194.size : Int))) t197 t198 _ A45.out).mono ?_); rintro e w77 ⟨rfl, hb⟩; refine ⟨_, rfl, ?_⟩; have n0_ := Aside0.mk (blk_below (g := gb188) (o := .cells #[.string a0_0, .int .u8 a0_1, .int .u8 a0_2, .int .u8 a0_3, .string a0_4, .int .i64 a0_5] 36 (0, 0)) q_30 hb); have n1_ := Aside0.mk (blk_below (g := gb189) (o := .cells #[.int .i64 0, .int .i64 0] 39 (0, 0)) q_32 hb); have n2_ := Aside0.mk (blk_below (g := gb192) (o := .cells #[.int .i64 t190, .int .i64 t191] 39 (0, 0)) q_35 hb); have n3_ := Aside0.mk (blk_below (g := gb196) (o := .cells #[.int .i64 4, .int .i64 0] 39 (0, 0)) q_37 hb); have n4_ := Aside0.mk (below_step q_38 hb); clear BK188; clear BK189; clear BK192; clear BK196; clear HB; have BK188 := n0_; have BK189 := n1_; have BK192 := n2_; have BK196 := n3_; have HB := n4_; clear n0_ n1_ n2_ n3_ n4_; (try clear hb); (try clear hb2); (try clear hk); (try clear hi)))
              have n0_ := Aside0.mk (blk_drew BK188.out)
              have n1_ := Aside0.mk (blk_drew BK189.out)
              have n2_ := Aside0.mk (blk_drew BK192.out)
              have n3_ := Aside0.mk (blk_drew BK196.out)
              have n4_ := Aside0.mk (below_drew1 HB.out)
              clear BK188
              clear BK189
              clear BK192
              clear BK196
              clear HB
              have BK188 := n0_
              have BK189 := n1_
              have BK192 := n2_
              have BK196 := n3_
              have HB := n4_
              clear n0_ n1_ n2_ n3_ n4_
              refine start_ (n := 20) (S := fun w' => w'.cell? ⟨gb188, 0, none⟩ = some (.string a0_0) ∧ w'.cell? ⟨gb188, 1, none⟩ = some (.int .u8 a0_1) ∧ w'.cell? ⟨gb188, 2, none⟩ = some (.int .u8 a0_2) ∧ w'.cell? ⟨gb188, 3, none⟩ = some (.int .u8 a0_3) ∧ w'.cell? ⟨gb188, 4, none⟩ = some (.string a0_4) ∧ w'.cell? ⟨gb188, 5, none⟩ = some (.int .i64 a0_5)) (ds := []) #[false, false, false, false, false, false, false, false, false, false, false, false, false, false, false, false, false, false, false, false] (by kernel_rfl) rfl rfl ⟨(blk_cell BK188.out 0).trans rfl, (blk_cell BK188.out 1).trans rfl, (blk_cell BK188.out 2).trans rfl, (blk_cell BK188.out 3).trans rfl, (blk_cell BK188.out 4).trans rfl, (blk_cell BK188.out 5).trans rfl⟩ (fun hHeld => ?_); refine with_tabW frame_Frame_Print.tab15 frame_Frame_Print.bits15 (fun HT_ HW_ => ?_)
              generalize w77.drew = w78 at BK188 BK189 BK192 BK196 HB hHeld ⊢
              refine pure_ (i := 0) (N := some 65) (v := ?_) (a' := ?_) #[true, false, false, false, false, false, false, false, false, false, false, false, false, false, false, false, false, false, false, false] rfl rfl (any_of HT_.out (by kernel_rfl)) (fun _ _ _ h => h) (Or.inl ⟨by rfl, ?_⟩) ?_ ?_
              rotate_left
              · intro w'
                go_simp
                with_reducible rfl
              rotate_left
              · simp only [Act.put, List.setIfInBounds_toArray, List.set_cons_zero, List.set_cons_succ, i64_w, i32_w]
                rfl
              refine pure_ (i := 1) (N := some 66) (v := ?_) (a' := ?_) #[true, true, false, false, false, false, false, false, false, false, false, false, false, false, false, false, false, false, false, false] rfl rfl (any_of HT_.out (by kernel_rfl)) (fun _ _ _ h => h) (Or.inl ⟨by rfl, ?_⟩) ?_ ?_
              rotate_left
              · intro w'
                go_simp
                with_reducible rfl
              rotate_left
              · simp only [Act.put, List.setIfInBounds_toArray, List.set_cons_zero, List.set_cons_succ, i64_w, i32_w]
                rfl
              refine pure_ (i := 3) (N := some 68) (v := ?_) (a' := ?_) #[true, true, false, true, false, false, false, false, false, false, false, false, false, false, false, false, false, false, false, false] rfl rfl (any_of HT_.out (by kernel_rfl)) (fun _ _ _ h => h) (Or.inl ⟨by rfl, ?_⟩) ?_ ?_
              rotate_left
              · intro w'
                go_simp
                with_reducible rfl
              rotate_left
              · simp only [Act.put, List.setIfInBounds_toArray, List.set_cons_zero, List.set_cons_succ, i64_w, i32_w]
                rfl
              refine pure_ (i := 4) (N := some 69) (v := ?_) (a' := ?_) #[true, true, false, true, true, false, false, false, false, false, false, false, false, false, false, false, false, false, false, false] rfl rfl (any_of HT_.out (by kernel_rfl)) (fun _ _ _ h => h) (Or.inl ⟨by rfl, ?_⟩) ?_ ?_
              rotate_left
              · intro w'
                go_simp
                with_reducible rfl
              rotate_left
              · simp only [Act.put, List.setIfInBounds_toArray, List.set_cons_zero, List.set_cons_succ, i64_w, i32_w]
                rfl
              refine pure_ (i := 5) (N := some 70) (v := ?_) (a' := ?_) #[true, true, false, true, true, true, false, false, false, false, false, false, false, false, false, false, false, false, false, false] rfl rfl (any_of HT_.out (by kernel_rfl)) (fun _ _ _ h => h) (Or.inl ⟨by rfl, ?_⟩) ?_ ?_
              rotate_left
              · intro w'
                go_simp
                with_reducible rfl
              rotate_left
              · simp only [Act.put, List.setIfInBounds_toArray, List.set_cons_zero, List.set_cons_succ, i64_w, i32_w]
                rfl
              refine pure_ (i := 9) (N := some 74) (v := ?_) (a' := ?_) #[true, true, false, true, true, true, false, false, false, true, false, false, false, false, false, false, false, false, false, false] rfl rfl (any_of HT_.out (by kernel_rfl)) (fun _ _ _ h => h) (Or.inl ⟨by rfl, ?_⟩) ?_ ?_
              rotate_left
              · intro w'
                go_simp
                with_reducible rfl
              rotate_left
              · simp only [Act.put, List.setIfInBounds_toArray, List.set_cons_zero, List.set_cons_succ, i64_w, i32_w]
                rfl
              refine pure_ (i := 10) (N := some 75) (v := ?_) (a' := ?_) #[true, true, false, true, true, true, false, false, false, true, true, false, false, false, false, false, false, false, false, false] rfl rfl (any_of HT_.out (by kernel_rfl)) (fun _ _ _ h => h) (Or.inl ⟨by rfl, ?_⟩) ?_ ?_
              rotate_left
              · intro w'
                go_simp
                with_reducible rfl
              rotate_left
              · simp only [Act.put, List.setIfInBounds_toArray, List.set_cons_zero, List.set_cons_succ, i64_w, i32_w]
                rfl
              refine pure_ (i := 14) (N := some 79) (v := ?_) (a' := ?_) #[true, true, false, true, true, true, false, false, false, true, true, false, false, false, true, false, false, false, false, false] rfl rfl (any_of HT_.out (by kernel_rfl)) (fun _ _ _ h => h) (Or.inl ⟨by rfl, ?_⟩) ?_ ?_
              rotate_left
              · intro w'
                go_simp
                with_reducible rfl
              rotate_left
              · simp only [Act.put, List.setIfInBounds_toArray, List.set_cons_zero, List.set_cons_succ, i64_w, i32_w]
                rfl
              refine pure_ (i := 17) (N := some 82) (v := ?_) (a' := ?_) #[true, true, false, true, true, true, false, false, false, true, true, false, false, false, true, false, false, true, false, false] rfl rfl (any_of HT_.out (by kernel_rfl)) (fun _ _ _ h => h) (Or.inl ⟨by rfl, ?_⟩) ?_ ?_
              rotate_left
              · intro w'
                go_simp
                with_reducible rfl
              rotate_left
              · simp only [Act.put, List.setIfInBounds_toArray, List.set_cons_zero, List.set_cons_succ, i64_w, i32_w]
                rfl
              refine take_ (i := 2) (N := some 67) (v := ?_) (a' := ?_) #[true, true, true, true, true, true, false, false, false, true, true, false, false, false, true, false, false, true, false, false] rfl rfl (take_ofW HT_.out HW_.out (by kernel_rfl)) (fun _ _ _ h => h) (Or.inl ⟨by rfl, ?_⟩) hHeld ?_ ?_
              rotate_left
              · rintro w' ⟨s0, s1, s2, s3, s4, s5⟩
                go_simp
                with_reducible rfl
              rotate_left
              · simp only [Act.put, List.setIfInBounds_toArray, List.set_cons_zero, List.set_cons_succ, i64_w, i32_w]
                rfl
              refine take_ (i := 6) (N := some 71) (v := ?_) (a' := ?_) #[true, true, true, true, true, true, true, false, false, true, true, false, false, false, true, false, false, true, false, false] rfl rfl (take_ofW HT_.out HW_.out (by kernel_rfl)) (fun _ _ _ h => h) (Or.inl ⟨by rfl, ?_⟩) hHeld ?_ ?_
              rotate_left
              · rintro w' ⟨s0, s1, s2, s3, s4, s5⟩
                go_simp
                with_reducible rfl
              rotate_left
              · simp only [Act.put, List.setIfInBounds_toArray, List.set_cons_zero, List.set_cons_succ, i64_w, i32_w]
                rfl
              refine pure_ (i := 7) (N := some 72) (v := ?_) (a' := ?_) #[true, true, true, true, true, true, true, true, false, true, true, false, false, false, true, false, false, true, false, false] rfl rfl (any_of HT_.out (by kernel_rfl)) (fun _ _ _ h => h) (Or.inl ⟨by rfl, ?_⟩) ?_ ?_
              rotate_left
              · intro w'
                go_simp
                with_reducible rfl
              rotate_left
              · simp only [Act.put, List.setIfInBounds_toArray, List.set_cons_zero, List.set_cons_succ, i64_w, i32_w]
                rfl
              refine take_ (i := 11) (N := some 76) (v := ?_) (a' := ?_) #[true, true, true, true, true, true, true, true, false, true, true, true, false, false, true, false, false, true, false, false] rfl rfl (take_ofW HT_.out HW_.out (by kernel_rfl)) (fun _ _ _ h => h) (Or.inl ⟨by rfl, ?_⟩) hHeld ?_ ?_
              rotate_left
              · rintro w' ⟨s0, s1, s2, s3, s4, s5⟩
                go_simp
                with_reducible rfl
              rotate_left
              · simp only [Act.put, List.setIfInBounds_toArray, List.set_cons_zero, List.set_cons_succ, i64_w, i32_w]
                rfl
              refine pure_ (i := 12) (N := some 77) (v := ?_) (a' := ?_) #[true, true, true, true, true, true, true, true, false, true, true, true, true, false, true, false, false, true, false, false] rfl rfl (any_of HT_.out (by kernel_rfl)) (fun _ _ _ h => h) (Or.inl ⟨by rfl, ?_⟩) ?_ ?_
              rotate_left
              · intro w'
                go_simp
                with_reducible rfl
              rotate_left
              · simp only [Act.put, List.setIfInBounds_toArray, List.set_cons_zero, List.set_cons_succ, i64_w, i32_w]
                rfl
              refine one_ (i := 8) (N := some 73) #[true, true, true, true, true, true, true, true, true, true, true, true, true, false, true, false, false, true, false, false] rfl rfl (one_of HT_.out (by kernel_rfl)) (by decide) (fun K hK => ?_)
              refine goes_ Tryd.func52 (by kernel_rfl) rfl #[.int .u64 (IntKind.u64.wrap (a0_1)), .int .i64 1] (by rfl) rfl rfl q_7 ?_
              with_reducible refine (octet_Big.calls kj19 (IntKind.u64.wrap (a0_1)) 1 t211 _ A74.out).mono ?_
              rintro e w79 ⟨rfl, hb⟩
              refine ⟨_, rfl, ?_⟩
              have n0_ := Aside0.mk (blk_below (g := gb188) (o := .cells #[.string a0_0, .int .u8 a0_1, .int .u8 a0_2, .int .u8 a0_3, .string a0_4, .int .i64 a0_5] 36 (0, 0)) q_30 hb)
              have n1_ := Aside0.mk (blk_below (g := gb189) (o := .cells #[.int .i64 0, .int .i64 0] 39 (0, 0)) q_32 hb)
              have n2_ := Aside0.mk (blk_below (g := gb192) (o := .cells #[.int .i64 t190, .int .i64 t191] 39 (0, 0)) q_35 hb)
              have n3_ := Aside0.mk (blk_below (g := gb196) (o := .cells #[.int .i64 4, .int .i64 0] 39 (0, 0)) q_37 hb)
              have n4_ := Aside0.mk (below_step q_38 hb)
              clear BK188
              clear BK189
              clear BK192
              clear BK196
              clear HB
              have BK188 := n0_
              have BK189 := n1_
              have BK192 := n2_
              have BK196 := n3_
              have HB := n4_
              clear n0_ n1_ n2_ n3_ n4_
              (try clear hb)
              (try clear hb2)
              (try clear hk)
              (try clear hi)
              refine hK.out _ _ ⟨(blk_cell BK188.out 0).trans rfl, (blk_cell BK188.out 1).trans rfl, (blk_cell BK188.out 2).trans rfl, (blk_cell BK188.out 3).trans rfl, (blk_cell BK188.out 4).trans rfl, (blk_cell BK188.out 5).trans rfl⟩ (fun hHeld => ?_)
              clear hK K
              refine norm_ (a' := ?_) ?_ ?_
              rotate_left
              · show Act.put _ (some 73) _ = _
                simp only [Act.put, List.setIfInBounds_toArray, List.set_cons_zero, List.set_cons_succ, i64_w, i32_w]
                rfl
              refine one_ (i := 13) (N := some 78) #[true, true, true, true, true, true, true, true, true, true, true, true, true, true, true, false, false, true, false, false] rfl rfl (one_of HT_.out (by kernel_rfl)) (by decide) (fun K hK => ?_)
              refine goes_ Tryd.func52 (by kernel_rfl) rfl #[.int .u64 (IntKind.u64.wrap (a0_2)), .int .i64 1] (by rfl) rfl rfl q_7 ?_
              with_reducible refine (octet_Big.calls kj19 (IntKind.u64.wrap (a0_2)) 1 t212 _ A75.out).mono ?_
              rintro e w80 ⟨rfl, hb⟩
              refine ⟨_, rfl, ?_⟩
              have n0_ := Aside0.mk (blk_below (g := gb188) (o := .cells #[.string a0_0, .int .u8 a0_1, .int .u8 a0_2, .int .u8 a0_3, .string a0_4, .int .i64 a0_5] 36 (0, 0)) q_30 hb)
              have n1_ := Aside0.mk (blk_below (g := gb189) (o := .cells #[.int .i64 0, .int .i64 0] 39 (0, 0)) q_32 hb)
              have n2_ := Aside0.mk (blk_below (g := gb192) (o := .cells #[.int .i64 t190, .int .i64 t191] 39 (0, 0)) q_35 hb)
              have n3_ := Aside0.mk (blk_below (g := gb196) (o := .cells #[.int .i64 4, .int .i64 0] 39 (0, 0)) q_37 hb)
              have n4_ := Aside0.mk (below_step q_38 hb)
              clear BK188
              clear BK189
              clear BK192
              clear BK196
              clear HB
              have BK188 := n0_
              have BK189 := n1_
              have BK192 := n2_
              have BK196 := n3_
              have HB := n4_
              clear n0_ n1_ n2_ n3_ n4_
              (try clear hb)
              (try clear hb2)
              (try clear hk)
              (try clear hi)
              refine hK.out _ _ ⟨(blk_cell BK188.out 0).trans rfl, (blk_cell BK188.out 1).trans rfl, (blk_cell BK188.out 2).trans rfl, (blk_cell BK188.out 3).trans rfl, (blk_cell BK188.out 4).trans rfl, (blk_cell BK188.out 5).trans rfl⟩ (fun hHeld => ?_)
              clear hK K
              refine norm_ (a' := ?_) ?_ ?_
              rotate_left
              · show Act.put _ (some 78) _ = _
                simp only [Act.put, List.setIfInBounds_toArray, List.set_cons_zero, List.set_cons_succ, i64_w, i32_w]
                rfl
              refine one_ (i := 15) (N := some 80) #[true, true, true, true, true, true, true, true, true, true, true, true, true, true, true, true, false, true, false, false] rfl rfl (one_of HT_.out (by kernel_rfl)) (by decide) (fun K hK => ?_)
              refine Kd.R_lit_step Kd.string _ 9 ?hg (N := 80) ?hd (xs := ([a0_0, t197, t211, t212, t194] : List ByteArray)) (inner := [.string a0_0, .string t197, .string t211, .string t212, .string t194]) (ok := fun _ => True) (okp := fun _ => True) ?hr ?hp (fun _ hk => hk) trivial (Below.refl _ _) (Nat.le_refl _) (by simp) ?_; (case hd => rfl); (case hg => rfl); (case hr => first | (go_simp; done) | (go_simp; rfl)); (case hp => exact (Reps.one (show Kd.M Kd.string _ _ _ a0_0 [.string a0_0] from rfl) (Reps.one (show Kd.M Kd.string _ _ _ t197 [.string t197] from rfl) (Reps.one (show Kd.M Kd.string _ _ _ t211 [.string t211] from rfl) (Reps.one (show Kd.M Kd.string _ _ _ t212 [.string t212] from rfl) (Reps.one (show Kd.M Kd.string _ _ _ t194 [.string t194] from rfl) (Reps.none _ _)))))))
              intro v214 w81 ho82 hb hg_ hnew_
              clear hg_ hnew_
              (first | rw [← Ny213.out] at ho82 | (simp only [Int.reduceToNat] at ho82; rw [← Ny213.out] at ho82))
              have n0_ := Aside0.mk (Kd.R_lower ho82 (below_size q_38))
              have n1_ := Aside0.mk (blk_below (g := gb188) (o := .cells #[.string a0_0, .int .u8 a0_1, .int .u8 a0_2, .int .u8 a0_3, .string a0_4, .int .i64 a0_5] 36 (0, 0)) q_30 hb)
              have n2_ := Aside0.mk (blk_below (g := gb189) (o := .cells #[.int .i64 0, .int .i64 0] 39 (0, 0)) q_32 hb)
              have n3_ := Aside0.mk (blk_below (g := gb192) (o := .cells #[.int .i64 t190, .int .i64 t191] 39 (0, 0)) q_35 hb)
              have n4_ := Aside0.mk (blk_below (g := gb196) (o := .cells #[.int .i64 4, .int .i64 0] 39 (0, 0)) q_37 hb)
              have n5_ := Aside0.mk (below_step q_38 hb)
              clear BK188
              clear BK189
              clear BK192
              clear BK196
              clear HB
              have HO215 := n0_
              have BK188 := n1_
              have BK189 := n2_
              have BK192 := n3_
              have BK196 := n4_
              have HB := n5_
              clear n0_ n1_ n2_ n3_ n4_ n5_
              clear hb ho82
              obtain ⟨Ao83, co83, eo83⟩ := Kd.R_slice HO215.out
              (first | subst eo83 | (injection eo83 with f1_ f2_ f3_; have f4_ := f1_.symm; have f5_ := f3_.symm; clear f1_ f2_ f3_; subst f4_; subst f5_))
              refine hK.out _ _ ⟨(blk_cell BK188.out 0).trans rfl, (blk_cell BK188.out 1).trans rfl, (blk_cell BK188.out 2).trans rfl, (blk_cell BK188.out 3).trans rfl, (blk_cell BK188.out 4).trans rfl, (blk_cell BK188.out 5).trans rfl⟩ (fun hHeld => ?_)
              clear hK K
              refine norm_ (a' := ?_) ?_ ?_
              rotate_left
              · show Act.put _ (some 80) _ = _
                simp only [Act.put, List.setIfInBounds_toArray, List.set_cons_zero, List.set_cons_succ, i64_w, i32_w]
                rfl
              refine one_ (i := 16) (N := some 81) #[true, true, true, true, true, true, true, true, true, true, true, true, true, true, true, true, true, true, false, false] rfl rfl (one_of HT_.out (by kernel_rfl)) (by decide) (fun K hK => ?_)
              refine goes_ Tryd.func51 (by kernel_rfl) rfl #[.slice Ao83 y213.length co83] (by rfl) rfl rfl q_7 ?_
              with_reducible refine (octet_Join.calls _ _ y213 t216 _ ?side1 ?side2 A76.out).mono ?_
              (case side1 => repeat (first | exact (Kd.R_reads' HO215.out).2.2 | (with_reducible refine Kd.C_alloc ?_ _) | (with_reducible refine Kd.C_drewN ?_ _) | (with_reducible refine Kd.C_drew ?_)))
              (case side2 => exact (Kd.R_reads' HO215.out).2.1)
              rintro e w84 ⟨rfl, hb⟩
              refine ⟨_, rfl, ?_⟩
              have n0_ := Aside0.mk (Kd.R_below (by (with_reducible repeat (first | apply Kd.R_alloc | apply Kd.R_drewN | apply Kd.R_drew)); exact HO215.out) hb)
              have n1_ := Aside0.mk (blk_below (g := gb188) (o := .cells #[.string a0_0, .int .u8 a0_1, .int .u8 a0_2, .int .u8 a0_3, .string a0_4, .int .i64 a0_5] 36 (0, 0)) q_30 hb)
              have n2_ := Aside0.mk (blk_below (g := gb189) (o := .cells #[.int .i64 0, .int .i64 0] 39 (0, 0)) q_32 hb)
              have n3_ := Aside0.mk (blk_below (g := gb192) (o := .cells #[.int .i64 t190, .int .i64 t191] 39 (0, 0)) q_35 hb)
              have n4_ := Aside0.mk (blk_below (g := gb196) (o := .cells #[.int .i64 4, .int .i64 0] 39 (0, 0)) q_37 hb)
              have n5_ := Aside0.mk (below_step q_38 hb)
              clear HO215
              clear BK188
              clear BK189
              clear BK192
              clear BK196
              clear HB
              have HO215 := n0_
              have BK188 := n1_
              have BK189 := n2_
              have BK192 := n3_
              have BK196 := n4_
              have HB := n5_
              clear n0_ n1_ n2_ n3_ n4_ n5_
              (try clear hb)
              (try clear hb2)
              (try clear hk)
              (try clear hi)
              refine hK.out _ _ ⟨(blk_cell BK188.out 0).trans rfl, (blk_cell BK188.out 1).trans rfl, (blk_cell BK188.out 2).trans rfl, (blk_cell BK188.out 3).trans rfl, (blk_cell BK188.out 4).trans rfl, (blk_cell BK188.out 5).trans rfl⟩ (fun hHeld => ?_)
              clear hK K
              refine norm_ (a' := ?_) ?_ ?_
              rotate_left
              · show Act.put _ (some 81) _ = _
                simp only [Act.put, List.setIfInBounds_toArray, List.set_cons_zero, List.set_cons_succ, i64_w, i32_w]
                rfl
              refine pure_ (i := 18) (N := some 4) (v := ?_) (a' := ?_) #[true, true, true, true, true, true, true, true, true, true, true, true, true, true, true, true, true, true, true, false] rfl rfl (any_of HT_.out (by kernel_rfl)) (fun _ _ _ h => h) (Or.inl ⟨by rfl, ?_⟩) ?_ ?_
              rotate_left
              · intro w'
                go_simp
                with_reducible rfl
              rotate_left
              · simp only [Act.put, List.setIfInBounds_toArray, List.set_cons_zero, List.set_cons_succ, i64_w, i32_w]
                rfl
              refine one_ (i := 19) (N := none) #[true, true, true, true, true, true, true, true, true, true, true, true, true, true, true, true, true, true, true, true] rfl rfl (one_of HT_.out (by kernel_rfl)) (by decide) (fun K hK => ?_)
              have hs85 : w84.cell? ⟨gb189, 0, none⟩ = some (.int .i64 0) := (blk_cell BK189.out 0).trans rfl
              have hfs85 := blk_frozen BK189.out 0
              have hns85_0 := NB188_189.out
              have hns85_2 := NB192_189.out
              have hns85_3 := NB196_189.out
              have hms85_0 := NB189_188.out
              have hms85_2 := NB189_192.out
              have hms85_3 := NB189_196.out
              have hs86 : w84.cell? ⟨gb189, 1, none⟩ = some (.int .i64 0) := (blk_cell BK189.out 1).trans rfl
              have hfs86 := blk_frozen BK189.out 1
              have hns86_0 := NB188_189.out
              have hns86_2 := NB192_189.out
              have hns86_3 := NB196_189.out
              have hms86_0 := NB189_188.out
              have hms86_2 := NB189_192.out
              have hms86_3 := NB189_196.out
              refine skip_ (w1 := ?_) (by rfl) rfl ?_ ?_
              rotate_left
              · go_simp
                rfl
              refine hK.out _ _ ⟨((cell_far (p := ⟨gb189, _, none⟩) NB188_189.out _).trans (((cell_far (p := ⟨gb189, _, none⟩) NB188_189.out _).trans (hHeld.1)))), ((cell_far (p := ⟨gb189, _, none⟩) NB188_189.out _).trans (((cell_far (p := ⟨gb189, _, none⟩) NB188_189.out _).trans (hHeld.2.1)))), ((cell_far (p := ⟨gb189, _, none⟩) NB188_189.out _).trans (((cell_far (p := ⟨gb189, _, none⟩) NB188_189.out _).trans (hHeld.2.2.1)))), ((cell_far (p := ⟨gb189, _, none⟩) NB188_189.out _).trans (((cell_far (p := ⟨gb189, _, none⟩) NB188_189.out _).trans (hHeld.2.2.2.1)))), ((cell_far (p := ⟨gb189, _, none⟩) NB188_189.out _).trans (((cell_far (p := ⟨gb189, _, none⟩) NB188_189.out _).trans (hHeld.2.2.2.2.1)))), ((cell_far (p := ⟨gb189, _, none⟩) NB188_189.out _).trans (((cell_far (p := ⟨gb189, _, none⟩) NB188_189.out _).trans (hHeld.2.2.2.2.2))))⟩ (fun hHeld => ?_)
              clear hK K
              refine done_ (done_of HT_.out (by kernel_rfl)) ?_
              try go_wp2
              refine bodyPost_ret (results_tc rfl _ _ gb189 39 #[.int .i64 0, .int .i64 0] (0, 0) _ rfl q_39 Tryd.underlying39 rfl (by kernel_rfl)) rfl ?_
              exact ⟨q_11, q_38⟩

end Go.Proofs.YtlmhlmendnjmlaaDoor.PAll
