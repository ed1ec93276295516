/- Written by a program of this session: functions of the Go program as Lean functions, and the walks that tie them to it. -/
import Derived.Test.YtlmhlmendnjmlaaDoorPAllx0
import Derived.Test.YtlmhlmendnjmlaaDoorPAllx3
import Derived.Test.YtlmhlmendnjmlaaDoorPAllx7
import Derived.Test.YtlmhlmendnjmlaaDoorPAllx8
import Derived.Test.YtlmhlmendnjmlaaDoorPAllx12
import Derived.Test.YtlmhlmendnjmlaaDoorPAllx13
import Derived.Test.YtlmhlmendnjmlaaDoorPAllx14
import Derived.Test.YtlmhlmendnjmlaaDoorPAllx15
namespace Go.Proofs.YtlmhlmendnjmlaaDoor.PAll
open Go.RowKit Go.Proofs.YtlmhlmendnjmlaaDoorW.PrintWords Go.Proofs.YtlmhlmendnjmlaaDoorW.PrintLast Go.Proofs.YtlmhlmendnjmlaaDoorW.PrintMore
attribute [local go_sem] max2_int min2_int max_two min_two max_three min_three max_four min_four   -- for this text's walks alone
set_option linter.unusedVariables false
set_option linter.unusedSimpArgs false

/-! ### frame_Parse: function 36 -/
mutual
def frame_Parse.j0 : Nat → Int → Bool → Bool → ByteArray → Int → Int → Int → Int → Option (ByteArray × Int × Int × Int × ByteArray × Int × Bool × ByteArray × Int × Int × Int × Int)
  | 0, _, _, _, _, _, _, _, _ => none
  | k + 1, x0, x2, x27, x2000, x2001, x2002, x2003, x2004 => if x27 = true then (some ((⟨#[]⟩ : ByteArray), 0, 0, 0, (⟨#[]⟩ : ByteArray), 0, false, x2000, x2001, x2002, x2003, x2004)) else ((octet_In_At.f x2000 x2001 x2002 x2003 x2004).bind fun bt333 => ((frame_name.f k bt333.2.1 bt333.2.2.1 bt333.2.2.2.1 bt333.2.2.2.2.1 bt333.2.2.2.2.2 x0).bind fun bt340 => ((frame_size.f bt340.2.1 bt340.2.2.1 bt340.2.2.2.1 bt340.2.2.2.2.1 bt340.2.2.2.2.2 x0).bind fun bt346 => (if x0 > 2 then ((octet_In_Big.f bt346.2.1 bt346.2.2.1 bt346.2.2.2.1 bt346.2.2.2.2.1 bt346.2.2.2.2.2 1).bind fun bt352 => ((octet_In_Big.f bt352.2.1 bt352.2.2.1 bt352.2.2.2.1 bt352.2.2.2.2.1 bt352.2.2.2.2.2 1).bind fun bt358 => (frame_Parse.j1 k x0 x2 bt346.1 bt358.2.1 bt358.2.2.1 bt358.2.2.2.1 bt358.2.2.2.2.1 bt358.2.2.2.2.2 bt340.1 ((bt352.1) % 256) ((bt358.1) % 256) 0 (⟨#[]⟩ : ByteArray) bt333.1))) else (frame_Parse.j1 k x0 x2 bt346.1 bt346.2.1 bt346.2.2.1 bt346.2.2.2.1 bt346.2.2.2.2.1 bt346.2.2.2.2.2 bt340.1 0 0 0 (⟨#[]⟩ : ByteArray) bt333.1)))))
def frame_Parse.j1 : Nat → Int → Bool → Int → ByteArray → Int → Int → Int → Int → ByteArray → Int → Int → Int → ByteArray → Int → Option (ByteArray × Int × Int × Int × ByteArray × Int × Bool × ByteArray × Int × Int × Int × Int)
  | 0, _, _, _, _, _, _, _, _, _, _, _, _, _, _ => none
  | k + 1, x0, x2, x10, x2000, x2001, x2002, x2003, x2004, x340000, x340001, x340002, x340003, x340004, x340005 => if x0 = 4 then (frame_Parse.j2 k x0 x10 x2 x2000 x2001 x2002 x2003 x2004 x340000 x340001 x340002 x340003 x340004 x340005) else (frame_Parse.j2 k x0 x10 false x2000 x2001 x2002 x2003 x2004 x340000 x340001 x340002 x340003 x340004 x340005)
def frame_Parse.j2 : Nat → Int → Int → Bool → ByteArray → Int → Int → Int → Int → ByteArray → Int → Int → Int → ByteArray → Int → Option (ByteArray × Int × Int × Int × ByteArray × Int × Bool × ByteArray × Int × Int × Int × Int)
  | 0, _, _, _, _, _, _, _, _, _, _, _, _, _, _ => none
  | k + 1, x0, x10, x56, x2000, x2001, x2002, x2003, x2004, x340000, x340001, x340002, x340003, x340004, x340005 => if x56 = true then (frame_Parse.j3 k x0 x10 x2000 x2001 x2002 x2003 x2004 x340000 x340001 (Go.bits .or .u8 x340002 2) x340003 x340004 x340005) else (frame_Parse.j3 k x0 x10 x2000 x2001 x2002 x2003 x2004 x340000 x340001 x340002 x340003 x340004 x340005)
def frame_Parse.j3 : Nat → Int → Int → ByteArray → Int → Int → Int → Int → ByteArray → Int → Int → Int → ByteArray → Int → Option (ByteArray × Int × Int × Int × ByteArray × Int × Bool × ByteArray × Int × Int × Int × Int)
  | 0, _, _, _, _, _, _, _, _, _, _, _, _, _ => none
  | k + 1, x0, x10, x2000, x2001, x2002, x2003, x2004, x340000, x340001, x340002, x340003, x340004, x340005 => (octet_In_At.f x2000 x2001 x2002 x2003 x2004).bind fun bt364 => ((octet_In_Take.f bt364.2.1 bt364.2.2.1 bt364.2.2.2.1 bt364.2.2.2.2.1 bt364.2.2.2.2.2 x10).bind fun bt370 => ((octet_In_Fault.f bt370.2.1 bt370.2.2.1 bt370.2.2.2.1 bt370.2.2.2.2.1 bt370.2.2.2.2.2).bind fun bt376 => ((api_Fault_Bad.f bt376.1 bt376.2.1).bind fun t383 => (if t383 = true then (some ((⟨#[]⟩ : ByteArray), 0, 0, 0, (⟨#[]⟩ : ByteArray), 0, false, bt376.2.2.1, bt376.2.2.2.1, bt376.2.2.2.2.1, bt376.2.2.2.2.2.1, bt376.2.2.2.2.2.2)) else ((frame_Head_Locked.f x340000 x340001 x340002 x0).bind fun t384 => (if t384 = true then (some (x340000, x340001, x340002, x340003, bt370.1, x340005, true, bt376.2.2.1, bt376.2.2.2.1, bt376.2.2.2.2.1, bt376.2.2.2.2.2.1, bt376.2.2.2.2.2.2)) else ((frame_Frame_content.f k x340000 x340001 x340002 x340003 bt370.1 x340005 x0 bt370.1 bt364.1).bind fun bt385 => ((api_Fault_Bad.f bt385.1 bt385.2.1).bind fun t394 => (if t394 = true then ((octet_In_Fail.f bt376.2.2.1 bt376.2.2.2.1 bt376.2.2.2.2.1 bt376.2.2.2.2.2.1 bt376.2.2.2.2.2.2 bt385.1 bt385.2.1).bind fun bt395 => (some ((⟨#[]⟩ : ByteArray), 0, 0, 0, (⟨#[]⟩ : ByteArray), 0, false, bt395.1, bt395.2.1, bt395.2.2.1, bt395.2.2.2.1, bt395.2.2.2.2))) else (some (bt385.2.2.1, bt385.2.2.2.1, bt385.2.2.2.2.1, bt385.2.2.2.2.2.1, bt385.2.2.2.2.2.2.1, bt385.2.2.2.2.2.2.2, true, bt376.2.2.1, bt376.2.2.2.1, bt376.2.2.2.2.1, bt376.2.2.2.2.2.1, bt376.2.2.2.2.2.2)))))))))))
end
def frame_Parse.f (k : Nat) (a0 : Int) (s1_0 : ByteArray) (s1_1 : Int) (s1_2 : Int) (s1_3 : Int) (s1_4 : Int) (a2 : Bool) : Option (ByteArray × Int × Int × Int × ByteArray × Int × Bool × ByteArray × Int × Int × Int × Int) := (octet_In_Peek.f s1_0 s1_1 s1_2 s1_3 s1_4 1).bind fun bt326 => (if bt326.1.toList = ([] : List UInt8) then (frame_Parse.j0 k a0 a2 true bt326.2.1 bt326.2.2.1 bt326.2.2.2.1 bt326.2.2.2.2.1 bt326.2.2.2.2.2) else (if 0 < (bt326.1.size : Int) then (if (bt bt326.1 0) = 0 then (frame_Parse.j0 k a0 a2 true bt326.2.1 bt326.2.2.1 bt326.2.2.2.1 bt326.2.2.2.2.1 bt326.2.2.2.2.2) else ((frame_Letters.f a0).bind fun t332 => (frame_Parse.j0 k a0 a2 (t332 == 0) bt326.2.1 bt326.2.2.1 bt326.2.2.2.1 bt326.2.2.2.2.1 bt326.2.2.2.2.2))) else (none)))
theorem frame_Parse.mono_l : ∀ k, (∀ y0 y1 y2 y3 y4 y5 y6 y7, LeO (frame_Parse.j0 k y0 y1 y2 y3 y4 y5 y6 y7) (frame_Parse.j0 (k + 1) y0 y1 y2 y3 y4 y5 y6 y7)) ∧ (∀ y0 y1 y2 y3 y4 y5 y6 y7 y8 y9 y10 y11 y12 y13, LeO (frame_Parse.j1 k y0 y1 y2 y3 y4 y5 y6 y7 y8 y9 y10 y11 y12 y13) (frame_Parse.j1 (k + 1) y0 y1 y2 y3 y4 y5 y6 y7 y8 y9 y10 y11 y12 y13)) ∧ (∀ y0 y1 y2 y3 y4 y5 y6 y7 y8 y9 y10 y11 y12 y13, LeO (frame_Parse.j2 k y0 y1 y2 y3 y4 y5 y6 y7 y8 y9 y10 y11 y12 y13) (frame_Parse.j2 (k + 1) y0 y1 y2 y3 y4 y5 y6 y7 y8 y9 y10 y11 y12 y13)) ∧ (∀ y0 y1 y2 y3 y4 y5 y6 y7 y8 y9 y10 y11 y12, LeO (frame_Parse.j3 k y0 y1 y2 y3 y4 y5 y6 y7 y8 y9 y10 y11 y12) (frame_Parse.j3 (k + 1) y0 y1 y2 y3 y4 y5 y6 y7 y8 y9 y10 y11 y12))
  | 0 => ⟨fun _ _ _ _ _ _ _ _ r h => by simp [frame_Parse.j0] at h, fun _ _ _ _ _ _ _ _ _ _ _ _ _ _ r h => by simp [frame_Parse.j1] at h, fun _ _ _ _ _ _ _ _ _ _ _ _ _ _ r h => by simp [frame_Parse.j2] at h, fun _ _ _ _ _ _ _ _ _ _ _ _ _ r h => by simp [frame_Parse.j3] at h⟩
  | k + 1 => by
    obtain ⟨ih0, ih1, ih2, ih3⟩ := frame_Parse.mono_l k
    refine ⟨?_, ?_, ?_, ?_⟩
    · intro y0 y1 y2 y3 y4 y5 y6 y7
      unfold frame_Parse.j0
      repeat' first
      | (with_reducible exact ih0 _ _ _ _ _ _ _ _)
      | (with_reducible exact ih1 _ _ _ _ _ _ _ _ _ _ _ _ _ _)
      | (with_reducible exact ih2 _ _ _ _ _ _ _ _ _ _ _ _ _ _)
      | (with_reducible exact ih3 _ _ _ _ _ _ _ _ _ _ _ _ _)
      | (with_reducible exact frame_Frame_content.mono _ _ _ _ _ _ _ _ _ _)
      | (with_reducible exact frame_name.mono _ _ _ _ _ _ _)
      | (with_reducible exact LeO.refl _)
      | (with_reducible exact LeO.none _)
      | (with_reducible refine LeO.ite ?_ ?_)
      | (with_reducible refine LeO.bind ?_ (fun _ => ?_))
      | exact ih0 _ _ _ _ _ _ _ _
      | exact ih1 _ _ _ _ _ _ _ _ _ _ _ _ _ _
      | exact ih2 _ _ _ _ _ _ _ _ _ _ _ _ _ _
      | exact ih3 _ _ _ _ _ _ _ _ _ _ _ _ _
      | exact frame_Frame_content.mono _ _ _ _ _ _ _ _ _ _
      | exact frame_name.mono _ _ _ _ _ _ _
      | exact LeO.none _
      | refine LeO.ite ?_ ?_
      | refine LeO.bind ?_ (fun _ => ?_)
    · intro y0 y1 y2 y3 y4 y5 y6 y7 y8 y9 y10 y11 y12 y13
      unfold frame_Parse.j1
      repeat' first
      | (with_reducible exact ih0 _ _ _ _ _ _ _ _)
      | (with_reducible exact ih1 _ _ _ _ _ _ _ _ _ _ _ _ _ _)
      | (with_reducible exact ih2 _ _ _ _ _ _ _ _ _ _ _ _ _ _)
      | (with_reducible exact ih3 _ _ _ _ _ _ _ _ _ _ _ _ _)
      | (with_reducible exact frame_Frame_content.mono _ _ _ _ _ _ _ _ _ _)
      | (with_reducible exact frame_name.mono _ _ _ _ _ _ _)
      | (with_reducible exact LeO.refl _)
      | (with_reducible exact LeO.none _)
      | (with_reducible refine LeO.ite ?_ ?_)
      | (with_reducible refine LeO.bind ?_ (fun _ => ?_))
      | exact ih0 _ _ _ _ _ _ _ _
      | exact ih1 _ _ _ _ _ _ _ _ _ _ _ _ _ _
      | exact ih2 _ _ _ _ _ _ _ _ _ _ _ _ _ _
      | exact ih3 _ _ _ _ _ _ _ _ _ _ _ _ _
      | exact frame_Frame_content.mono _ _ _ _ _ _ _ _ _ _
      | exact frame_name.mono _ _ _ _ _ _ _
      | exact LeO.none _
      | refine LeO.ite ?_ ?_
      | refine LeO.bind ?_ (fun _ => ?_)
    · intro y0 y1 y2 y3 y4 y5 y6 y7 y8 y9 y10 y11 y12 y13
      unfold frame_Parse.j2
      repeat' first
      | (with_reducible exact ih0 _ _ _ _ _ _ _ _)
      | (with_reducible exact ih1 _ _ _ _ _ _ _ _ _ _ _ _ _ _)
      | (with_reducible exact ih2 _ _ _ _ _ _ _ _ _ _ _ _ _ _)
      | (with_reducible exact ih3 _ _ _ _ _ _ _ _ _ _ _ _ _)
      | (with_reducible exact frame_Frame_content.mono _ _ _ _ _ _ _ _ _ _)
      | (with_reducible exact frame_name.mono _ _ _ _ _ _ _)
      | (with_reducible exact LeO.refl _)
      | (with_reducible exact LeO.none _)
      | (with_reducible refine LeO.ite ?_ ?_)
      | (with_reducible refine LeO.bind ?_ (fun _ => ?_))
      | exact ih0 _ _ _ _ _ _ _ _
      | exact ih1 _ _ _ _ _ _ _ _ _ _ _ _ _ _
      | exact ih2 _ _ _ _ _ _ _ _ _ _ _ _ _ _
      | exact ih3 _ _ _ _ _ _ _ _ _ _ _ _ _
      | exact frame_Frame_content.mono _ _ _ _ _ _ _ _ _ _
      | exact frame_name.mono _ _ _ _ _ _ _
      | exact LeO.none _
      | refine LeO.ite ?_ ?_
      | refine LeO.bind ?_ (fun _ => ?_)
    · intro y0 y1 y2 y3 y4 y5 y6 y7 y8 y9 y10 y11 y12
      unfold frame_Parse.j3
      repeat' first
      | (with_reducible exact ih0 _ _ _ _ _ _ _ _)
      | (with_reducible exact ih1 _ _ _ _ _ _ _ _ _ _ _ _ _ _)
      | (with_reducible exact ih2 _ _ _ _ _ _ _ _ _ _ _ _ _ _)
      | (with_reducible exact ih3 _ _ _ _ _ _ _ _ _ _ _ _ _)
      | (with_reducible exact frame_Frame_content.mono _ _ _ _ _ _ _ _ _ _)
      | (with_reducible exact frame_name.mono _ _ _ _ _ _ _)
      | (with_reducible exact LeO.refl _)
      | (with_reducible exact LeO.none _)
      | (with_reducible refine LeO.ite ?_ ?_)
      | (with_reducible refine LeO.bind ?_ (fun _ => ?_))
      | exact ih0 _ _ _ _ _ _ _ _
      | exact ih1 _ _ _ _ _ _ _ _ _ _ _ _ _ _
      | exact ih2 _ _ _ _ _ _ _ _ _ _ _ _ _ _
      | exact ih3 _ _ _ _ _ _ _ _ _ _ _ _ _
      | exact frame_Frame_content.mono _ _ _ _ _ _ _ _ _ _
      | exact frame_name.mono _ _ _ _ _ _ _
      | exact LeO.none _
      | refine LeO.ite ?_ ?_
      | refine LeO.bind ?_ (fun _ => ?_)
theorem frame_Parse.mono : ∀ a0 a1 a2 a3 a4 a5 a6 k, LeO (frame_Parse.f k a0 a1 a2 a3 a4 a5 a6) (frame_Parse.f (k + 1) a0 a1 a2 a3 a4 a5 a6) := by
  intro a0 a1 a2 a3 a4 a5 a6 k
  obtain ⟨ih0, ih1, ih2, ih3⟩ := frame_Parse.mono_l k
  unfold frame_Parse.f
  repeat' first
      | (with_reducible exact ih0 _ _ _ _ _ _ _ _)
      | (with_reducible exact ih1 _ _ _ _ _ _ _ _ _ _ _ _ _ _)
      | (with_reducible exact ih2 _ _ _ _ _ _ _ _ _ _ _ _ _ _)
      | (with_reducible exact ih3 _ _ _ _ _ _ _ _ _ _ _ _ _)
      | (with_reducible exact frame_Frame_content.mono _ _ _ _ _ _ _ _ _ _)
      | (with_reducible exact frame_name.mono _ _ _ _ _ _ _)
      | (with_reducible exact LeO.refl _)
      | (with_reducible exact LeO.none _)
      | (with_reducible refine LeO.ite ?_ ?_)
      | (with_reducible refine LeO.bind ?_ (fun _ => ?_))
      | exact ih0 _ _ _ _ _ _ _ _
      | exact ih1 _ _ _ _ _ _ _ _ _ _ _ _ _ _
      | exact ih2 _ _ _ _ _ _ _ _ _ _ _ _ _ _
      | exact ih3 _ _ _ _ _ _ _ _ _ _ _ _ _
      | exact frame_Frame_content.mono _ _ _ _ _ _ _ _ _ _
      | exact frame_name.mono _ _ _ _ _ _ _
      | exact LeO.none _
      | refine LeO.ite ?_ ?_
      | refine LeO.bind ?_ (fun _ => ?_)
set_option maxHeartbeats 8000000 in
set_option maxRecDepth 100000 in
theorem frame_Parse.calls (k : Nat) (a0 : Int) (g : Nat) (s1_0 : ByteArray) (s1_1 : Int) (s1_2 : Int) (s1_3 : Int) (s1_4 : Int) (a2 : Bool) (r1 : ByteArray) (r2 : Int) (r3 : Int) (r4 : Int) (r5 : ByteArray) (r6 : Int) (r7 : Bool) (r8 : ByteArray) (r9 : Int) (r10 : Int) (r11 : Int) (r12 : Int) (w0 w : World) (hI : IsS70 w0 w g s1_0 s1_1 s1_2 s1_3 s1_4) (hB : Below w0.heap.size w0 w) (hG : GM w0) (h : frame_Parse.f k a0 s1_0 s1_1 s1_2 s1_3 s1_4 a2 = some (r1, r2, r3, r4, r5, r6, r7, r8, r9, r10, r11, r12)) :
    Calls Tryd.prog 36 #[.int .i64 a0, .pointer (some ⟨g, 0, none⟩), .bool a2] w fun e w' => e = .returned (.tuple #[.agg #[.string r1, .int .u8 r2, .int .u8 r3, .int .u8 r4, .string r5, .int .i64 r6], .bool r7]) ∧ IsS70 w0 w' g r8 r9 r10 r11 r12 ∧ Below w0.heap.size w0 w' ∧ KeepBut w w' g none := by
  have hu36 := Tryd.underlying36
  have hu29 := Tryd.underlying29
  have hu39 := Tryd.underlying39
  have HI1 := Aside0.mk hI
  have HK := Aside0.mk (KeepBut.refl w g none)
  have HL := Aside0.mk hB.size
  clear hI
  have HW0 := Aside0.mk hB.size
  have HB := Aside0.mk hB
  clear hB
  have HG := Aside0.mk hG
  clear hG
  have H : ((octet_In_Peek.f s1_0 s1_1 s1_2 s1_3 s1_4 1).bind fun bt326 => (if bt326.1.toList = ([] : List UInt8) then (frame_Parse.j0 k a0 a2 true bt326.2.1 bt326.2.2.1 bt326.2.2.2.1 bt326.2.2.2.2.1 bt326.2.2.2.2.2) else (if 0 < (bt326.1.size : Int) then (if (bt bt326.1 0) = 0 then (frame_Parse.j0 k a0 a2 true bt326.2.1 bt326.2.2.1 bt326.2.2.2.1 bt326.2.2.2.2.1 bt326.2.2.2.2.2) else ((frame_Letters.f a0).bind fun t332 => (frame_Parse.j0 k a0 a2 (t332 == 0) bt326.2.1 bt326.2.2.1 bt326.2.2.2.1 bt326.2.2.2.2.1 bt326.2.2.2.2.2))) else (none)))) = some (r1, r2, r3, r4, r5, r6, r7, r8, r9, r10, r11, r12) := h
  clear h
  replace H := Option.bind_eq_some_iff.mp H
  obtain ⟨⟨t326, t327, t328, t329, t330, t331⟩, A40, H⟩ := H
  replace H : (if t326.toList = ([] : List UInt8) then (frame_Parse.j0 k a0 a2 true t327 t328 t329 t330 t331) else (if 0 < (t326.size : Int) then (if (bt t326 0) = 0 then (frame_Parse.j0 k a0 a2 true t327 t328 t329 t330 t331) else ((frame_Letters.f a0).bind fun t332 => (frame_Parse.j0 k a0 a2 (t332 == 0) t327 t328 t329 t330 t331))) else (none))) = some (r1, r2, r3, r4, r5, r6, r7, r8, r9, r10, r11, r12) := H
  have A4 := Aside0.mk A40
  clear A40
  have HC5 := Aside0.mk H
  clear H
  go_enter Tryd.func36, Tryd.ntmps36
  go_upto_region 2 with (first | ((with_reducible refine gate_dst (N := 6) rfl ?_); refine box_event ?hg (N := 6) ?hd (cs := #[.string (⟨#[]⟩ : ByteArray), .int .u8 0, .int .u8 0, .int .u8 0, .string (⟨#[]⟩ : ByteArray), .int .i64 0]) (t := 36) ?hr ?_; (case hd => rfl); (case hg => rfl); (case hr => first | (go_simp; done) | (go_simp; rfl)); intro gb325 hg w6 hbox hb; have n0_ := Aside0.mk (IsS70.below (by repeat (first | (with_reducible first | exact HI1.out | apply IsS70.alloc | apply IsS70.drewN | apply IsS70.drew | apply IsS70.set_0 | apply IsS70.set_1 | apply IsS70.set_2 | apply IsS70.set_3 | apply IsS70.set_4) | exact HI1.out)) hb); have n1_ := Aside0.mk (KeepBut.trans q_35 (KeepBut.of_below hb g none) (.inl rfl)); have n2_ := Aside0.mk (below_step (by repeat (first | (with_reducible first | exact HB.out | apply below_alloc | apply pw_below_drewN | apply below_drew1 | refine below_set ?_ (IsS70.ge HI1.out)) | exact HB.out)) hb); have n3_ := Aside0.mk (hbox); have n4_ := Aside0.mk ((q_121 : w.heap.size ≤ gb325)); have n5_ := Aside0.mk ((Nat.le_trans HW0.out (q_121 : w.heap.size ≤ gb325) : w0.heap.size ≤ gb325)); have n6_ := Aside0.mk ((by rw [hg]; exact Nat.ne_of_lt (IsS70.lt (show IsS70 w0 _ g s1_0 s1_1 s1_2 s1_3 s1_4 from by repeat (first | (with_reducible first | exact HI1.out | apply IsS70.alloc | apply IsS70.drewN | apply IsS70.drew | apply IsS70.set_0 | apply IsS70.set_1 | apply IsS70.set_2 | apply IsS70.set_3 | apply IsS70.set_4) | exact HI1.out))) : g ≠ gb325)); have n7_ := Aside0.mk ((by rw [hg]; exact Nat.ne_of_gt (IsS70.lt (show IsS70 w0 _ g s1_0 s1_1 s1_2 s1_3 s1_4 from by repeat (first | (with_reducible first | exact HI1.out | apply IsS70.alloc | apply IsS70.drewN | apply IsS70.drew | apply IsS70.set_0 | apply IsS70.set_1 | apply IsS70.set_2 | apply IsS70.set_3 | apply IsS70.set_4) | exact HI1.out))) : gb325 ≠ g)); clear HI1; clear HK; clear HB; have HI1 := n0_; have HK := n1_; have HB := n2_; have BK325 := n3_; have GW325 := n4_; have GE325 := n5_; have NB1_325 := n6_; have NB325_1 := n7_; clear n0_ n1_ n2_ n3_ n4_ n5_ n6_ n7_; clear hb hbox hg) | ((with_reducible refine gate_callee (f := 53) rfl ?_); refine goesL_ (some 15) rfl rfl Tryd.func53 (by kernel_rfl) rfl #[.pointer (some ⟨g, 0, none⟩), .int .i64 1] rfl q_6 ?_; (with_reducible refine (octet_In_Peek.calls g s1_0 s1_1 s1_2 s1_3 s1_4 1 t326 t327 t328 t329 t330 t331 w0 _ ?side1 ?side2 A4.out).mono ?_); (case side1 => repeat (first | (with_reducible first | exact HI1.out | apply IsS70.alloc | apply IsS70.drewN | apply IsS70.drew | apply IsS70.set_0 | apply IsS70.set_1 | apply IsS70.set_2 | apply IsS70.set_3 | apply IsS70.set_4 | refine IsS70.far ?_ NB1_325.out _ | apply IsS70.far (hne := NB1_325.out)) | exact HI1.out)); (case side2 => repeat (first | (with_reducible first | exact HB.out | apply below_alloc | apply pw_below_drewN | apply below_drew1 | refine below_set ?_ (IsS70.ge HI1.out) | refine below_set ?_ GE325.out) | exact HB.out)); rintro e w7 ⟨rfl, hi, hb, hk⟩; refine ⟨_, rfl, ?_⟩; have n0_ := Aside0.mk (KeepBut.blk hk (g' := gb325) (o := .cells #[.string (⟨#[]⟩ : ByteArray), .int .u8 0, .int .u8 0, .int .u8 0, .string (⟨#[]⟩ : ByteArray), .int .i64 0] 36 (0, 0)) q_43 NB325_1.out (by simp)); have n1_ := Aside0.mk (KeepBut.trans q_44 hk (.inl rfl)); have n2_ := Aside0.mk (hb); have n3_ := Aside0.mk (hi); clear BK325; clear HK; clear HB; clear HI1; have BK325 := n0_; have HK := n1_; have HB := n2_; have HI1 := n3_; clear n0_ n1_ n2_ n3_; (try clear hb); (try clear hb2); (try clear hk); (try clear hi)))
  (try simp only [Act.put, List.setIfInBounds_toArray, List.set_cons_zero, List.set_cons_succ])
  go_cut [27] (fun v27 wc => ∃ (kq : Nat) (x27_4 : Bool), v27 = .bool x27_4 ∧ Aside0 (frame_Parse.j0 kq a0 a2 x27_4 t327 t328 t329 t330 t331 = some (r1, r2, r3, r4, r5, r6, r7, r8, r9, r10, r11, r12)) ∧ Aside0 (kq ≤ k) ∧ Aside0 (wc.heap[gb325]? = some (.cells #[.string (⟨#[]⟩ : ByteArray), .int .u8 0, .int .u8 0, .int .u8 0, .string (⟨#[]⟩ : ByteArray), .int .i64 0] 36 (0, 0))) ∧ Aside0 (IsS70 w0 wc g t327 t328 t329 t330 t331) ∧ Aside0 (KeepBut w wc g none) ∧ Aside0 (Below w0.heap.size w0 wc))
  case first =>
    have H := HC5.out
    clear HC5
    by_cases c8 : t326.toList = ([] : List UInt8)
    · rw [if_pos c8] at H
      have c8b0 : (t326.toList == ([] : List UInt8)) = true := beq_iff_eq.mpr c8
      have c8b1 : (t326.toList != ([] : List UInt8)) = false := bne_eq_false_iff_eq.mpr c8
      clear c8
      (first | rw [c8b0] | (simp only [i64_w, i32_w]; rw [c8b0]) | skip)
      have H' := Aside0.mk H
      clear H
      go_wp2
      go_meet
      case rel => exact ⟨_, (true), q_1, H', ⟨by first | omega | exact Nat.le_refl _⟩, ⟨by (with_reducible repeat (first | refine blk_drewN ?_ _ | refine blk_drew ?_ | refine blk_alloc ?_ _)); exact BK325.out⟩, ⟨by repeat (first | (with_reducible first | exact HI1.out | apply IsS70.alloc | apply IsS70.drewN | apply IsS70.drew | apply IsS70.set_0 | apply IsS70.set_1 | apply IsS70.set_2 | apply IsS70.set_3 | apply IsS70.set_4 | refine IsS70.far ?_ NB1_325.out _ | apply IsS70.far (hne := NB1_325.out)) | exact HI1.out)⟩, ⟨by repeat (first | (with_reducible first | exact HK.out | apply KeepBut.set_ | apply keep_drewN | apply keep_drew | apply keep_alloc | refine keep_far ?_ GW325.out _) | exact HK.out)⟩, ⟨by repeat (first | (with_reducible first | exact HB.out | apply below_alloc | apply pw_below_drewN | apply below_drew1 | refine below_set ?_ (IsS70.ge HI1.out) | refine below_set ?_ GE325.out) | exact HB.out)⟩⟩
    · rw [if_neg c8] at H
      have c8b0 : (t326.toList == ([] : List UInt8)) = false := beq_eq_false_iff_ne.mpr c8
      have c8b1 : (t326.toList != ([] : List UInt8)) = true := bne_iff_ne.mpr c8
      (first | rw [c8b0] | (simp only [i64_w, i32_w]; rw [c8b0]) | skip)
      by_cases c9 : 0 < (t326.size : Int)
      · rw [if_pos c9] at H
        have c9b0 : decide (0 < (t326.size : Int)) = true := decide_eq_true c9
        have c9b1 : decide (0 < t326.size) = true := decide_eq_true (by omega)
        clear c9
        by_cases c11 : (bt t326 0) = 0
        · rw [if_pos c11] at H
          have c11b0 : ((bt t326 0) == 0) = true := beq_iff_eq.mpr c11
          have c11b1 : ((bt t326 0) != 0) = false := bne_eq_false_iff_eq.mpr c11
          clear c11
          have H' := Aside0.mk H
          clear H
          have p10 : 0 ≤ (0 : Int) := (by omega)
          have q10 : 0 < t326.size := (by have : (0 : Int) < (t326.size : Int) := of_decide_eq_true q_2; omega)
          have hx10 : ∀ h : 0 < t326.size, ((t326[0]'h).toNat : Int) = bt t326 0 := bt_at t326 0
          clear p10
          have qi10 : (0 < (t326.size : Int)) = True := eq_true (of_decide_eq_true q_2)
          replace q10 := eq_true q10
          go_wp2
          go_meet
          case rel => exact ⟨_, (true), q_1, H', ⟨by first | omega | exact Nat.le_refl _⟩, ⟨by (with_reducible repeat (first | refine blk_drewN ?_ _ | refine blk_drew ?_ | refine blk_alloc ?_ _)); exact BK325.out⟩, ⟨by repeat (first | (with_reducible first | exact HI1.out | apply IsS70.alloc | apply IsS70.drewN | apply IsS70.drew | apply IsS70.set_0 | apply IsS70.set_1 | apply IsS70.set_2 | apply IsS70.set_3 | apply IsS70.set_4 | refine IsS70.far ?_ NB1_325.out _ | apply IsS70.far (hne := NB1_325.out)) | exact HI1.out)⟩, ⟨by repeat (first | (with_reducible first | exact HK.out | apply KeepBut.set_ | apply keep_drewN | apply keep_drew | apply keep_alloc | refine keep_far ?_ GW325.out _) | exact HK.out)⟩, ⟨by repeat (first | (with_reducible first | exact HB.out | apply below_alloc | apply pw_below_drewN | apply below_drew1 | refine below_set ?_ (IsS70.ge HI1.out) | refine below_set ?_ GE325.out) | exact HB.out)⟩⟩
        · rw [if_neg c11] at H
          have c11b0 : ((bt t326 0) == 0) = false := beq_eq_false_iff_ne.mpr c11
          have c11b1 : ((bt t326 0) != 0) = true := bne_iff_ne.mpr c11
          replace H := Option.bind_eq_some_iff.mp H
          obtain ⟨t332, A120, H⟩ := H
          replace H : (frame_Parse.j0 k a0 a2 (t332 == 0) t327 t328 t329 t330 t331) = some (r1, r2, r3, r4, r5, r6, r7, r8, r9, r10, r11, r12) := H
          have A12 := Aside0.mk A120
          clear A120
          have H' := Aside0.mk H
          clear H
          have p10 : 0 ≤ (0 : Int) := (by omega)
          have q10 : 0 < t326.size := (by have : (0 : Int) < (t326.size : Int) := of_decide_eq_true q_2; omega)
          have hx10 : ∀ h : 0 < t326.size, ((t326[0]'h).toNat : Int) = bt t326 0 := bt_at t326 0
          clear p10
          have qi10 : (0 < (t326.size : Int)) = True := eq_true (of_decide_eq_true q_2)
          replace q10 := eq_true q10
          go_wp2_with (first | (go_at_call 27; (with_reducible refine (frame_Letters.calls a0 t332 _ A12.out).mono ?_); rintro e w' ⟨rfl, ⟨nd, rfl⟩⟩))
          go_meet
          case rel => exact ⟨_, ((t332 == 0)), q_1, H', ⟨by first | omega | exact Nat.le_refl _⟩, ⟨by (with_reducible repeat (first | refine blk_drewN ?_ _ | refine blk_drew ?_ | refine blk_alloc ?_ _)); exact BK325.out⟩, ⟨by repeat (first | (with_reducible first | exact HI1.out | apply IsS70.alloc | apply IsS70.drewN | apply IsS70.drew | apply IsS70.set_0 | apply IsS70.set_1 | apply IsS70.set_2 | apply IsS70.set_3 | apply IsS70.set_4 | refine IsS70.far ?_ NB1_325.out _ | apply IsS70.far (hne := NB1_325.out)) | exact HI1.out)⟩, ⟨by repeat (first | (with_reducible first | exact HK.out | apply KeepBut.set_ | apply keep_drewN | apply keep_drew | apply keep_alloc | refine keep_far ?_ GW325.out _) | exact HK.out)⟩, ⟨by repeat (first | (with_reducible first | exact HB.out | apply below_alloc | apply pw_below_drewN | apply below_drew1 | refine below_set ?_ (IsS70.ge HI1.out) | refine below_set ?_ GE325.out) | exact HB.out)⟩⟩
      · rw [if_neg c9] at H
        exact absurd H (by simp)
  case rest =>
    clear HC5
    try clear c1
    try clear p1
    try clear q1
    try clear hx1
    try clear qi1
    try clear p2
    try clear c3
    try clear c5
    try clear c8
    try clear c8b0
    try clear c8b1
    try clear c9
    try clear c9b0
    try clear c9b1
    try clear p10
    try clear q10
    try clear hx10
    try clear qi10
    try clear c11
    try clear c11b0
    try clear c11b1
    try clear p10
    try clear q10
    obtain ⟨kq, x27_4, rfl, HA, HJ4, BK325, HI1, HK, HB⟩ := hcut
    cases kq with
    | zero => exact absurd HA.out (by simp [frame_Parse.j0])
    | succ kj4 =>
      have H := HA.out
      clear HA
      simp only [frame_Parse.j0] at H
      by_cases c13 : x27_4 = true
      · subst c13
        have H1 : (some ((⟨#[]⟩ : ByteArray), 0, 0, 0, (⟨#[]⟩ : ByteArray), 0, false, t327, t328, t329, t330, t331)) = some (r1, r2, r3, r4, r5, r6, r7, r8, r9, r10, r11, r12) := by rw [if_pos rfl] at H; exact H
        clear H
        have H := H1
        clear H1
        simp only [Option.some.injEq, Prod.mk.injEq] at H
        obtain ⟨rfl, rfl, rfl, rfl, rfl, rfl, rfl, rfl, rfl, rfl, rfl, rfl⟩ := H
        have hnb14 := NB325_1.out
        have hnc14 := NB1_325.out
        have hcz15_0 : wc.cell? ⟨gb325, 0, none⟩ = some (.string (⟨#[]⟩ : ByteArray)) := (blk_cell BK325.out 0).trans rfl
        have hcz15_1 : wc.cell? ⟨gb325, 1, none⟩ = some (.int .u8 0) := (blk_cell BK325.out 1).trans rfl
        have hcz15_2 : wc.cell? ⟨gb325, 2, none⟩ = some (.int .u8 0) := (blk_cell BK325.out 2).trans rfl
        have hcz15_3 : wc.cell? ⟨gb325, 3, none⟩ = some (.int .u8 0) := (blk_cell BK325.out 3).trans rfl
        have hcz15_4 : wc.cell? ⟨gb325, 4, none⟩ = some (.string (⟨#[]⟩ : ByteArray)) := (blk_cell BK325.out 4).trans rfl
        have hcz15_5 : wc.cell? ⟨gb325, 5, none⟩ = some (.int .i64 0) := (blk_cell BK325.out 5).trans rfl
        have hfz15_0 := blk_frozen BK325.out 0
        have hfz15_1 := blk_frozen BK325.out 1
        have hfz15_2 := blk_frozen BK325.out 2
        have hfz15_3 := blk_frozen BK325.out 3
        have hfz15_4 := blk_frozen BK325.out 4
        have hfz15_5 := blk_frozen BK325.out 5
        go_wp2
        refine bodyPost_ret (results_ct rfl _ _ gb325 36 #[.string (⟨#[]⟩ : ByteArray), .int .u8 0, .int .u8 0, .int .u8 0, .string (⟨#[]⟩ : ByteArray), .int .i64 0] (0, 0) _ rfl q_45 Tryd.underlying36 rfl (by kernel_rfl)) rfl ?_
        exact ⟨by first | rfl | (simp [errW_none, errW_some] <;> rfl) | (simp [*, errW_none, errW_some] <;> rfl), by repeat (first | (with_reducible first | exact HI1.out | apply IsS70.alloc | apply IsS70.drewN | apply IsS70.drew | apply IsS70.set_0 | apply IsS70.set_1 | apply IsS70.set_2 | apply IsS70.set_3 | apply IsS70.set_4 | refine IsS70.far ?_ NB1_325.out _ | apply IsS70.far (hne := NB1_325.out)) | exact HI1.out), by repeat (first | (with_reducible first | exact HB.out | apply below_alloc | apply pw_below_drewN | apply below_drew1 | refine below_set ?_ (IsS70.ge HI1.out) | refine below_set ?_ GE325.out) | exact HB.out), by repeat (first | (with_reducible first | exact HK.out | apply KeepBut.set_ | apply keep_drewN | apply keep_drew | apply keep_alloc | refine keep_far ?_ GW325.out _) | exact HK.out)⟩
      · replace c13 := Bool.eq_false_iff.mpr c13
        subst c13
        have H1 : ((octet_In_At.f t327 t328 t329 t330 t331).bind fun bt333 => ((frame_name.f kj4 bt333.2.1 bt333.2.2.1 bt333.2.2.2.1 bt333.2.2.2.2.1 bt333.2.2.2.2.2 a0).bind fun bt340 => ((frame_size.f bt340.2.1 bt340.2.2.1 bt340.2.2.2.1 bt340.2.2.2.2.1 bt340.2.2.2.2.2 a0).bind fun bt346 => (if a0 > 2 then ((octet_In_Big.f bt346.2.1 bt346.2.2.1 bt346.2.2.2.1 bt346.2.2.2.2.1 bt346.2.2.2.2.2 1).bind fun bt352 => ((octet_In_Big.f bt352.2.1 bt352.2.2.1 bt352.2.2.2.1 bt352.2.2.2.2.1 bt352.2.2.2.2.2 1).bind fun bt358 => (frame_Parse.j1 kj4 a0 a2 bt346.1 bt358.2.1 bt358.2.2.1 bt358.2.2.2.1 bt358.2.2.2.2.1 bt358.2.2.2.2.2 bt340.1 ((bt352.1) % 256) ((bt358.1) % 256) 0 (⟨#[]⟩ : ByteArray) bt333.1))) else (frame_Parse.j1 kj4 a0 a2 bt346.1 bt346.2.1 bt346.2.2.1 bt346.2.2.2.1 bt346.2.2.2.2.1 bt346.2.2.2.2.2 bt340.1 0 0 0 (⟨#[]⟩ : ByteArray) bt333.1))))) = some (r1, r2, r3, r4, r5, r6, r7, r8, r9, r10, r11, r12) := by rw [if_neg (show ¬ (false = true) by decide)] at H; exact H
        clear H
        have H := H1
        clear H1
        replace H := Option.bind_eq_some_iff.mp H
        obtain ⟨⟨t333, t334, t335, t336, t337, t338⟩, A160, H⟩ := H
        replace H : ((frame_name.f kj4 t334 t335 t336 t337 t338 a0).bind fun bt340 => ((frame_size.f bt340.2.1 bt340.2.2.1 bt340.2.2.2.1 bt340.2.2.2.2.1 bt340.2.2.2.2.2 a0).bind fun bt346 => (if a0 > 2 then ((octet_In_Big.f bt346.2.1 bt346.2.2.1 bt346.2.2.2.1 bt346.2.2.2.2.1 bt346.2.2.2.2.2 1).bind fun bt352 => ((octet_In_Big.f bt352.2.1 bt352.2.2.1 bt352.2.2.2.1 bt352.2.2.2.2.1 bt352.2.2.2.2.2 1).bind fun bt358 => (frame_Parse.j1 kj4 a0 a2 bt346.1 bt358.2.1 bt358.2.2.1 bt358.2.2.2.1 bt358.2.2.2.2.1 bt358.2.2.2.2.2 bt340.1 ((bt352.1) % 256) ((bt358.1) % 256) 0 (⟨#[]⟩ : ByteArray) t333))) else (frame_Parse.j1 kj4 a0 a2 bt346.1 bt346.2.1 bt346.2.2.1 bt346.2.2.2.1 bt346.2.2.2.2.1 bt346.2.2.2.2.2 bt340.1 0 0 0 (⟨#[]⟩ : ByteArray) t333)))) = some (r1, r2, r3, r4, r5, r6, r7, r8, r9, r10, r11, r12) := H
        have A16 := Aside0.mk A160
        clear A160
        replace H := Option.bind_eq_some_iff.mp H
        obtain ⟨⟨t340, t341, t342, t343, t344, t345⟩, A170, H⟩ := H
        replace H : ((frame_size.f t341 t342 t343 t344 t345 a0).bind fun bt346 => (if a0 > 2 then ((octet_In_Big.f bt346.2.1 bt346.2.2.1 bt346.2.2.2.1 bt346.2.2.2.2.1 bt346.2.2.2.2.2 1).bind fun bt352 => ((octet_In_Big.f bt352.2.1 bt352.2.2.1 bt352.2.2.2.1 bt352.2.2.2.2.1 bt352.2.2.2.2.2 1).bind fun bt358 => (frame_Parse.j1 kj4 a0 a2 bt346.1 bt358.2.1 bt358.2.2.1 bt358.2.2.2.1 bt358.2.2.2.2.1 bt358.2.2.2.2.2 t340 ((bt352.1) % 256) ((bt358.1) % 256) 0 (⟨#[]⟩ : ByteArray) t333))) else (frame_Parse.j1 kj4 a0 a2 bt346.1 bt346.2.1 bt346.2.2.1 bt346.2.2.2.1 bt346.2.2.2.2.1 bt346.2.2.2.2.2 t340 0 0 0 (⟨#[]⟩ : ByteArray) t333))) = some (r1, r2, r3, r4, r5, r6, r7, r8, r9, r10, r11, r12) := H
        have A17 := Aside0.mk A170
        clear A170
        replace H := Option.bind_eq_some_iff.mp H
        obtain ⟨⟨t346, t347, t348, t349, t350, t351⟩, A180, H⟩ := H
        replace H : (if a0 > 2 then ((octet_In_Big.f t347 t348 t349 t350 t351 1).bind fun bt352 => ((octet_In_Big.f bt352.2.1 bt352.2.2.1 bt352.2.2.2.1 bt352.2.2.2.2.1 bt352.2.2.2.2.2 1).bind fun bt358 => (frame_Parse.j1 kj4 a0 a2 t346 bt358.2.1 bt358.2.2.1 bt358.2.2.2.1 bt358.2.2.2.2.1 bt358.2.2.2.2.2 t340 ((bt352.1) % 256) ((bt358.1) % 256) 0 (⟨#[]⟩ : ByteArray) t333))) else (frame_Parse.j1 kj4 a0 a2 t346 t347 t348 t349 t350 t351 t340 0 0 0 (⟨#[]⟩ : ByteArray) t333)) = some (r1, r2, r3, r4, r5, r6, r7, r8, r9, r10, r11, r12) := H
        have A18 := Aside0.mk A180
        clear A180
        have HC19 := Aside0.mk H
        clear H
        go_upto_if 41 with (first | ((with_reducible refine gate_callee (f := 54) rfl ?_); refine goesL_ (some 30) rfl rfl Tryd.func54 (by kernel_rfl) rfl #[.pointer (some ⟨g, 0, none⟩)] rfl q_6 ?_; (with_reducible refine (octet_In_At.calls g t327 t328 t329 t330 t331 t333 t334 t335 t336 t337 t338 w0 _ ?side1 ?side2 A16.out).mono ?_); (case side1 => repeat (first | (with_reducible first | exact HI1.out | apply IsS70.alloc | apply IsS70.drewN | apply IsS70.drew | apply IsS70.set_0 | apply IsS70.set_1 | apply IsS70.set_2 | apply IsS70.set_3 | apply IsS70.set_4 | refine IsS70.far ?_ NB1_325.out _ | apply IsS70.far (hne := NB1_325.out)) | exact HI1.out)); (case side2 => repeat (first | (with_reducible first | exact HB.out | apply below_alloc | apply pw_below_drewN | apply below_drew1 | refine below_set ?_ (IsS70.ge HI1.out) | refine below_set ?_ GE325.out) | exact HB.out)); rintro e w20 ⟨rfl, hi, hb, hk⟩; refine ⟨_, rfl, ?_⟩; have n0_ := Aside0.mk (KeepBut.blk hk (g' := gb325) (o := .cells #[.string (⟨#[]⟩ : ByteArray), .int .u8 0, .int .u8 0, .int .u8 0, .string (⟨#[]⟩ : ByteArray), .int .i64 0] 36 (0, 0)) q_43 NB325_1.out (by simp)); have n1_ := Aside0.mk (KeepBut.trans q_44 hk (.inl rfl)); have n2_ := Aside0.mk (hb); have n3_ := Aside0.mk (hi); clear BK325; clear HK; clear HB; clear HI1; have BK325 := n0_; have HK := n1_; have HB := n2_; have HI1 := n3_; clear n0_ n1_ n2_ n3_; (try clear hb); (try clear hb2); (try clear hk); (try clear hi)) | ((with_reducible refine gate_dst (N := 9) rfl ?_); refine box_event ?hg (N := 9) ?hd (cs := #[.string (⟨#[]⟩ : ByteArray), .int .u8 0, .int .u8 0, .int .u8 0, .string (⟨#[]⟩ : ByteArray), .int .i64 0]) (t := 36) ?hr ?_; (case hd => rfl); (case hg => rfl); (case hr => first | (go_simp; done) | (go_simp; rfl)); intro gb339 hg w21 hbox hb; have n0_ := Aside0.mk (blk_below (g := gb325) (o := .cells #[.string (⟨#[]⟩ : ByteArray), .int .u8 0, .int .u8 0, .int .u8 0, .string (⟨#[]⟩ : ByteArray), .int .i64 0] 36 (0, 0)) q_43 hb); have n1_ := Aside0.mk (IsS70.below (by repeat (first | (with_reducible first | exact HI1.out | apply IsS70.alloc | apply IsS70.drewN | apply IsS70.drew | apply IsS70.set_0 | apply IsS70.set_1 | apply IsS70.set_2 | apply IsS70.set_3 | apply IsS70.set_4 | refine IsS70.far ?_ NB1_325.out _ | apply IsS70.far (hne := NB1_325.out)) | exact HI1.out)) hb); have n2_ := Aside0.mk (KeepBut.trans q_44 (KeepBut.of_below hb g none) (.inl rfl)); have n3_ := Aside0.mk (below_step (by repeat (first | (with_reducible first | exact HB.out | apply below_alloc | apply pw_below_drewN | apply below_drew1 | refine below_set ?_ (IsS70.ge HI1.out) | refine below_set ?_ GE325.out) | exact HB.out)) hb); have n4_ := Aside0.mk (hbox); have n5_ := Aside0.mk ((by rw [hg]; exact (keep_size (w := w) (g := g) (row := none) q_44) : w.heap.size ≤ gb339)); have n6_ := Aside0.mk ((Nat.le_trans HW0.out (by rw [hg]; exact (keep_size (w := w) (g := g) (row := none) q_44) : w.heap.size ≤ gb339) : w0.heap.size ≤ gb339)); have n7_ := Aside0.mk ((q_122 : gb325 ≠ gb339)); have n8_ := Aside0.mk ((q_123 : gb339 ≠ gb325)); have n9_ := Aside0.mk ((by rw [hg]; exact Nat.ne_of_lt (IsS70.lt (show IsS70 w0 _ g t334 t335 t336 t337 t338 from by repeat (first | (with_reducible first | exact HI1.out | apply IsS70.alloc | apply IsS70.drewN | apply IsS70.drew | apply IsS70.set_0 | apply IsS70.set_1 | apply IsS70.set_2 | apply IsS70.set_3 | apply IsS70.set_4 | refine IsS70.far ?_ NB1_325.out _ | apply IsS70.far (hne := NB1_325.out)) | exact HI1.out))) : g ≠ gb339)); have n10_ := Aside0.mk ((by rw [hg]; exact Nat.ne_of_gt (IsS70.lt (show IsS70 w0 _ g t334 t335 t336 t337 t338 from by repeat (first | (with_reducible first | exact HI1.out | apply IsS70.alloc | apply IsS70.drewN | apply IsS70.drew | apply IsS70.set_0 | apply IsS70.set_1 | apply IsS70.set_2 | apply IsS70.set_3 | apply IsS70.set_4 | refine IsS70.far ?_ NB1_325.out _ | apply IsS70.far (hne := NB1_325.out)) | exact HI1.out))) : gb339 ≠ g)); clear BK325; clear HI1; clear HK; clear HB; have BK325 := n0_; have HI1 := n1_; have HK := n2_; have HB := n3_; have BK339 := n4_; have GW339 := n5_; have GE339 := n6_; have NB325_339 := n7_; have NB339_325 := n8_; have NB1_339 := n9_; have NB339_1 := n10_; clear n0_ n1_ n2_ n3_ n4_ n5_ n6_ n7_ n8_ n9_ n10_; clear hb hbox hg; have hnb22 := NB339_325.out; have hnc22 := NB325_339.out; have hnb23 := NB339_1.out; have hnc23 := NB1_339.out; have hcz24_0 : w21.cell? ⟨gb339, 0, none⟩ = some (.string (⟨#[]⟩ : ByteArray)) := (blk_cell BK339.out 0).trans rfl; have hcz24_1 : w21.cell? ⟨gb339, 1, none⟩ = some (.int .u8 0) := (blk_cell BK339.out 1).trans rfl; have hcz24_2 : w21.cell? ⟨gb339, 2, none⟩ = some (.int .u8 0) := (blk_cell BK339.out 2).trans rfl; have hcz24_3 : w21.cell? ⟨gb339, 3, none⟩ = some (.int .u8 0) := (blk_cell BK339.out 3).trans rfl; have hcz24_4 : w21.cell? ⟨gb339, 4, none⟩ = some (.string (⟨#[]⟩ : ByteArray)) := (blk_cell BK339.out 4).trans rfl; have hcz24_5 : w21.cell? ⟨gb339, 5, none⟩ = some (.int .i64 0) := (blk_cell BK339.out 5).trans rfl; have hfz24_0 := blk_frozen BK339.out 0; have hfz24_1 := blk_frozen BK339.out 1; have hfz24_2 := blk_frozen BK339.out 2; have hfz24_3 := blk_frozen BK339.out 3; have hfz24_4 := blk_frozen BK339.out 4; have hfz24_5 := blk_frozen BK339.out 5) | ((with_reducible refine gate_callee (f := 55) rfl ?_); refine goesL_ (some 34) rfl rfl Tryd.func55 (by kernel_rfl) rfl #[.pointer (some ⟨g, 0, none⟩), .int .i64 a0] rfl q_6 ?_; (with_reducible refine (frame_name.calls kj4 g t334 t335 t336 t337 t338 a0 t340 t341 t342 t343 t344 t345 w0 _ ?side1 ?side2 A17.out).mono ?_); (case side1 => repeat (first | (with_reducible first | exact HI1.out | apply IsS70.alloc | apply IsS70.drewN | apply IsS70.drew | apply IsS70.set_0 | apply IsS70.set_1 | apply IsS70.set_2 | apply IsS70.set_3 | apply IsS70.set_4 | refine IsS70.far ?_ NB1_325.out _ | apply IsS70.far (hne := NB1_325.out) | refine IsS70.far ?_ NB1_339.out _ | apply IsS70.far (hne := NB1_339.out)) | exact HI1.out)); (case side2 => repeat (first | (with_reducible first | exact HB.out | apply below_alloc | apply pw_below_drewN | apply below_drew1 | refine below_set ?_ (IsS70.ge HI1.out) | refine below_set ?_ GE325.out | refine below_set ?_ GE339.out) | exact HB.out)); rintro e w25 ⟨rfl, hi, hb, hk⟩; refine ⟨_, rfl, ?_⟩; have n0_ := Aside0.mk (KeepBut.blk hk (g' := gb325) (o := .cells #[.string (⟨#[]⟩ : ByteArray), .int .u8 0, .int .u8 0, .int .u8 0, .string (⟨#[]⟩ : ByteArray), .int .i64 0] 36 (0, 0)) (by (with_reducible repeat (first | refine blk_drewN ?_ _ | refine blk_drew ?_ | refine blk_alloc ?_ _)); refine blk_far ?_ NB325_339.out _; (with_reducible repeat (first | refine blk_drewN ?_ _ | refine blk_drew ?_ | refine blk_alloc ?_ _)); refine blk_far ?_ NB325_339.out _; (with_reducible repeat (first | refine blk_drewN ?_ _ | refine blk_drew ?_ | refine blk_alloc ?_ _)); refine blk_far ?_ NB325_339.out _; (with_reducible repeat (first | refine blk_drewN ?_ _ | refine blk_drew ?_ | refine blk_alloc ?_ _)); refine blk_far ?_ NB325_339.out _; (with_reducible repeat (first | refine blk_drewN ?_ _ | refine blk_drew ?_ | refine blk_alloc ?_ _)); refine blk_far ?_ NB325_339.out _; (with_reducible repeat (first | refine blk_drewN ?_ _ | refine blk_drew ?_ | refine blk_alloc ?_ _)); refine blk_far ?_ NB325_339.out _; (with_reducible repeat (first | refine blk_drewN ?_ _ | refine blk_drew ?_ | refine blk_alloc ?_ _)); exact BK325.out) NB325_1.out (by simp)); have n1_ := Aside0.mk (KeepBut.blk hk (g' := gb339) (o := .cells #[.string (⟨#[]⟩ : ByteArray), .int .u8 0, .int .u8 0, .int .u8 0, .string (⟨#[]⟩ : ByteArray), .int .i64 t333] 36 (0, 0)) (by (with_reducible repeat (first | refine blk_drewN ?_ _ | refine blk_drew ?_ | refine blk_alloc ?_ _)); refine blk_put (cs := #[.string (⟨#[]⟩ : ByteArray), .int .u8 0, .int .u8 0, .int .u8 0, .string (⟨#[]⟩ : ByteArray), .int .i64 0]) ?_ 5 _ rfl; (with_reducible repeat (first | refine blk_drewN ?_ _ | refine blk_drew ?_ | refine blk_alloc ?_ _)); refine blk_put (cs := #[.string (⟨#[]⟩ : ByteArray), .int .u8 0, .int .u8 0, .int .u8 0, .string (⟨#[]⟩ : ByteArray), .int .i64 0]) ?_ 4 _ rfl; (with_reducible repeat (first | refine blk_drewN ?_ _ | refine blk_drew ?_ | refine blk_alloc ?_ _)); refine blk_put (cs := #[.string (⟨#[]⟩ : ByteArray), .int .u8 0, .int .u8 0, .int .u8 0, .string (⟨#[]⟩ : ByteArray), .int .i64 0]) ?_ 3 _ rfl; (with_reducible repeat (first | refine blk_drewN ?_ _ | refine blk_drew ?_ | refine blk_alloc ?_ _)); refine blk_put (cs := #[.string (⟨#[]⟩ : ByteArray), .int .u8 0, .int .u8 0, .int .u8 0, .string (⟨#[]⟩ : ByteArray), .int .i64 0]) ?_ 2 _ rfl; (with_reducible repeat (first | refine blk_drewN ?_ _ | refine blk_drew ?_ | refine blk_alloc ?_ _)); refine blk_put (cs := #[.string (⟨#[]⟩ : ByteArray), .int .u8 0, .int .u8 0, .int .u8 0, .string (⟨#[]⟩ : ByteArray), .int .i64 0]) ?_ 1 _ rfl; (with_reducible repeat (first | refine blk_drewN ?_ _ | refine blk_drew ?_ | refine blk_alloc ?_ _)); refine blk_put (cs := #[.string (⟨#[]⟩ : ByteArray), .int .u8 0, .int .u8 0, .int .u8 0, .string (⟨#[]⟩ : ByteArray), .int .i64 0]) ?_ 0 _ rfl; (with_reducible repeat (first | refine blk_drewN ?_ _ | refine blk_drew ?_ | refine blk_alloc ?_ _)); exact BK339.out) NB339_1.out (by simp)); have n2_ := Aside0.mk (KeepBut.trans q_46 hk (.inl rfl)); have n3_ := Aside0.mk (hb); have n4_ := Aside0.mk (hi); clear BK325; clear BK339; clear HK; clear HB; clear HI1; have BK325 := n0_; have BK339 := n1_; have HK := n2_; have HB := n3_; have HI1 := n4_; clear n0_ n1_ n2_ n3_ n4_; (try clear hb); (try clear hb2); (try clear hk); (try clear hi); have hcz26_0 : w25.cell? ⟨gb339, 0, none⟩ = some (.string (⟨#[]⟩ : ByteArray)) := (blk_cell BK339.out 0).trans rfl; have hcz26_1 : w25.cell? ⟨gb339, 1, none⟩ = some (.int .u8 0) := (blk_cell BK339.out 1).trans rfl; have hcz26_2 : w25.cell? ⟨gb339, 2, none⟩ = some (.int .u8 0) := (blk_cell BK339.out 2).trans rfl; have hcz26_3 : w25.cell? ⟨gb339, 3, none⟩ = some (.int .u8 0) := (blk_cell BK339.out 3).trans rfl; have hcz26_4 : w25.cell? ⟨gb339, 4, none⟩ = some (.string (⟨#[]⟩ : ByteArray)) := (blk_cell BK339.out 4).trans rfl; have hcz26_5 : w25.cell? ⟨gb339, 5, none⟩ = some (.int .i64 t333) := (blk_cell BK339.out 5).trans rfl; have hfz26_0 := blk_frozen BK339.out 0; have hfz26_1 := blk_frozen BK339.out 1; have hfz26_2 := blk_frozen BK339.out 2; have hfz26_3 := blk_frozen BK339.out 3; have hfz26_4 := blk_frozen BK339.out 4; have hfz26_5 := blk_frozen BK339.out 5) | ((with_reducible refine gate_callee (f := 56) rfl ?_); refine goesL_ (some 39) rfl rfl Tryd.func56 (by kernel_rfl) rfl #[.pointer (some ⟨g, 0, none⟩), .int .i64 a0] rfl q_6 ?_; (with_reducible refine (frame_size.calls g t341 t342 t343 t344 t345 a0 t346 t347 t348 t349 t350 t351 w0 _ ?side1 ?side2 A18.out).mono ?_); (case side1 => repeat (first | (with_reducible first | exact HI1.out | apply IsS70.alloc | apply IsS70.drewN | apply IsS70.drew | apply IsS70.set_0 | apply IsS70.set_1 | apply IsS70.set_2 | apply IsS70.set_3 | apply IsS70.set_4 | refine IsS70.far ?_ NB1_325.out _ | apply IsS70.far (hne := NB1_325.out) | refine IsS70.far ?_ NB1_339.out _ | apply IsS70.far (hne := NB1_339.out)) | exact HI1.out)); (case side2 => repeat (first | (with_reducible first | exact HB.out | apply below_alloc | apply pw_below_drewN | apply below_drew1 | refine below_set ?_ (IsS70.ge HI1.out) | refine below_set ?_ GE325.out | refine below_set ?_ GE339.out) | exact HB.out)); rintro e w27 ⟨rfl, hi, hb, hk⟩; refine ⟨_, rfl, ?_⟩; have n0_ := Aside0.mk (KeepBut.blk hk (g' := gb325) (o := .cells #[.string (⟨#[]⟩ : ByteArray), .int .u8 0, .int .u8 0, .int .u8 0, .string (⟨#[]⟩ : ByteArray), .int .i64 0] 36 (0, 0)) q_47 NB325_1.out (by simp)); have n1_ := Aside0.mk (KeepBut.blk hk (g' := gb339) (o := .cells #[.string t340, .int .u8 0, .int .u8 0, .int .u8 0, .string (⟨#[]⟩ : ByteArray), .int .i64 t333] 36 (0, 0)) (by (with_reducible repeat (first | refine blk_drewN ?_ _ | refine blk_drew ?_ | refine blk_alloc ?_ _)); refine blk_put (cs := #[.string (⟨#[]⟩ : ByteArray), .int .u8 0, .int .u8 0, .int .u8 0, .string (⟨#[]⟩ : ByteArray), .int .i64 t333]) ?_ 0 _ rfl; (with_reducible repeat (first | refine blk_drewN ?_ _ | refine blk_drew ?_ | refine blk_alloc ?_ _)); exact BK339.out) NB339_1.out (by simp)); have n2_ := Aside0.mk (KeepBut.trans q_46 hk (.inl rfl)); have n3_ := Aside0.mk (hb); have n4_ := Aside0.mk (hi); clear BK325; clear BK339; clear HK; clear HB; clear HI1; have BK325 := n0_; have BK339 := n1_; have HK := n2_; have HB := n3_; have HI1 := n4_; clear n0_ n1_ n2_ n3_ n4_; (try clear hb); (try clear hb2); (try clear hk); (try clear hi)))
        (try simp only [Act.put, List.setIfInBounds_toArray, List.set_cons_zero, List.set_cons_succ])
        go_cut [] (fun wc => ∃ (kq : Nat) (x2000_18 : ByteArray) (x2001_18 : Int) (x2002_18 : Int) (x2003_18 : Int) (x2004_18 : Int) (x340001_18 : Int) (x340002_18 : Int), Aside0 (frame_Parse.j1 kq a0 a2 t346 x2000_18 x2001_18 x2002_18 x2003_18 x2004_18 t340 x340001_18 x340002_18 0 (⟨#[]⟩ : ByteArray) t333 = some (r1, r2, r3, r4, r5, r6, r7, r8, r9, r10, r11, r12)) ∧ Aside0 (kq ≤ kj4) ∧ Aside0 (wc.heap[gb325]? = some (.cells #[.string (⟨#[]⟩ : ByteArray), .int .u8 0, .int .u8 0, .int .u8 0, .string (⟨#[]⟩ : ByteArray), .int .i64 0] 36 (0, 0))) ∧ Aside0 (wc.heap[gb339]? = some (.cells #[.string t340, .int .u8 x340001_18, .int .u8 x340002_18, .int .u8 0, .string (⟨#[]⟩ : ByteArray), .int .i64 t333] 36 (0, 0))) ∧ Aside0 (IsS70 w0 wc g x2000_18 x2001_18 x2002_18 x2003_18 x2004_18) ∧ Aside0 (KeepBut w wc g none) ∧ Aside0 (Below w0.heap.size w0 wc))
        case first =>
          have H := HC19.out
          clear HC19
          by_cases c28 : a0 > 2
          · rw [if_pos c28] at H
            have c28b0 : decide (2 < a0) = true := decide_eq_true c28
            clear c28
            (first | rw [c28b0] | (simp only [i64_w, i32_w]; rw [c28b0]) | skip)
            replace H := Option.bind_eq_some_iff.mp H
            obtain ⟨⟨t352, t353, t354, t355, t356, t357⟩, A290, H⟩ := H
            replace H : ((octet_In_Big.f t353 t354 t355 t356 t357 1).bind fun bt358 => (frame_Parse.j1 kj4 a0 a2 t346 bt358.2.1 bt358.2.2.1 bt358.2.2.2.1 bt358.2.2.2.2.1 bt358.2.2.2.2.2 t340 ((t352) % 256) ((bt358.1) % 256) 0 (⟨#[]⟩ : ByteArray) t333)) = some (r1, r2, r3, r4, r5, r6, r7, r8, r9, r10, r11, r12) := H
            have A29 := Aside0.mk A290
            clear A290
            replace H := Option.bind_eq_some_iff.mp H
            obtain ⟨⟨t358, t359, t360, t361, t362, t363⟩, A300, H⟩ := H
            replace H : (frame_Parse.j1 kj4 a0 a2 t346 t359 t360 t361 t362 t363 t340 ((t352) % 256) ((t358) % 256) 0 (⟨#[]⟩ : ByteArray) t333) = some (r1, r2, r3, r4, r5, r6, r7, r8, r9, r10, r11, r12) := H
            have A30 := Aside0.mk A300
            clear A300
            have H' := Aside0.mk H
            clear H
            go_wp2_with (first | ((with_reducible refine gate_callee (f := 57) rfl ?_); refine goesL_ (some 43) rfl rfl Tryd.func57 (by kernel_rfl) rfl #[.pointer (some ⟨g, 0, none⟩), .int .i64 1] rfl q_6 ?_; (with_reducible refine (octet_In_Big.calls g t347 t348 t349 t350 t351 1 t352 t353 t354 t355 t356 t357 w0 _ ?side1 ?side2 A29.out).mono ?_); (case side1 => repeat (first | (with_reducible first | exact HI1.out | apply IsS70.alloc | apply IsS70.drewN | apply IsS70.drew | apply IsS70.set_0 | apply IsS70.set_1 | apply IsS70.set_2 | apply IsS70.set_3 | apply IsS70.set_4 | refine IsS70.far ?_ NB1_325.out _ | apply IsS70.far (hne := NB1_325.out) | refine IsS70.far ?_ NB1_339.out _ | apply IsS70.far (hne := NB1_339.out)) | exact HI1.out)); (case side2 => repeat (first | (with_reducible first | exact HB.out | apply below_alloc | apply pw_below_drewN | apply below_drew1 | refine below_set ?_ (IsS70.ge HI1.out) | refine below_set ?_ GE325.out | refine below_set ?_ GE339.out) | exact HB.out)); rintro e w31 ⟨rfl, hi, hb, hk⟩; refine ⟨_, rfl, ?_⟩; have n0_ := Aside0.mk (KeepBut.blk hk (g' := gb325) (o := .cells #[.string (⟨#[]⟩ : ByteArray), .int .u8 0, .int .u8 0, .int .u8 0, .string (⟨#[]⟩ : ByteArray), .int .i64 0] 36 (0, 0)) q_43 NB325_1.out (by simp)); have n1_ := Aside0.mk (KeepBut.blk hk (g' := gb339) (o := .cells #[.string t340, .int .u8 0, .int .u8 0, .int .u8 0, .string (⟨#[]⟩ : ByteArray), .int .i64 t333] 36 (0, 0)) q_48 NB339_1.out (by simp)); have n2_ := Aside0.mk (KeepBut.trans q_46 hk (.inl rfl)); have n3_ := Aside0.mk (hb); have n4_ := Aside0.mk (hi); clear BK325; clear BK339; clear HK; clear HB; clear HI1; have BK325 := n0_; have BK339 := n1_; have HK := n2_; have HB := n3_; have HI1 := n4_; clear n0_ n1_ n2_ n3_ n4_; (try clear hb); (try clear hb2); (try clear hk); (try clear hi)) | ((with_reducible refine gate_callee (f := 57) rfl ?_); refine goesL_ (some 46) rfl rfl Tryd.func57 (by kernel_rfl) rfl #[.pointer (some ⟨g, 0, none⟩), .int .i64 1] rfl q_6 ?_; (with_reducible refine (octet_In_Big.calls g t353 t354 t355 t356 t357 1 t358 t359 t360 t361 t362 t363 w0 _ ?side1 ?side2 A30.out).mono ?_); (case side1 => repeat (first | (with_reducible first | exact HI1.out | apply IsS70.alloc | apply IsS70.drewN | apply IsS70.drew | apply IsS70.set_0 | apply IsS70.set_1 | apply IsS70.set_2 | apply IsS70.set_3 | apply IsS70.set_4 | refine IsS70.far ?_ NB1_325.out _ | apply IsS70.far (hne := NB1_325.out) | refine IsS70.far ?_ NB1_339.out _ | apply IsS70.far (hne := NB1_339.out)) | exact HI1.out)); (case side2 => repeat (first | (with_reducible first | exact HB.out | apply below_alloc | apply pw_below_drewN | apply below_drew1 | refine below_set ?_ (IsS70.ge HI1.out) | refine below_set ?_ GE325.out | refine below_set ?_ GE339.out) | exact HB.out)); rintro e w32 ⟨rfl, hi, hb, hk⟩; refine ⟨_, rfl, ?_⟩; have n0_ := Aside0.mk (KeepBut.blk hk (g' := gb325) (o := .cells #[.string (⟨#[]⟩ : ByteArray), .int .u8 0, .int .u8 0, .int .u8 0, .string (⟨#[]⟩ : ByteArray), .int .i64 0] 36 (0, 0)) q_43 NB325_1.out (by simp)); have n1_ := Aside0.mk (KeepBut.blk hk (g' := gb339) (o := .cells #[.string t340, .int .u8 0, .int .u8 0, .int .u8 0, .string (⟨#[]⟩ : ByteArray), .int .i64 t333] 36 (0, 0)) q_48 NB339_1.out (by simp)); have n2_ := Aside0.mk (KeepBut.trans q_46 hk (.inl rfl)); have n3_ := Aside0.mk (hb); have n4_ := Aside0.mk (hi); clear BK325; clear BK339; clear HK; clear HB; clear HI1; have BK325 := n0_; have BK339 := n1_; have HK := n2_; have HB := n3_; have HI1 := n4_; clear n0_ n1_ n2_ n3_ n4_; (try clear hb); (try clear hb2); (try clear hk); (try clear hi); have hnb33 := NB339_325.out; have hnc33 := NB325_339.out; have hnb34 := NB339_1.out; have hnc34 := NB1_339.out; have hcz35_0 : w32.cell? ⟨gb339, 0, none⟩ = some (.string t340) := (blk_cell BK339.out 0).trans rfl; have hcz35_1 : w32.cell? ⟨gb339, 1, none⟩ = some (.int .u8 0) := (blk_cell BK339.out 1).trans rfl; have hcz35_2 : w32.cell? ⟨gb339, 2, none⟩ = some (.int .u8 0) := (blk_cell BK339.out 2).trans rfl; have hcz35_3 : w32.cell? ⟨gb339, 3, none⟩ = some (.int .u8 0) := (blk_cell BK339.out 3).trans rfl; have hcz35_4 : w32.cell? ⟨gb339, 4, none⟩ = some (.string (⟨#[]⟩ : ByteArray)) := (blk_cell BK339.out 4).trans rfl; have hcz35_5 : w32.cell? ⟨gb339, 5, none⟩ = some (.int .i64 t333) := (blk_cell BK339.out 5).trans rfl; have hfz35_0 := blk_frozen BK339.out 0; have hfz35_1 := blk_frozen BK339.out 1; have hfz35_2 := blk_frozen BK339.out 2; have hfz35_3 := blk_frozen BK339.out 3; have hfz35_4 := blk_frozen BK339.out 4; have hfz35_5 := blk_frozen BK339.out 5))
            go_meet
            case rel => exact ⟨_, (t359), (t360), (t361), (t362), (t363), ((t352) % 256), ((t358) % 256), H', ⟨by have := HJ4.out; first | omega | exact Nat.le_refl _⟩, ⟨by (with_reducible repeat (first | refine blk_drewN ?_ _ | refine blk_drew ?_ | refine blk_alloc ?_ _)); refine blk_far ?_ NB325_339.out _; (with_reducible repeat (first | refine blk_drewN ?_ _ | refine blk_drew ?_ | refine blk_alloc ?_ _)); refine blk_far ?_ NB325_339.out _; (with_reducible repeat (first | refine blk_drewN ?_ _ | refine blk_drew ?_ | refine blk_alloc ?_ _)); exact BK325.out⟩, ⟨by (with_reducible repeat (first | refine blk_drewN ?_ _ | refine blk_drew ?_ | refine blk_alloc ?_ _)); refine blk_put (cs := #[.string t340, .int .u8 ((t352) % 256), .int .u8 0, .int .u8 0, .string (⟨#[]⟩ : ByteArray), .int .i64 t333]) ?_ 2 _ rfl; (with_reducible repeat (first | refine blk_drewN ?_ _ | refine blk_drew ?_ | refine blk_alloc ?_ _)); refine blk_put (cs := #[.string t340, .int .u8 0, .int .u8 0, .int .u8 0, .string (⟨#[]⟩ : ByteArray), .int .i64 t333]) ?_ 1 _ rfl; (with_reducible repeat (first | refine blk_drewN ?_ _ | refine blk_drew ?_ | refine blk_alloc ?_ _)); exact BK339.out⟩, ⟨by repeat (first | (with_reducible first | exact HI1.out | apply IsS70.alloc | apply IsS70.drewN | apply IsS70.drew | apply IsS70.set_0 | apply IsS70.set_1 | apply IsS70.set_2 | apply IsS70.set_3 | apply IsS70.set_4 | refine IsS70.far ?_ NB1_325.out _ | apply IsS70.far (hne := NB1_325.out) | refine IsS70.far ?_ NB1_339.out _ | apply IsS70.far (hne := NB1_339.out)) | exact HI1.out)⟩, ⟨by repeat (first | (with_reducible first | exact HK.out | apply KeepBut.set_ | apply keep_drewN | apply keep_drew | apply keep_alloc | refine keep_far ?_ GW325.out _ | refine keep_far ?_ GW339.out _) | exact HK.out)⟩, ⟨by repeat (first | (with_reducible first | exact HB.out | apply below_alloc | apply pw_below_drewN | apply below_drew1 | refine below_set ?_ (IsS70.ge HI1.out) | refine below_set ?_ GE325.out | refine below_set ?_ GE339.out) | exact HB.out)⟩⟩
          · rw [if_neg c28] at H
            have c28b0 : decide (2 < a0) = false := decide_eq_false c28
            clear c28
            (first | rw [c28b0] | (simp only [i64_w, i32_w]; rw [c28b0]) | skip)
            have H' := Aside0.mk H
            clear H
            go_wp2
            go_meet
            case rel => exact ⟨_, (t347), (t348), (t349), (t350), (t351), (0), (0), H', ⟨by have := HJ4.out; first | omega | exact Nat.le_refl _⟩, ⟨by (with_reducible repeat (first | refine blk_drewN ?_ _ | refine blk_drew ?_ | refine blk_alloc ?_ _)); exact BK325.out⟩, ⟨by (with_reducible repeat (first | refine blk_drewN ?_ _ | refine blk_drew ?_ | refine blk_alloc ?_ _)); exact BK339.out⟩, ⟨by repeat (first | (with_reducible first | exact HI1.out | apply IsS70.alloc | apply IsS70.drewN | apply IsS70.drew | apply IsS70.set_0 | apply IsS70.set_1 | apply IsS70.set_2 | apply IsS70.set_3 | apply IsS70.set_4 | refine IsS70.far ?_ NB1_325.out _ | apply IsS70.far (hne := NB1_325.out) | refine IsS70.far ?_ NB1_339.out _ | apply IsS70.far (hne := NB1_339.out)) | exact HI1.out)⟩, ⟨by repeat (first | (with_reducible first | exact HK.out | apply KeepBut.set_ | apply keep_drewN | apply keep_drew | apply keep_alloc | refine keep_far ?_ GW325.out _ | refine keep_far ?_ GW339.out _) | exact HK.out)⟩, ⟨by repeat (first | (with_reducible first | exact HB.out | apply below_alloc | apply pw_below_drewN | apply below_drew1 | refine below_set ?_ (IsS70.ge HI1.out) | refine below_set ?_ GE325.out | refine below_set ?_ GE339.out) | exact HB.out)⟩⟩
        case rest =>
          clear HC19
          try clear c1
          try clear p1
          try clear q1
          try clear hx1
          try clear qi1
          try clear c2
          try clear p2
          try clear c3
          try clear c5
          try clear c8
          try clear c8b0
          try clear c8b1
          try clear c9
          try clear c9b0
          try clear c9b1
          try clear p10
          try clear q10
          try clear hx10
          try clear qi10
          try clear c11
          try clear c11b0
          try clear c11b1
          try clear c13
          try clear c14
          try clear c22
          try clear c23
          try clear c28
          try clear c28b0
          try clear c33
          try clear c34
          try clear hcz15_0
          try clear hcz15_1
          try clear hcz15_2
          try clear hcz15_3
          try clear hcz15_4
          try clear hcz15_5
          try clear hcz24_0
          try clear hcz24_1
          try clear hcz24_2
          try clear hcz24_3
          try clear hcz24_4
          try clear hcz24_5
          try clear hcz26_0
          try clear hcz26_1
          try clear hcz26_2
          try clear hcz26_3
          try clear hcz26_4
          try clear hcz26_5
          try clear hcz35_0
          try clear hcz35_1
          try clear hcz35_2
          try clear hcz35_3
          try clear hcz35_4
          try clear hcz35_5
          try clear hfz15_0
          try clear hfz15_1
          try clear hfz15_2
          try clear hfz15_3
          try clear hfz15_4
          try clear hfz15_5
          try clear hfz24_0
          try clear hfz24_1
          try clear hfz24_2
          try clear hfz24_3
          try clear hfz24_4
          try clear hfz24_5
          try clear hfz26_0
          try clear hfz26_1
          try clear hfz26_2
          try clear hfz26_3
          try clear hfz26_4
          try clear hfz26_5
          try clear hfz35_0
          try clear hfz35_1
          try clear hfz35_2
          try clear hfz35_3
          try clear hfz35_4
          try clear hfz35_5
          try clear p1
          try clear p10
          try clear p2
          try clear q1
          try clear q10
          obtain ⟨kq, x2000_18, x2001_18, x2002_18, x2003_18, x2004_18, x340001_18, x340002_18, HA, HJ18, BK325, BK339, HI1, HK, HB⟩ := hcut
          cases kq with
          | zero => exact absurd HA.out (by simp [frame_Parse.j1])
          | succ kj18 =>
            have H := HA.out
            clear HA
            simp only [frame_Parse.j1] at H
            have HC36 := Aside0.mk H
            clear H
            go_upto_region 9 with (fail)
            go_cut [56] (fun v56 wc => ∃ (kq : Nat) (x56_35 : Bool), v56 = .bool x56_35 ∧ Aside0 (frame_Parse.j2 kq a0 t346 x56_35 x2000_18 x2001_18 x2002_18 x2003_18 x2004_18 t340 x340001_18 x340002_18 0 (⟨#[]⟩ : ByteArray) t333 = some (r1, r2, r3, r4, r5, r6, r7, r8, r9, r10, r11, r12)) ∧ Aside0 (kq ≤ kj18) ∧ Aside0 (wc.heap[gb325]? = some (.cells #[.string (⟨#[]⟩ : ByteArray), .int .u8 0, .int .u8 0, .int .u8 0, .string (⟨#[]⟩ : ByteArray), .int .i64 0] 36 (0, 0))) ∧ Aside0 (wc.heap[gb339]? = some (.cells #[.string t340, .int .u8 x340001_18, .int .u8 x340002_18, .int .u8 0, .string (⟨#[]⟩ : ByteArray), .int .i64 t333] 36 (0, 0))) ∧ Aside0 (IsS70 w0 wc g x2000_18 x2001_18 x2002_18 x2003_18 x2004_18) ∧ Aside0 (KeepBut w wc g none) ∧ Aside0 (Below w0.heap.size w0 wc))
            case first =>
              have H := HC36.out
              clear HC36
              by_cases c37 : a0 = 4
              · rw [if_pos c37] at H
                have c37b0 : (a0 == 4) = true := beq_iff_eq.mpr c37
                have c37b1 : (a0 != 4) = false := bne_eq_false_iff_eq.mpr c37
                clear c37
                (first | rw [c37b0] | (simp only [i64_w, i32_w]; rw [c37b0]) | skip)
                have H' := Aside0.mk H
                clear H
                go_wp2
                go_meet
                case rel => exact ⟨_, (a2), q_1, H', ⟨by have := HJ4.out; have := HJ18.out; first | omega | exact Nat.le_refl _⟩, ⟨by (with_reducible repeat (first | refine blk_drewN ?_ _ | refine blk_drew ?_ | refine blk_alloc ?_ _)); exact BK325.out⟩, ⟨by (with_reducible repeat (first | refine blk_drewN ?_ _ | refine blk_drew ?_ | refine blk_alloc ?_ _)); exact BK339.out⟩, ⟨by repeat (first | (with_reducible first | exact HI1.out | apply IsS70.alloc | apply IsS70.drewN | apply IsS70.drew | apply IsS70.set_0 | apply IsS70.set_1 | apply IsS70.set_2 | apply IsS70.set_3 | apply IsS70.set_4 | refine IsS70.far ?_ NB1_325.out _ | apply IsS70.far (hne := NB1_325.out) | refine IsS70.far ?_ NB1_339.out _ | apply IsS70.far (hne := NB1_339.out)) | exact HI1.out)⟩, ⟨by repeat (first | (with_reducible first | exact HK.out | apply KeepBut.set_ | apply keep_drewN | apply keep_drew | apply keep_alloc | refine keep_far ?_ GW325.out _ | refine keep_far ?_ GW339.out _) | exact HK.out)⟩, ⟨by repeat (first | (with_reducible first | exact HB.out | apply below_alloc | apply pw_below_drewN | apply below_drew1 | refine below_set ?_ (IsS70.ge HI1.out) | refine below_set ?_ GE325.out | refine below_set ?_ GE339.out) | exact HB.out)⟩⟩
              · rw [if_neg c37] at H
                have c37b0 : (a0 == 4) = false := beq_eq_false_iff_ne.mpr c37
                have c37b1 : (a0 != 4) = true := bne_iff_ne.mpr c37
                (first | rw [c37b0] | (simp only [i64_w, i32_w]; rw [c37b0]) | skip)
                have H' := Aside0.mk H
                clear H
                go_wp2
                go_meet
                case rel => exact ⟨_, (false), q_1, H', ⟨by have := HJ4.out; have := HJ18.out; first | omega | exact Nat.le_refl _⟩, ⟨by (with_reducible repeat (first | refine blk_drewN ?_ _ | refine blk_drew ?_ | refine blk_alloc ?_ _)); exact BK325.out⟩, ⟨by (with_reducible repeat (first | refine blk_drewN ?_ _ | refine blk_drew ?_ | refine blk_alloc ?_ _)); exact BK339.out⟩, ⟨by repeat (first | (with_reducible first | exact HI1.out | apply IsS70.alloc | apply IsS70.drewN | apply IsS70.drew | apply IsS70.set_0 | apply IsS70.set_1 | apply IsS70.set_2 | apply IsS70.set_3 | apply IsS70.set_4 | refine IsS70.far ?_ NB1_325.out _ | apply IsS70.far (hne := NB1_325.out) | refine IsS70.far ?_ NB1_339.out _ | apply IsS70.far (hne := NB1_339.out)) | exact HI1.out)⟩, ⟨by repeat (first | (with_reducible first | exact HK.out | apply KeepBut.set_ | apply keep_drewN | apply keep_drew | apply keep_alloc | refine keep_far ?_ GW325.out _ | refine keep_far ?_ GW339.out _) | exact HK.out)⟩, ⟨by repeat (first | (with_reducible first | exact HB.out | apply below_alloc | apply pw_below_drewN | apply below_drew1 | refine below_set ?_ (IsS70.ge HI1.out) | refine below_set ?_ GE325.out | refine below_set ?_ GE339.out) | exact HB.out)⟩⟩
            case rest =>
              clear HC36
              try clear c1
              try clear p1
              try clear q1
              try clear hx1
              try clear qi1
              try clear c2
              try clear p2
              try clear c3
              try clear c5
              try clear c8
              try clear c8b0
              try clear c8b1
              try clear c9
              try clear c9b0
              try clear c9b1
              try clear p10
              try clear q10
              try clear hx10
              try clear qi10
              try clear c11
              try clear c11b0
              try clear c11b1
              try clear c13
              try clear c14
              try clear c22
              try clear c23
              try clear c28
              try clear c28b0
              try clear c33
              try clear c34
              try clear c36
              try clear c37
              try clear c37b0
              try clear c37b1
              try clear hcz15_0
              try clear hcz15_1
              try clear hcz15_2
              try clear hcz15_3
              try clear hcz15_4
              try clear hcz15_5
              try clear hcz24_0
              try clear hcz24_1
              try clear hcz24_2
              try clear hcz24_3
              try clear hcz24_4
              try clear hcz24_5
              try clear hcz26_0
              try clear hcz26_1
              try clear hcz26_2
              try clear hcz26_3
              try clear hcz26_4
              try clear hcz26_5
              try clear hcz35_0
              try clear hcz35_1
              try clear hcz35_2
              try clear hcz35_3
              try clear hcz35_4
              try clear hcz35_5
              try clear hfz15_0
              try clear hfz15_1
              try clear hfz15_2
              try clear hfz15_3
              try clear hfz15_4
              try clear hfz15_5
              try clear hfz24_0
              try clear hfz24_1
              try clear hfz24_2
              try clear hfz24_3
              try clear hfz24_4
              try clear hfz24_5
              try clear hfz26_0
              try clear hfz26_1
              try clear hfz26_2
              try clear hfz26_3
              try clear hfz26_4
              try clear hfz26_5
              try clear hfz35_0
              try clear hfz35_1
              try clear hfz35_2
              try clear hfz35_3
              try clear hfz35_4
              try clear hfz35_5
              try clear p1
              try clear p10
              try clear p2
              try clear q1
              try clear q10
              obtain ⟨kq, x56_35, rfl, HA, HJ35, BK325, BK339, HI1, HK, HB⟩ := hcut
              cases kq with
              | zero => exact absurd HA.out (by simp [frame_Parse.j2])
              | succ kj35 =>
                have H := HA.out
                clear HA
                simp only [frame_Parse.j2] at H
                have HC38 := Aside0.mk H
                clear H
                go_upto_if 56 with (fail)
                go_cut [] (fun wc => ∃ (kq : Nat) (x340002_37 : Int), Aside0 (frame_Parse.j3 kq a0 t346 x2000_18 x2001_18 x2002_18 x2003_18 x2004_18 t340 x340001_18 x340002_37 0 (⟨#[]⟩ : ByteArray) t333 = some (r1, r2, r3, r4, r5, r6, r7, r8, r9, r10, r11, r12)) ∧ Aside0 (kq ≤ kj35) ∧ Aside0 (wc.heap[gb325]? = some (.cells #[.string (⟨#[]⟩ : ByteArray), .int .u8 0, .int .u8 0, .int .u8 0, .string (⟨#[]⟩ : ByteArray), .int .i64 0] 36 (0, 0))) ∧ Aside0 (wc.heap[gb339]? = some (.cells #[.string t340, .int .u8 x340001_18, .int .u8 x340002_37, .int .u8 0, .string (⟨#[]⟩ : ByteArray), .int .i64 t333] 36 (0, 0))) ∧ Aside0 (IsS70 w0 wc g x2000_18 x2001_18 x2002_18 x2003_18 x2004_18) ∧ Aside0 (KeepBut w wc g none) ∧ Aside0 (Below w0.heap.size w0 wc))
                case first =>
                  have H := HC38.out
                  clear HC38
                  by_cases c39 : x56_35 = true
                  · subst c39
                    have H1 : (frame_Parse.j3 kj35 a0 t346 x2000_18 x2001_18 x2002_18 x2003_18 x2004_18 t340 x340001_18 (Go.bits .or .u8 x340002_18 2) 0 (⟨#[]⟩ : ByteArray) t333) = some (r1, r2, r3, r4, r5, r6, r7, r8, r9, r10, r11, r12) := by rw [if_pos rfl] at H; exact H
                    clear H
                    have H := H1
                    clear H1
                    have H' := Aside0.mk H
                    clear H
                    have hnb40 := NB339_325.out
                    have hnc40 := NB325_339.out
                    have hnb41 := NB339_1.out
                    have hnc41 := NB1_339.out
                    have hcz42_0 : wc.cell? ⟨gb339, 0, none⟩ = some (.string t340) := (blk_cell BK339.out 0).trans rfl
                    have hcz42_1 : wc.cell? ⟨gb339, 1, none⟩ = some (.int .u8 x340001_18) := (blk_cell BK339.out 1).trans rfl
                    have hcz42_2 : wc.cell? ⟨gb339, 2, none⟩ = some (.int .u8 x340002_18) := (blk_cell BK339.out 2).trans rfl
                    have hcz42_3 : wc.cell? ⟨gb339, 3, none⟩ = some (.int .u8 0) := (blk_cell BK339.out 3).trans rfl
                    have hcz42_4 : wc.cell? ⟨gb339, 4, none⟩ = some (.string (⟨#[]⟩ : ByteArray)) := (blk_cell BK339.out 4).trans rfl
                    have hcz42_5 : wc.cell? ⟨gb339, 5, none⟩ = some (.int .i64 t333) := (blk_cell BK339.out 5).trans rfl
                    have hfz42_0 := blk_frozen BK339.out 0
                    have hfz42_1 := blk_frozen BK339.out 1
                    have hfz42_2 := blk_frozen BK339.out 2
                    have hfz42_3 := blk_frozen BK339.out 3
                    have hfz42_4 := blk_frozen BK339.out 4
                    have hfz42_5 := blk_frozen BK339.out 5
                    go_wp2
                    go_meet
                    case rel => exact ⟨_, (Go.bits .or .u8 x340002_18 2), H', ⟨by have := HJ4.out; have := HJ18.out; have := HJ35.out; first | omega | exact Nat.le_refl _⟩, ⟨by (with_reducible repeat (first | refine blk_drewN ?_ _ | refine blk_drew ?_ | refine blk_alloc ?_ _)); refine blk_far ?_ NB325_339.out _; (with_reducible repeat (first | refine blk_drewN ?_ _ | refine blk_drew ?_ | refine blk_alloc ?_ _)); exact BK325.out⟩, ⟨by (with_reducible repeat (first | refine blk_drewN ?_ _ | refine blk_drew ?_ | refine blk_alloc ?_ _)); refine blk_put (cs := #[.string t340, .int .u8 x340001_18, .int .u8 x340002_18, .int .u8 0, .string (⟨#[]⟩ : ByteArray), .int .i64 t333]) ?_ 2 _ rfl; (with_reducible repeat (first | refine blk_drewN ?_ _ | refine blk_drew ?_ | refine blk_alloc ?_ _)); exact BK339.out⟩, ⟨by repeat (first | (with_reducible first | exact HI1.out | apply IsS70.alloc | apply IsS70.drewN | apply IsS70.drew | apply IsS70.set_0 | apply IsS70.set_1 | apply IsS70.set_2 | apply IsS70.set_3 | apply IsS70.set_4 | refine IsS70.far ?_ NB1_325.out _ | apply IsS70.far (hne := NB1_325.out) | refine IsS70.far ?_ NB1_339.out _ | apply IsS70.far (hne := NB1_339.out)) | exact HI1.out)⟩, ⟨by repeat (first | (with_reducible first | exact HK.out | apply KeepBut.set_ | apply keep_drewN | apply keep_drew | apply keep_alloc | refine keep_far ?_ GW325.out _ | refine keep_far ?_ GW339.out _) | exact HK.out)⟩, ⟨by repeat (first | (with_reducible first | exact HB.out | apply below_alloc | apply pw_below_drewN | apply below_drew1 | refine below_set ?_ (IsS70.ge HI1.out) | refine below_set ?_ GE325.out | refine below_set ?_ GE339.out) | exact HB.out)⟩⟩
                  · replace c39 := Bool.eq_false_iff.mpr c39
                    subst c39
                    have H1 : (frame_Parse.j3 kj35 a0 t346 x2000_18 x2001_18 x2002_18 x2003_18 x2004_18 t340 x340001_18 x340002_18 0 (⟨#[]⟩ : ByteArray) t333) = some (r1, r2, r3, r4, r5, r6, r7, r8, r9, r10, r11, r12) := by rw [if_neg (show ¬ (false = true) by decide)] at H; exact H
                    clear H
                    have H := H1
                    clear H1
                    have H' := Aside0.mk H
                    clear H
                    go_wp2
                    go_meet
                    case rel => exact ⟨_, (x340002_18), H', ⟨by have := HJ4.out; have := HJ18.out; have := HJ35.out; first | omega | exact Nat.le_refl _⟩, ⟨by (with_reducible repeat (first | refine blk_drewN ?_ _ | refine blk_drew ?_ | refine blk_alloc ?_ _)); exact BK325.out⟩, ⟨by (with_reducible repeat (first | refine blk_drewN ?_ _ | refine blk_drew ?_ | refine blk_alloc ?_ _)); exact BK339.out⟩, ⟨by repeat (first | (with_reducible first | exact HI1.out | apply IsS70.alloc | apply IsS70.drewN | apply IsS70.drew | apply IsS70.set_0 | apply IsS70.set_1 | apply IsS70.set_2 | apply IsS70.set_3 | apply IsS70.set_4 | refine IsS70.far ?_ NB1_325.out _ | apply IsS70.far (hne := NB1_325.out) | refine IsS70.far ?_ NB1_339.out _ | apply IsS70.far (hne := NB1_339.out)) | exact HI1.out)⟩, ⟨by repeat (first | (with_reducible first | exact HK.out | apply KeepBut.set_ | apply keep_drewN | apply keep_drew | apply keep_alloc | refine keep_far ?_ GW325.out _ | refine keep_far ?_ GW339.out _) | exact HK.out)⟩, ⟨by repeat (first | (with_reducible first | exact HB.out | apply below_alloc | apply pw_below_drewN | apply below_drew1 | refine below_set ?_ (IsS70.ge HI1.out) | refine below_set ?_ GE325.out | refine below_set ?_ GE339.out) | exact HB.out)⟩⟩
                case rest =>
                  clear HC38
                  try clear c1
                  try clear p1
                  try clear q1
                  try clear hx1
                  try clear qi1
                  try clear c2
                  try clear p2
                  try clear c3
                  try clear c4
                  try clear c5
                  try clear c8
                  try clear c8b0
                  try clear c8b1
                  try clear c9
                  try clear c9b0
                  try clear c9b1
                  try clear p10
                  try clear q10
                  try clear hx10
                  try clear qi10
                  try clear c11
                  try clear c11b0
                  try clear c11b1
                  try clear c13
                  try clear c14
                  try clear c22
                  try clear c23
                  try clear c28
                  try clear c28b0
                  try clear c33
                  try clear c34
                  try clear c36
                  try clear c37
                  try clear c37b0
                  try clear c37b1
                  try clear c39
                  try clear c40
                  try clear c41
                  try clear hcz15_0
                  try clear hcz15_1
                  try clear hcz15_2
                  try clear hcz15_3
                  try clear hcz15_4
                  try clear hcz15_5
                  try clear hcz24_0
                  try clear hcz24_1
                  try clear hcz24_2
                  try clear hcz24_3
                  try clear hcz24_4
                  try clear hcz24_5
                  try clear hcz26_0
                  try clear hcz26_1
                  try clear hcz26_2
                  try clear hcz26_3
                  try clear hcz26_4
                  try clear hcz26_5
                  try clear hcz35_0
                  try clear hcz35_1
                  try clear hcz35_2
                  try clear hcz35_3
                  try clear hcz35_4
                  try clear hcz35_5
                  try clear hcz42_0
                  try clear hcz42_1
                  try clear hcz42_2
                  try clear hcz42_3
                  try clear hcz42_4
                  try clear hcz42_5
                  try clear hfz15_0
                  try clear hfz15_1
                  try clear hfz15_2
                  try clear hfz15_3
                  try clear hfz15_4
                  try clear hfz15_5
                  try clear hfz24_0
                  try clear hfz24_1
                  try clear hfz24_2
                  try clear hfz24_3
                  try clear hfz24_4
                  try clear hfz24_5
                  try clear hfz26_0
                  try clear hfz26_1
                  try clear hfz26_2
                  try clear hfz26_3
                  try clear hfz26_4
                  try clear hfz26_5
                  try clear hfz35_0
                  try clear hfz35_1
                  try clear hfz35_2
                  try clear hfz35_3
                  try clear hfz35_4
                  try clear hfz35_5
                  try clear hfz42_0
                  try clear hfz42_1
                  try clear hfz42_2
                  try clear hfz42_3
                  try clear hfz42_4
                  try clear hfz42_5
                  try clear p1
                  try clear p10
                  try clear p2
                  try clear q1
                  try clear q10
                  obtain ⟨kq, x340002_37, HA, HJ37, BK325, BK339, HI1, HK, HB⟩ := hcut
                  cases kq with
                  | zero => exact absurd HA.out (by simp [frame_Parse.j3])
                  | succ kj37 =>
                    have H := HA.out
                    clear HA
                    simp only [frame_Parse.j3] at H
                    replace H := Option.bind_eq_some_iff.mp H
                    obtain ⟨⟨t364, t365, t366, t367, t368, t369⟩, A430, H⟩ := H
                    replace H : ((octet_In_Take.f t365 t366 t367 t368 t369 t346).bind fun bt370 => ((octet_In_Fault.f bt370.2.1 bt370.2.2.1 bt370.2.2.2.1 bt370.2.2.2.2.1 bt370.2.2.2.2.2).bind fun bt376 => ((api_Fault_Bad.f bt376.1 bt376.2.1).bind fun t383 => (if t383 = true then (some ((⟨#[]⟩ : ByteArray), 0, 0, 0, (⟨#[]⟩ : ByteArray), 0, false, bt376.2.2.1, bt376.2.2.2.1, bt376.2.2.2.2.1, bt376.2.2.2.2.2.1, bt376.2.2.2.2.2.2)) else ((frame_Head_Locked.f t340 x340001_18 x340002_37 a0).bind fun t384 => (if t384 = true then (some (t340, x340001_18, x340002_37, 0, bt370.1, t333, true, bt376.2.2.1, bt376.2.2.2.1, bt376.2.2.2.2.1, bt376.2.2.2.2.2.1, bt376.2.2.2.2.2.2)) else ((frame_Frame_content.f kj37 t340 x340001_18 x340002_37 0 bt370.1 t333 a0 bt370.1 t364).bind fun bt385 => ((api_Fault_Bad.f bt385.1 bt385.2.1).bind fun t394 => (if t394 = true then ((octet_In_Fail.f bt376.2.2.1 bt376.2.2.2.1 bt376.2.2.2.2.1 bt376.2.2.2.2.2.1 bt376.2.2.2.2.2.2 bt385.1 bt385.2.1).bind fun bt395 => (some ((⟨#[]⟩ : ByteArray), 0, 0, 0, (⟨#[]⟩ : ByteArray), 0, false, bt395.1, bt395.2.1, bt395.2.2.1, bt395.2.2.2.1, bt395.2.2.2.2))) else (some (bt385.2.2.1, bt385.2.2.2.1, bt385.2.2.2.2.1, bt385.2.2.2.2.2.1, bt385.2.2.2.2.2.2.1, bt385.2.2.2.2.2.2.2, true, bt376.2.2.1, bt376.2.2.2.1, bt376.2.2.2.2.1, bt376.2.2.2.2.2.1, bt376.2.2.2.2.2.2))))))))))) = some (r1, r2, r3, r4, r5, r6, r7, r8, r9, r10, r11, r12) := H
                    have A43 := Aside0.mk A430
                    clear A430
                    replace H := Option.bind_eq_some_iff.mp H
                    obtain ⟨⟨t370, t371, t372, t373, t374, t375⟩, A440, H⟩ := H
                    replace H : ((octet_In_Fault.f t371 t372 t373 t374 t375).bind fun bt376 => ((api_Fault_Bad.f bt376.1 bt376.2.1).bind fun t383 => (if t383 = true then (some ((⟨#[]⟩ : ByteArray), 0, 0, 0, (⟨#[]⟩ : ByteArray), 0, false, bt376.2.2.1, bt376.2.2.2.1, bt376.2.2.2.2.1, bt376.2.2.2.2.2.1, bt376.2.2.2.2.2.2)) else ((frame_Head_Locked.f t340 x340001_18 x340002_37 a0).bind fun t384 => (if t384 = true then (some (t340, x340001_18, x340002_37, 0, t370, t333, true, bt376.2.2.1, bt376.2.2.2.1, bt376.2.2.2.2.1, bt376.2.2.2.2.2.1, bt376.2.2.2.2.2.2)) else ((frame_Frame_content.f kj37 t340 x340001_18 x340002_37 0 t370 t333 a0 t370 t364).bind fun bt385 => ((api_Fault_Bad.f bt385.1 bt385.2.1).bind fun t394 => (if t394 = true then ((octet_In_Fail.f bt376.2.2.1 bt376.2.2.2.1 bt376.2.2.2.2.1 bt376.2.2.2.2.2.1 bt376.2.2.2.2.2.2 bt385.1 bt385.2.1).bind fun bt395 => (some ((⟨#[]⟩ : ByteArray), 0, 0, 0, (⟨#[]⟩ : ByteArray), 0, false, bt395.1, bt395.2.1, bt395.2.2.1, bt395.2.2.2.1, bt395.2.2.2.2))) else (some (bt385.2.2.1, bt385.2.2.2.1, bt385.2.2.2.2.1, bt385.2.2.2.2.2.1, bt385.2.2.2.2.2.2.1, bt385.2.2.2.2.2.2.2, true, bt376.2.2.1, bt376.2.2.2.1, bt376.2.2.2.2.1, bt376.2.2.2.2.2.1, bt376.2.2.2.2.2.2)))))))))) = some (r1, r2, r3, r4, r5, r6, r7, r8, r9, r10, r11, r12) := H
                    have A44 := Aside0.mk A440
                    clear A440
                    replace H := Option.bind_eq_some_iff.mp H
                    obtain ⟨⟨t376, t377, t378, t379, t380, t381, t382⟩, A450, H⟩ := H
                    replace H : ((api_Fault_Bad.f t376 t377).bind fun t383 => (if t383 = true then (some ((⟨#[]⟩ : ByteArray), 0, 0, 0, (⟨#[]⟩ : ByteArray), 0, false, t378, t379, t380, t381, t382)) else ((frame_Head_Locked.f t340 x340001_18 x340002_37 a0).bind fun t384 => (if t384 = true then (some (t340, x340001_18, x340002_37, 0, t370, t333, true, t378, t379, t380, t381, t382)) else ((frame_Frame_content.f kj37 t340 x340001_18 x340002_37 0 t370 t333 a0 t370 t364).bind fun bt385 => ((api_Fault_Bad.f bt385.1 bt385.2.1).bind fun t394 => (if t394 = true then ((octet_In_Fail.f t378 t379 t380 t381 t382 bt385.1 bt385.2.1).bind fun bt395 => (some ((⟨#[]⟩ : ByteArray), 0, 0, 0, (⟨#[]⟩ : ByteArray), 0, false, bt395.1, bt395.2.1, bt395.2.2.1, bt395.2.2.2.1, bt395.2.2.2.2))) else (some (bt385.2.2.1, bt385.2.2.2.1, bt385.2.2.2.2.1, bt385.2.2.2.2.2.1, bt385.2.2.2.2.2.2.1, bt385.2.2.2.2.2.2.2, true, t378, t379, t380, t381, t382))))))))) = some (r1, r2, r3, r4, r5, r6, r7, r8, r9, r10, r11, r12) := H
                    have A45 := Aside0.mk A450
                    clear A450
                    replace H := Option.bind_eq_some_iff.mp H
                    obtain ⟨t383, A460, H⟩ := H
                    replace H : (if t383 = true then (some ((⟨#[]⟩ : ByteArray), 0, 0, 0, (⟨#[]⟩ : ByteArray), 0, false, t378, t379, t380, t381, t382)) else ((frame_Head_Locked.f t340 x340001_18 x340002_37 a0).bind fun t384 => (if t384 = true then (some (t340, x340001_18, x340002_37, 0, t370, t333, true, t378, t379, t380, t381, t382)) else ((frame_Frame_content.f kj37 t340 x340001_18 x340002_37 0 t370 t333 a0 t370 t364).bind fun bt385 => ((api_Fault_Bad.f bt385.1 bt385.2.1).bind fun t394 => (if t394 = true then ((octet_In_Fail.f t378 t379 t380 t381 t382 bt385.1 bt385.2.1).bind fun bt395 => (some ((⟨#[]⟩ : ByteArray), 0, 0, 0, (⟨#[]⟩ : ByteArray), 0, false, bt395.1, bt395.2.1, bt395.2.2.1, bt395.2.2.2.1, bt395.2.2.2.2))) else (some (bt385.2.2.1, bt385.2.2.2.1, bt385.2.2.2.2.1, bt385.2.2.2.2.2.1, bt385.2.2.2.2.2.2.1, bt385.2.2.2.2.2.2.2, true, t378, t379, t380, t381, t382)))))))) = some (r1, r2, r3, r4, r5, r6, r7, r8, r9, r10, r11, r12) := H
                    have A46 := Aside0.mk A460
                    clear A460
                    by_cases c47 : t383 = true
                    · subst c47
                      have H1 : (some ((⟨#[]⟩ : ByteArray), 0, 0, 0, (⟨#[]⟩ : ByteArray), 0, false, t378, t379, t380, t381, t382)) = some (r1, r2, r3, r4, r5, r6, r7, r8, r9, r10, r11, r12) := by rw [if_pos rfl] at H; exact H
                      clear H
                      have H := H1
                      clear H1
                      simp only [Option.some.injEq, Prod.mk.injEq] at H
                      obtain ⟨rfl, rfl, rfl, rfl, rfl, rfl, rfl, rfl, rfl, rfl, rfl, rfl⟩ := H
                      go_wp2_with (first | ((with_reducible refine gate_callee (f := 54) rfl ?_); refine goesL_ (some 64) rfl rfl Tryd.func54 (by kernel_rfl) rfl #[.pointer (some ⟨g, 0, none⟩)] rfl q_6 ?_; (with_reducible refine (octet_In_At.calls g x2000_18 x2001_18 x2002_18 x2003_18 x2004_18 t364 t365 t366 t367 t368 t369 w0 _ ?side1 ?side2 A43.out).mono ?_); (case side1 => repeat (first | (with_reducible first | exact HI1.out | apply IsS70.alloc | apply IsS70.drewN | apply IsS70.drew | apply IsS70.set_0 | apply IsS70.set_1 | apply IsS70.set_2 | apply IsS70.set_3 | apply IsS70.set_4 | refine IsS70.far ?_ NB1_325.out _ | apply IsS70.far (hne := NB1_325.out) | refine IsS70.far ?_ NB1_339.out _ | apply IsS70.far (hne := NB1_339.out)) | exact HI1.out)); (case side2 => repeat (first | (with_reducible first | exact HB.out | apply below_alloc | apply pw_below_drewN | apply below_drew1 | refine below_set ?_ (IsS70.ge HI1.out) | refine below_set ?_ GE325.out | refine below_set ?_ GE339.out) | exact HB.out)); rintro e w48 ⟨rfl, hi, hb, hk⟩; refine ⟨_, rfl, ?_⟩; have n0_ := Aside0.mk (KeepBut.blk hk (g' := gb325) (o := .cells #[.string (⟨#[]⟩ : ByteArray), .int .u8 0, .int .u8 0, .int .u8 0, .string (⟨#[]⟩ : ByteArray), .int .i64 0] 36 (0, 0)) q_43 NB325_1.out (by simp)); have n1_ := Aside0.mk (KeepBut.blk hk (g' := gb339) (o := .cells #[.string t340, .int .u8 x340001_18, .int .u8 x340002_37, .int .u8 0, .string (⟨#[]⟩ : ByteArray), .int .i64 t333] 36 (0, 0)) q_48 NB339_1.out (by simp)); have n2_ := Aside0.mk (KeepBut.trans q_46 hk (.inl rfl)); have n3_ := Aside0.mk (hb); have n4_ := Aside0.mk (hi); clear BK325; clear BK339; clear HK; clear HB; clear HI1; have BK325 := n0_; have BK339 := n1_; have HK := n2_; have HB := n3_; have HI1 := n4_; clear n0_ n1_ n2_ n3_ n4_; (try clear hb); (try clear hb2); (try clear hk); (try clear hi)) | ((with_reducible refine gate_callee (f := 58) rfl ?_); refine goesL_ (some 67) rfl rfl Tryd.func58 (by kernel_rfl) rfl #[.pointer (some ⟨g, 0, none⟩), .int .i64 t346] rfl q_6 ?_; (with_reducible refine (octet_In_Take.calls g t365 t366 t367 t368 t369 t346 t370 t371 t372 t373 t374 t375 w0 _ ?side1 ?side2 A44.out).mono ?_); (case side1 => repeat (first | (with_reducible first | exact HI1.out | apply IsS70.alloc | apply IsS70.drewN | apply IsS70.drew | apply IsS70.set_0 | apply IsS70.set_1 | apply IsS70.set_2 | apply IsS70.set_3 | apply IsS70.set_4 | refine IsS70.far ?_ NB1_325.out _ | apply IsS70.far (hne := NB1_325.out) | refine IsS70.far ?_ NB1_339.out _ | apply IsS70.far (hne := NB1_339.out)) | exact HI1.out)); (case side2 => repeat (first | (with_reducible first | exact HB.out | apply below_alloc | apply pw_below_drewN | apply below_drew1 | refine below_set ?_ (IsS70.ge HI1.out) | refine below_set ?_ GE325.out | refine below_set ?_ GE339.out) | exact HB.out)); rintro e w49 ⟨rfl, hi, hb, hk⟩; refine ⟨_, rfl, ?_⟩; have n0_ := Aside0.mk (KeepBut.blk hk (g' := gb325) (o := .cells #[.string (⟨#[]⟩ : ByteArray), .int .u8 0, .int .u8 0, .int .u8 0, .string (⟨#[]⟩ : ByteArray), .int .i64 0] 36 (0, 0)) q_43 NB325_1.out (by simp)); have n1_ := Aside0.mk (KeepBut.blk hk (g' := gb339) (o := .cells #[.string t340, .int .u8 x340001_18, .int .u8 x340002_37, .int .u8 0, .string (⟨#[]⟩ : ByteArray), .int .i64 t333] 36 (0, 0)) q_48 NB339_1.out (by simp)); have n2_ := Aside0.mk (KeepBut.trans q_46 hk (.inl rfl)); have n3_ := Aside0.mk (hb); have n4_ := Aside0.mk (hi); clear BK325; clear BK339; clear HK; clear HB; clear HI1; have BK325 := n0_; have BK339 := n1_; have HK := n2_; have HB := n3_; have HI1 := n4_; clear n0_ n1_ n2_ n3_ n4_; (try clear hb); (try clear hb2); (try clear hk); (try clear hi)) | ((with_reducible refine gate_callee (f := 41) rfl ?_); refine goesL_ (some 69) rfl rfl Tryd.func41 (by kernel_rfl) rfl #[.pointer (some ⟨g, 0, none⟩)] rfl q_6 ?_; (with_reducible refine (octet_In_Fault.calls g t371 t372 t373 t374 t375 t376 t377 t378 t379 t380 t381 t382 w0 _ ?side1 ?side2 A45.out).mono ?_); (case side1 => repeat (first | (with_reducible first | exact HI1.out | apply IsS70.alloc | apply IsS70.drewN | apply IsS70.drew | apply IsS70.set_0 | apply IsS70.set_1 | apply IsS70.set_2 | apply IsS70.set_3 | apply IsS70.set_4 | refine IsS70.far ?_ NB1_325.out _ | apply IsS70.far (hne := NB1_325.out) | refine IsS70.far ?_ NB1_339.out _ | apply IsS70.far (hne := NB1_339.out)) | exact HI1.out)); (case side2 => repeat (first | (with_reducible first | exact HB.out | apply below_alloc | apply pw_below_drewN | apply below_drew1 | refine below_set ?_ (IsS70.ge HI1.out) | refine below_set ?_ GE325.out | refine below_set ?_ GE339.out) | exact HB.out)); rintro e w50 ⟨rfl, hi, hb, hk⟩; refine ⟨_, rfl, ?_⟩; have n0_ := Aside0.mk (KeepBut.blk hk (g' := gb325) (o := .cells #[.string (⟨#[]⟩ : ByteArray), .int .u8 0, .int .u8 0, .int .u8 0, .string (⟨#[]⟩ : ByteArray), .int .i64 0] 36 (0, 0)) q_43 NB325_1.out (by simp)); have n1_ := Aside0.mk (KeepBut.blk hk (g' := gb339) (o := .cells #[.string t340, .int .u8 x340001_18, .int .u8 x340002_37, .int .u8 0, .string (⟨#[]⟩ : ByteArray), .int .i64 t333] 36 (0, 0)) q_48 NB339_1.out (by simp)); have n2_ := Aside0.mk (KeepBut.trans q_46 hk (.inl rfl)); have n3_ := Aside0.mk (hb); have n4_ := Aside0.mk (hi); clear BK325; clear BK339; clear HK; clear HB; clear HI1; have BK325 := n0_; have BK339 := n1_; have HK := n2_; have HB := n3_; have HI1 := n4_; clear n0_ n1_ n2_ n3_ n4_; (try clear hb); (try clear hb2); (try clear hk); (try clear hi)) | ((with_reducible refine gate_callee (f := 39) rfl ?_); refine goesL_ (some 70) rfl rfl Tryd.func39 (by kernel_rfl) rfl #[.agg #[.int .i64 t376, .int .i64 t377]] rfl q_6 ?_; (with_reducible refine (api_Fault_Bad.calls t376 t377 true _ A46.out).mono ?_); rintro e w51 ⟨rfl, hb⟩; refine ⟨_, rfl, ?_⟩; have n0_ := Aside0.mk (blk_below (g := gb325) (o := .cells #[.string (⟨#[]⟩ : ByteArray), .int .u8 0, .int .u8 0, .int .u8 0, .string (⟨#[]⟩ : ByteArray), .int .i64 0] 36 (0, 0)) q_43 hb); have n1_ := Aside0.mk (blk_below (g := gb339) (o := .cells #[.string t340, .int .u8 x340001_18, .int .u8 x340002_37, .int .u8 0, .string (⟨#[]⟩ : ByteArray), .int .i64 t333] 36 (0, 0)) q_48 hb); have n2_ := Aside0.mk (IsS70.below q_49 hb); have n3_ := Aside0.mk (KeepBut.trans q_46 (KeepBut.of_below hb g none) (.inl rfl)); have n4_ := Aside0.mk (below_step q_50 hb); clear BK325; clear BK339; clear HI1; clear HK; clear HB; have BK325 := n0_; have BK339 := n1_; have HI1 := n2_; have HK := n3_; have HB := n4_; clear n0_ n1_ n2_ n3_ n4_; (try clear hb); (try clear hb2); (try clear hk); (try clear hi); have hnb52 := NB325_339.out; have hnc52 := NB339_325.out; have hnb53 := NB325_1.out; have hnc53 := NB1_325.out; have hcz54_0 : w51.cell? ⟨gb325, 0, none⟩ = some (.string (⟨#[]⟩ : ByteArray)) := (blk_cell BK325.out 0).trans rfl; have hcz54_1 : w51.cell? ⟨gb325, 1, none⟩ = some (.int .u8 0) := (blk_cell BK325.out 1).trans rfl; have hcz54_2 : w51.cell? ⟨gb325, 2, none⟩ = some (.int .u8 0) := (blk_cell BK325.out 2).trans rfl; have hcz54_3 : w51.cell? ⟨gb325, 3, none⟩ = some (.int .u8 0) := (blk_cell BK325.out 3).trans rfl; have hcz54_4 : w51.cell? ⟨gb325, 4, none⟩ = some (.string (⟨#[]⟩ : ByteArray)) := (blk_cell BK325.out 4).trans rfl; have hcz54_5 : w51.cell? ⟨gb325, 5, none⟩ = some (.int .i64 0) := (blk_cell BK325.out 5).trans rfl; have hfz54_0 := blk_frozen BK325.out 0; have hfz54_1 := blk_frozen BK325.out 1; have hfz54_2 := blk_frozen BK325.out 2; have hfz54_3 := blk_frozen BK325.out 3; have hfz54_4 := blk_frozen BK325.out 4; have hfz54_5 := blk_frozen BK325.out 5))
                      refine bodyPost_ret (results_ct rfl _ _ gb325 36 #[.string (⟨#[]⟩ : ByteArray), .int .u8 0, .int .u8 0, .int .u8 0, .string (⟨#[]⟩ : ByteArray), .int .i64 0] (0, 0) _ rfl q_45 Tryd.underlying36 rfl (by kernel_rfl)) rfl ?_
                      exact ⟨by first | rfl | (simp [errW_none, errW_some] <;> rfl) | (simp [*, errW_none, errW_some] <;> rfl), by repeat (first | (with_reducible first | exact HI1.out | apply IsS70.alloc | apply IsS70.drewN | apply IsS70.drew | apply IsS70.set_0 | apply IsS70.set_1 | apply IsS70.set_2 | apply IsS70.set_3 | apply IsS70.set_4 | refine IsS70.far ?_ NB1_325.out _ | apply IsS70.far (hne := NB1_325.out) | refine IsS70.far ?_ NB1_339.out _ | apply IsS70.far (hne := NB1_339.out)) | exact HI1.out), by repeat (first | (with_reducible first | exact HB.out | apply below_alloc | apply pw_below_drewN | apply below_drew1 | refine below_set ?_ (IsS70.ge HI1.out) | refine below_set ?_ GE325.out | refine below_set ?_ GE339.out) | exact HB.out), by repeat (first | (with_reducible first | exact HK.out | apply KeepBut.set_ | apply keep_drewN | apply keep_drew | apply keep_alloc | refine keep_far ?_ GW325.out _ | refine keep_far ?_ GW339.out _) | exact HK.out)⟩
                    · replace c47 := Bool.eq_false_iff.mpr c47
                      subst c47
                      have H1 : ((frame_Head_Locked.f t340 x340001_18 x340002_37 a0).bind fun t384 => (if t384 = true then (some (t340, x340001_18, x340002_37, 0, t370, t333, true, t378, t379, t380, t381, t382)) else ((frame_Frame_content.f kj37 t340 x340001_18 x340002_37 0 t370 t333 a0 t370 t364).bind fun bt385 => ((api_Fault_Bad.f bt385.1 bt385.2.1).bind fun t394 => (if t394 = true then ((octet_In_Fail.f t378 t379 t380 t381 t382 bt385.1 bt385.2.1).bind fun bt395 => (some ((⟨#[]⟩ : ByteArray), 0, 0, 0, (⟨#[]⟩ : ByteArray), 0, false, bt395.1, bt395.2.1, bt395.2.2.1, bt395.2.2.2.1, bt395.2.2.2.2))) else (some (bt385.2.2.1, bt385.2.2.2.1, bt385.2.2.2.2.1, bt385.2.2.2.2.2.1, bt385.2.2.2.2.2.2.1, bt385.2.2.2.2.2.2.2, true, t378, t379, t380, t381, t382))))))) = some (r1, r2, r3, r4, r5, r6, r7, r8, r9, r10, r11, r12) := by rw [if_neg (show ¬ (false = true) by decide)] at H; exact H
                      clear H
                      have H := H1
                      clear H1
                      replace H := Option.bind_eq_some_iff.mp H
                      obtain ⟨t384, A550, H⟩ := H
                      replace H : (if t384 = true then (some (t340, x340001_18, x340002_37, 0, t370, t333, true, t378, t379, t380, t381, t382)) else ((frame_Frame_content.f kj37 t340 x340001_18 x340002_37 0 t370 t333 a0 t370 t364).bind fun bt385 => ((api_Fault_Bad.f bt385.1 bt385.2.1).bind fun t394 => (if t394 = true then ((octet_In_Fail.f t378 t379 t380 t381 t382 bt385.1 bt385.2.1).bind fun bt395 => (some ((⟨#[]⟩ : ByteArray), 0, 0, 0, (⟨#[]⟩ : ByteArray), 0, false, bt395.1, bt395.2.1, bt395.2.2.1, bt395.2.2.2.1, bt395.2.2.2.2))) else (some (bt385.2.2.1, bt385.2.2.2.1, bt385.2.2.2.2.1, bt385.2.2.2.2.2.1, bt385.2.2.2.2.2.2.1, bt385.2.2.2.2.2.2.2, true, t378, t379, t380, t381, t382)))))) = some (r1, r2, r3, r4, r5, r6, r7, r8, r9, r10, r11, r12) := H
                      have A55 := Aside0.mk A550
                      clear A550
                      by_cases c56 : t384 = true
                      · subst c56
                        have H1 : (some (t340, x340001_18, x340002_37, 0, t370, t333, true, t378, t379, t380, t381, t382)) = some (r1, r2, r3, r4, r5, r6, r7, r8, r9, r10, r11, r12) := by rw [if_pos rfl] at H; exact H
                        clear H
                        have H := H1
                        clear H1
                        simp only [Option.some.injEq, Prod.mk.injEq] at H
                        obtain ⟨rfl, rfl, rfl, rfl, rfl, rfl, rfl, rfl, rfl, rfl, rfl, rfl⟩ := H
                        go_wp2_with (first | ((with_reducible refine gate_callee (f := 54) rfl ?_); refine goesL_ (some 64) rfl rfl Tryd.func54 (by kernel_rfl) rfl #[.pointer (some ⟨g, 0, none⟩)] rfl q_6 ?_; (with_reducible refine (octet_In_At.calls g x2000_18 x2001_18 x2002_18 x2003_18 x2004_18 t364 t365 t366 t367 t368 t369 w0 _ ?side1 ?side2 A43.out).mono ?_); (case side1 => repeat (first | (with_reducible first | exact HI1.out | apply IsS70.alloc | apply IsS70.drewN | apply IsS70.drew | apply IsS70.set_0 | apply IsS70.set_1 | apply IsS70.set_2 | apply IsS70.set_3 | apply IsS70.set_4 | refine IsS70.far ?_ NB1_325.out _ | apply IsS70.far (hne := NB1_325.out) | refine IsS70.far ?_ NB1_339.out _ | apply IsS70.far (hne := NB1_339.out)) | exact HI1.out)); (case side2 => repeat (first | (with_reducible first | exact HB.out | apply below_alloc | apply pw_below_drewN | apply below_drew1 | refine below_set ?_ (IsS70.ge HI1.out) | refine below_set ?_ GE325.out | refine below_set ?_ GE339.out) | exact HB.out)); rintro e w57 ⟨rfl, hi, hb, hk⟩; refine ⟨_, rfl, ?_⟩; have n0_ := Aside0.mk (KeepBut.blk hk (g' := gb325) (o := .cells #[.string (⟨#[]⟩ : ByteArray), .int .u8 0, .int .u8 0, .int .u8 0, .string (⟨#[]⟩ : ByteArray), .int .i64 0] 36 (0, 0)) q_43 NB325_1.out (by simp)); have n1_ := Aside0.mk (KeepBut.blk hk (g' := gb339) (o := .cells #[.string t340, .int .u8 x340001_18, .int .u8 x340002_37, .int .u8 0, .string (⟨#[]⟩ : ByteArray), .int .i64 t333] 36 (0, 0)) q_48 NB339_1.out (by simp)); have n2_ := Aside0.mk (KeepBut.trans q_46 hk (.inl rfl)); have n3_ := Aside0.mk (hb); have n4_ := Aside0.mk (hi); clear BK325; clear BK339; clear HK; clear HB; clear HI1; have BK325 := n0_; have BK339 := n1_; have HK := n2_; have HB := n3_; have HI1 := n4_; clear n0_ n1_ n2_ n3_ n4_; (try clear hb); (try clear hb2); (try clear hk); (try clear hi)) | ((with_reducible refine gate_callee (f := 58) rfl ?_); refine goesL_ (some 67) rfl rfl Tryd.func58 (by kernel_rfl) rfl #[.pointer (some ⟨g, 0, none⟩), .int .i64 t346] rfl q_6 ?_; (with_reducible refine (octet_In_Take.calls g t365 t366 t367 t368 t369 t346 t370 t371 t372 t373 t374 t375 w0 _ ?side1 ?side2 A44.out).mono ?_); (case side1 => repeat (first | (with_reducible first | exact HI1.out | apply IsS70.alloc | apply IsS70.drewN | apply IsS70.drew | apply IsS70.set_0 | apply IsS70.set_1 | apply IsS70.set_2 | apply IsS70.set_3 | apply IsS70.set_4 | refine IsS70.far ?_ NB1_325.out _ | apply IsS70.far (hne := NB1_325.out) | refine IsS70.far ?_ NB1_339.out _ | apply IsS70.far (hne := NB1_339.out)) | exact HI1.out)); (case side2 => repeat (first | (with_reducible first | exact HB.out | apply below_alloc | apply pw_below_drewN | apply below_drew1 | refine below_set ?_ (IsS70.ge HI1.out) | refine below_set ?_ GE325.out | refine below_set ?_ GE339.out) | exact HB.out)); rintro e w58 ⟨rfl, hi, hb, hk⟩; refine ⟨_, rfl, ?_⟩; have n0_ := Aside0.mk (KeepBut.blk hk (g' := gb325) (o := .cells #[.string (⟨#[]⟩ : ByteArray), .int .u8 0, .int .u8 0, .int .u8 0, .string (⟨#[]⟩ : ByteArray), .int .i64 0] 36 (0, 0)) q_43 NB325_1.out (by simp)); have n1_ := Aside0.mk (KeepBut.blk hk (g' := gb339) (o := .cells #[.string t340, .int .u8 x340001_18, .int .u8 x340002_37, .int .u8 0, .string (⟨#[]⟩ : ByteArray), .int .i64 t333] 36 (0, 0)) q_48 NB339_1.out (by simp)); have n2_ := Aside0.mk (KeepBut.trans q_46 hk (.inl rfl)); have n3_ := Aside0.mk (hb); have n4_ := Aside0.mk (hi); clear BK325; clear BK339; clear HK; clear HB; clear HI1; have BK325 := n0_; have BK339 := n1_; have HK := n2_; have HB := n3_; have HI1 := n4_; clear n0_ n1_ n2_ n3_ n4_; (try clear hb); (try clear hb2); (try clear hk); (try clear hi)) | ((with_reducible refine gate_callee (f := 41) rfl ?_); refine goesL_ (some 69) rfl rfl Tryd.func41 (by kernel_rfl) rfl #[.pointer (some ⟨g, 0, none⟩)] rfl q_6 ?_; (with_reducible refine (octet_In_Fault.calls g t371 t372 t373 t374 t375 t376 t377 t378 t379 t380 t381 t382 w0 _ ?side1 ?side2 A45.out).mono ?_); (case side1 => repeat (first | (with_reducible first | exact HI1.out | apply IsS70.alloc | apply IsS70.drewN | apply IsS70.drew | apply IsS70.set_0 | apply IsS70.set_1 | apply IsS70.set_2 | apply IsS70.set_3 | apply IsS70.set_4 | refine IsS70.far ?_ NB1_325.out _ | apply IsS70.far (hne := NB1_325.out) | refine IsS70.far ?_ NB1_339.out _ | apply IsS70.far (hne := NB1_339.out)) | exact HI1.out)); (case side2 => repeat (first | (with_reducible first | exact HB.out | apply below_alloc | apply pw_below_drewN | apply below_drew1 | refine below_set ?_ (IsS70.ge HI1.out) | refine below_set ?_ GE325.out | refine below_set ?_ GE339.out) | exact HB.out)); rintro e w59 ⟨rfl, hi, hb, hk⟩; refine ⟨_, rfl, ?_⟩; have n0_ := Aside0.mk (KeepBut.blk hk (g' := gb325) (o := .cells #[.string (⟨#[]⟩ : ByteArray), .int .u8 0, .int .u8 0, .int .u8 0, .string (⟨#[]⟩ : ByteArray), .int .i64 0] 36 (0, 0)) q_43 NB325_1.out (by simp)); have n1_ := Aside0.mk (KeepBut.blk hk (g' := gb339) (o := .cells #[.string t340, .int .u8 x340001_18, .int .u8 x340002_37, .int .u8 0, .string (⟨#[]⟩ : ByteArray), .int .i64 t333] 36 (0, 0)) q_48 NB339_1.out (by simp)); have n2_ := Aside0.mk (KeepBut.trans q_46 hk (.inl rfl)); have n3_ := Aside0.mk (hb); have n4_ := Aside0.mk (hi); clear BK325; clear BK339; clear HK; clear HB; clear HI1; have BK325 := n0_; have BK339 := n1_; have HK := n2_; have HB := n3_; have HI1 := n4_; clear n0_ n1_ n2_ n3_ n4_; (try clear hb); (try clear hb2); (try clear hk); (try clear hi)) | ((with_reducible refine gate_callee (f := 39) rfl ?_); refine goesL_ (some 70) rfl rfl Tryd.func39 (by kernel_rfl) rfl #[.agg #[.int .i64 t376, .int .i64 t377]] rfl q_6 ?_; (with_reducible refine (api_Fault_Bad.calls t376 t377 false _ A46.out).mono ?_); rintro e w60 ⟨rfl, hb⟩; refine ⟨_, rfl, ?_⟩; have n0_ := Aside0.mk (blk_below (g := gb325) (o := .cells #[.string (⟨#[]⟩ : ByteArray), .int .u8 0, .int .u8 0, .int .u8 0, .string (⟨#[]⟩ : ByteArray), .int .i64 0] 36 (0, 0)) q_43 hb); have n1_ := Aside0.mk (blk_below (g := gb339) (o := .cells #[.string t340, .int .u8 x340001_18, .int .u8 x340002_37, .int .u8 0, .string (⟨#[]⟩ : ByteArray), .int .i64 t333] 36 (0, 0)) q_48 hb); have n2_ := Aside0.mk (IsS70.below q_49 hb); have n3_ := Aside0.mk (KeepBut.trans q_46 (KeepBut.of_below hb g none) (.inl rfl)); have n4_ := Aside0.mk (below_step q_50 hb); clear BK325; clear BK339; clear HI1; clear HK; clear HB; have BK325 := n0_; have BK339 := n1_; have HI1 := n2_; have HK := n3_; have HB := n4_; clear n0_ n1_ n2_ n3_ n4_; (try clear hb); (try clear hb2); (try clear hk); (try clear hi); have hnb61 := NB339_325.out; have hnc61 := NB325_339.out; have hnb62 := NB339_1.out; have hnc62 := NB1_339.out; have hcz63_0 : w60.cell? ⟨gb339, 0, none⟩ = some (.string t340) := (blk_cell BK339.out 0).trans rfl; have hcz63_1 : w60.cell? ⟨gb339, 1, none⟩ = some (.int .u8 x340001_18) := (blk_cell BK339.out 1).trans rfl; have hcz63_2 : w60.cell? ⟨gb339, 2, none⟩ = some (.int .u8 x340002_37) := (blk_cell BK339.out 2).trans rfl; have hcz63_3 : w60.cell? ⟨gb339, 3, none⟩ = some (.int .u8 0) := (blk_cell BK339.out 3).trans rfl; have hcz63_4 : w60.cell? ⟨gb339, 4, none⟩ = some (.string (⟨#[]⟩ : ByteArray)) := (blk_cell BK339.out 4).trans rfl; have hcz63_5 : w60.cell? ⟨gb339, 5, none⟩ = some (.int .i64 t333) := (blk_cell BK339.out 5).trans rfl; have hfz63_0 := blk_frozen BK339.out 0; have hfz63_1 := blk_frozen BK339.out 1; have hfz63_2 := blk_frozen BK339.out 2; have hfz63_3 := blk_frozen BK339.out 3; have hfz63_4 := blk_frozen BK339.out 4; have hfz63_5 := blk_frozen BK339.out 5) | ((with_reducible refine gate_callee (f := 19) rfl ?_); refine goesL_ (some 77) rfl rfl Tryd.func19 (by kernel_rfl) rfl #[.agg #[.string t340, .int .u8 x340001_18, .int .u8 x340002_37], .int .i64 a0] rfl q_6 ?_; (with_reducible refine (frame_Head_Locked.calls t340 x340001_18 x340002_37 a0 true _ A55.out).mono ?_); rintro e w64 ⟨rfl, hb⟩; refine ⟨_, rfl, ?_⟩; have n0_ := Aside0.mk (blk_below (g := gb325) (o := .cells #[.string (⟨#[]⟩ : ByteArray), .int .u8 0, .int .u8 0, .int .u8 0, .string (⟨#[]⟩ : ByteArray), .int .i64 0] 36 (0, 0)) q_47 hb); have n1_ := Aside0.mk (blk_below (g := gb339) (o := .cells #[.string t340, .int .u8 x340001_18, .int .u8 x340002_37, .int .u8 0, .string t370, .int .i64 t333] 36 (0, 0)) q_51 hb); have n2_ := Aside0.mk (IsS70.below (show IsS70 w0 (w60.setCell ⟨gb339, 4, none⟩ (.string t370)) g t378 t379 t380 t381 t382 from by repeat (first | (with_reducible first | exact HI1.out | apply IsS70.alloc | apply IsS70.drewN | apply IsS70.drew | apply IsS70.set_0 | apply IsS70.set_1 | apply IsS70.set_2 | apply IsS70.set_3 | apply IsS70.set_4 | refine IsS70.far ?_ NB1_325.out _ | apply IsS70.far (hne := NB1_325.out) | refine IsS70.far ?_ NB1_339.out _ | apply IsS70.far (hne := NB1_339.out)) | exact HI1.out)) hb); have n3_ := Aside0.mk (KeepBut.trans q_46 (KeepBut.of_below hb g none) (.inl rfl)); have n4_ := Aside0.mk (below_step q_50 hb); clear BK325; clear BK339; clear HI1; clear HK; clear HB; have BK325 := n0_; have BK339 := n1_; have HI1 := n2_; have HK := n3_; have HB := n4_; clear n0_ n1_ n2_ n3_ n4_; (try clear hb); (try clear hb2); (try clear hk); (try clear hi); have hcz65_0 : w64.cell? ⟨gb339, 0, none⟩ = some (.string t340) := (blk_cell BK339.out 0).trans rfl; have hcz65_1 : w64.cell? ⟨gb339, 1, none⟩ = some (.int .u8 x340001_18) := (blk_cell BK339.out 1).trans rfl; have hcz65_2 : w64.cell? ⟨gb339, 2, none⟩ = some (.int .u8 x340002_37) := (blk_cell BK339.out 2).trans rfl; have hcz65_3 : w64.cell? ⟨gb339, 3, none⟩ = some (.int .u8 0) := (blk_cell BK339.out 3).trans rfl; have hcz65_4 : w64.cell? ⟨gb339, 4, none⟩ = some (.string t370) := (blk_cell BK339.out 4).trans rfl; have hcz65_5 : w64.cell? ⟨gb339, 5, none⟩ = some (.int .i64 t333) := (blk_cell BK339.out 5).trans rfl; have hfz65_0 := blk_frozen BK339.out 0; have hfz65_1 := blk_frozen BK339.out 1; have hfz65_2 := blk_frozen BK339.out 2; have hfz65_3 := blk_frozen BK339.out 3; have hfz65_4 := blk_frozen BK339.out 4; have hfz65_5 := blk_frozen BK339.out 5; have hnb66 := NB325_1.out; have hnc66 := NB1_325.out; have hcz67_0 : w64.cell? ⟨gb325, 0, none⟩ = some (.string (⟨#[]⟩ : ByteArray)) := (blk_cell BK325.out 0).trans rfl; have hcz67_1 : w64.cell? ⟨gb325, 1, none⟩ = some (.int .u8 0) := (blk_cell BK325.out 1).trans rfl; have hcz67_2 : w64.cell? ⟨gb325, 2, none⟩ = some (.int .u8 0) := (blk_cell BK325.out 2).trans rfl; have hcz67_3 : w64.cell? ⟨gb325, 3, none⟩ = some (.int .u8 0) := (blk_cell BK325.out 3).trans rfl; have hcz67_4 : w64.cell? ⟨gb325, 4, none⟩ = some (.string (⟨#[]⟩ : ByteArray)) := (blk_cell BK325.out 4).trans rfl; have hcz67_5 : w64.cell? ⟨gb325, 5, none⟩ = some (.int .i64 0) := (blk_cell BK325.out 5).trans rfl; have hfz67_0 := blk_frozen BK325.out 0; have hfz67_1 := blk_frozen BK325.out 1; have hfz67_2 := blk_frozen BK325.out 2; have hfz67_3 := blk_frozen BK325.out 3; have hfz67_4 := blk_frozen BK325.out 4; have hfz67_5 := blk_frozen BK325.out 5))
                        refine bodyPost_ret (results_ct rfl _ _ gb325 36 #[.string t340, .int .u8 x340001_18, .int .u8 x340002_37, .int .u8 0, .string t370, .int .i64 t333] (0, 0) _ rfl (by (with_reducible repeat (first | refine blk_drewN ?_ _ | refine blk_drew ?_ | refine blk_alloc ?_ _)); refine blk_put (cs := #[.string t340, .int .u8 x340001_18, .int .u8 x340002_37, .int .u8 0, .string t370, .int .i64 0]) ?_ 5 _ rfl; (with_reducible repeat (first | refine blk_drewN ?_ _ | refine blk_drew ?_ | refine blk_alloc ?_ _)); refine blk_put (cs := #[.string t340, .int .u8 x340001_18, .int .u8 x340002_37, .int .u8 0, .string (⟨#[]⟩ : ByteArray), .int .i64 0]) ?_ 4 _ rfl; (with_reducible repeat (first | refine blk_drewN ?_ _ | refine blk_drew ?_ | refine blk_alloc ?_ _)); refine blk_put (cs := #[.string t340, .int .u8 x340001_18, .int .u8 x340002_37, .int .u8 0, .string (⟨#[]⟩ : ByteArray), .int .i64 0]) ?_ 3 _ rfl; (with_reducible repeat (first | refine blk_drewN ?_ _ | refine blk_drew ?_ | refine blk_alloc ?_ _)); refine blk_put (cs := #[.string t340, .int .u8 x340001_18, .int .u8 0, .int .u8 0, .string (⟨#[]⟩ : ByteArray), .int .i64 0]) ?_ 2 _ rfl; (with_reducible repeat (first | refine blk_drewN ?_ _ | refine blk_drew ?_ | refine blk_alloc ?_ _)); refine blk_put (cs := #[.string t340, .int .u8 0, .int .u8 0, .int .u8 0, .string (⟨#[]⟩ : ByteArray), .int .i64 0]) ?_ 1 _ rfl; (with_reducible repeat (first | refine blk_drewN ?_ _ | refine blk_drew ?_ | refine blk_alloc ?_ _)); refine blk_put (cs := #[.string (⟨#[]⟩ : ByteArray), .int .u8 0, .int .u8 0, .int .u8 0, .string (⟨#[]⟩ : ByteArray), .int .i64 0]) ?_ 0 _ rfl; (with_reducible repeat (first | refine blk_drewN ?_ _ | refine blk_drew ?_ | refine blk_alloc ?_ _)); exact BK325.out) Tryd.underlying36 rfl (by kernel_rfl)) rfl ?_
                        exact ⟨by first | rfl | (simp [errW_none, errW_some] <;> rfl) | (simp [*, errW_none, errW_some] <;> rfl), by repeat (first | (with_reducible first | exact HI1.out | apply IsS70.alloc | apply IsS70.drewN | apply IsS70.drew | apply IsS70.set_0 | apply IsS70.set_1 | apply IsS70.set_2 | apply IsS70.set_3 | apply IsS70.set_4 | refine IsS70.far ?_ NB1_325.out _ | apply IsS70.far (hne := NB1_325.out) | refine IsS70.far ?_ NB1_339.out _ | apply IsS70.far (hne := NB1_339.out)) | exact HI1.out), by repeat (first | (with_reducible first | exact HB.out | apply below_alloc | apply pw_below_drewN | apply below_drew1 | refine below_set ?_ (IsS70.ge HI1.out) | refine below_set ?_ GE325.out | refine below_set ?_ GE339.out) | exact HB.out), by repeat (first | (with_reducible first | exact HK.out | apply KeepBut.set_ | apply keep_drewN | apply keep_drew | apply keep_alloc | refine keep_far ?_ GW325.out _ | refine keep_far ?_ GW339.out _) | exact HK.out)⟩
                      · replace c56 := Bool.eq_false_iff.mpr c56
                        subst c56
                        have H1 : ((frame_Frame_content.f kj37 t340 x340001_18 x340002_37 0 t370 t333 a0 t370 t364).bind fun bt385 => ((api_Fault_Bad.f bt385.1 bt385.2.1).bind fun t394 => (if t394 = true then ((octet_In_Fail.f t378 t379 t380 t381 t382 bt385.1 bt385.2.1).bind fun bt395 => (some ((⟨#[]⟩ : ByteArray), 0, 0, 0, (⟨#[]⟩ : ByteArray), 0, false, bt395.1, bt395.2.1, bt395.2.2.1, bt395.2.2.2.1, bt395.2.2.2.2))) else (some (bt385.2.2.1, bt385.2.2.2.1, bt385.2.2.2.2.1, bt385.2.2.2.2.2.1, bt385.2.2.2.2.2.2.1, bt385.2.2.2.2.2.2.2, true, t378, t379, t380, t381, t382))))) = some (r1, r2, r3, r4, r5, r6, r7, r8, r9, r10, r11, r12) := by rw [if_neg (show ¬ (false = true) by decide)] at H; exact H
                        clear H
                        have H := H1
                        clear H1
                        replace H := Option.bind_eq_some_iff.mp H
                        obtain ⟨⟨t385, t386, t387, t388, t389, t390, t391, t392⟩, A680, H⟩ := H
                        replace H : ((api_Fault_Bad.f t385 t386).bind fun t394 => (if t394 = true then ((octet_In_Fail.f t378 t379 t380 t381 t382 t385 t386).bind fun bt395 => (some ((⟨#[]⟩ : ByteArray), 0, 0, 0, (⟨#[]⟩ : ByteArray), 0, false, bt395.1, bt395.2.1, bt395.2.2.1, bt395.2.2.2.1, bt395.2.2.2.2))) else (some (t387, t388, t389, t390, t391, t392, true, t378, t379, t380, t381, t382)))) = some (r1, r2, r3, r4, r5, r6, r7, r8, r9, r10, r11, r12) := H
                        have A68 := Aside0.mk A680
                        clear A680
                        replace H := Option.bind_eq_some_iff.mp H
                        obtain ⟨t394, A690, H⟩ := H
                        replace H : (if t394 = true then ((octet_In_Fail.f t378 t379 t380 t381 t382 t385 t386).bind fun bt395 => (some ((⟨#[]⟩ : ByteArray), 0, 0, 0, (⟨#[]⟩ : ByteArray), 0, false, bt395.1, bt395.2.1, bt395.2.2.1, bt395.2.2.2.1, bt395.2.2.2.2))) else (some (t387, t388, t389, t390, t391, t392, true, t378, t379, t380, t381, t382))) = some (r1, r2, r3, r4, r5, r6, r7, r8, r9, r10, r11, r12) := H
                        have A69 := Aside0.mk A690
                        clear A690
                        by_cases c70 : t394 = true
                        · subst c70
                          have H1 : ((octet_In_Fail.f t378 t379 t380 t381 t382 t385 t386).bind fun bt395 => (some ((⟨#[]⟩ : ByteArray), 0, 0, 0, (⟨#[]⟩ : ByteArray), 0, false, bt395.1, bt395.2.1, bt395.2.2.1, bt395.2.2.2.1, bt395.2.2.2.2))) = some (r1, r2, r3, r4, r5, r6, r7, r8, r9, r10, r11, r12) := by rw [if_pos rfl] at H; exact H
                          clear H
                          have H := H1
                          clear H1
                          replace H := Option.bind_eq_some_iff.mp H
                          obtain ⟨⟨t395, t396, t397, t398, t399⟩, A710, H⟩ := H
                          replace H : (some ((⟨#[]⟩ : ByteArray), 0, 0, 0, (⟨#[]⟩ : ByteArray), 0, false, t395, t396, t397, t398, t399)) = some (r1, r2, r3, r4, r5, r6, r7, r8, r9, r10, r11, r12) := H
                          have A71 := Aside0.mk A710
                          clear A710
                          simp only [Option.some.injEq, Prod.mk.injEq] at H
                          obtain ⟨rfl, rfl, rfl, rfl, rfl, rfl, rfl, rfl, rfl, rfl, rfl, rfl⟩ := H
                          go_wp2_with (first | ((with_reducible refine gate_callee (f := 54) rfl ?_); refine goesL_ (some 64) rfl rfl Tryd.func54 (by kernel_rfl) rfl #[.pointer (some ⟨g, 0, none⟩)] rfl q_6 ?_; (with_reducible refine (octet_In_At.calls g x2000_18 x2001_18 x2002_18 x2003_18 x2004_18 t364 t365 t366 t367 t368 t369 w0 _ ?side1 ?side2 A43.out).mono ?_); (case side1 => repeat (first | (with_reducible first | exact HI1.out | apply IsS70.alloc | apply IsS70.drewN | apply IsS70.drew | apply IsS70.set_0 | apply IsS70.set_1 | apply IsS70.set_2 | apply IsS70.set_3 | apply IsS70.set_4 | refine IsS70.far ?_ NB1_325.out _ | apply IsS70.far (hne := NB1_325.out) | refine IsS70.far ?_ NB1_339.out _ | apply IsS70.far (hne := NB1_339.out)) | exact HI1.out)); (case side2 => repeat (first | (with_reducible first | exact HB.out | apply below_alloc | apply pw_below_drewN | apply below_drew1 | refine below_set ?_ (IsS70.ge HI1.out) | refine below_set ?_ GE325.out | refine below_set ?_ GE339.out) | exact HB.out)); rintro e w72 ⟨rfl, hi, hb, hk⟩; refine ⟨_, rfl, ?_⟩; have n0_ := Aside0.mk (KeepBut.blk hk (g' := gb325) (o := .cells #[.string (⟨#[]⟩ : ByteArray), .int .u8 0, .int .u8 0, .int .u8 0, .string (⟨#[]⟩ : ByteArray), .int .i64 0] 36 (0, 0)) q_43 NB325_1.out (by simp)); have n1_ := Aside0.mk (KeepBut.blk hk (g' := gb339) (o := .cells #[.string t340, .int .u8 x340001_18, .int .u8 x340002_37, .int .u8 0, .string (⟨#[]⟩ : ByteArray), .int .i64 t333] 36 (0, 0)) q_48 NB339_1.out (by simp)); have n2_ := Aside0.mk (KeepBut.trans q_46 hk (.inl rfl)); have n3_ := Aside0.mk (hb); have n4_ := Aside0.mk (hi); clear BK325; clear BK339; clear HK; clear HB; clear HI1; have BK325 := n0_; have BK339 := n1_; have HK := n2_; have HB := n3_; have HI1 := n4_; clear n0_ n1_ n2_ n3_ n4_; (try clear hb); (try clear hb2); (try clear hk); (try clear hi)) | ((with_reducible refine gate_callee (f := 58) rfl ?_); refine goesL_ (some 67) rfl rfl Tryd.func58 (by kernel_rfl) rfl #[.pointer (some ⟨g, 0, none⟩), .int .i64 t346] rfl q_6 ?_; (with_reducible refine (octet_In_Take.calls g t365 t366 t367 t368 t369 t346 t370 t371 t372 t373 t374 t375 w0 _ ?side1 ?side2 A44.out).mono ?_); (case side1 => repeat (first | (with_reducible first | exact HI1.out | apply IsS70.alloc | apply IsS70.drewN | apply IsS70.drew | apply IsS70.set_0 | apply IsS70.set_1 | apply IsS70.set_2 | apply IsS70.set_3 | apply IsS70.set_4 | refine IsS70.far ?_ NB1_325.out _ | apply IsS70.far (hne := NB1_325.out) | refine IsS70.far ?_ NB1_339.out _ | apply IsS70.far (hne := NB1_339.out)) | exact HI1.out)); (case side2 => repeat (first | (with_reducible first | exact HB.out | apply below_alloc | apply pw_below_drewN | apply below_drew1 | refine below_set ?_ (IsS70.ge HI1.out) | refine below_set ?_ GE325.out | refine below_set ?_ GE339.out) | exact HB.out)); rintro e w73 ⟨rfl, hi, hb, hk⟩; refine ⟨_, rfl, ?_⟩; have n0_ := Aside0.mk (KeepBut.blk hk (g' := gb325) (o := .cells #[.string (⟨#[]⟩ : ByteArray), .int .u8 0, .int .u8 0, .int .u8 0, .string (⟨#[]⟩ : ByteArray), .int .i64 0] 36 (0, 0)) q_43 NB325_1.out (by simp)); have n1_ := Aside0.mk (KeepBut.blk hk (g' := gb339) (o := .cells #[.string t340, .int .u8 x340001_18, .int .u8 x340002_37, .int .u8 0, .string (⟨#[]⟩ : ByteArray), .int .i64 t333] 36 (0, 0)) q_48 NB339_1.out (by simp)); have n2_ := Aside0.mk (KeepBut.trans q_46 hk (.inl rfl)); have n3_ := Aside0.mk (hb); have n4_ := Aside0.mk (hi); clear BK325; clear BK339; clear HK; clear HB; clear HI1; have BK325 := n0_; have BK339 := n1_; have HK := n2_; have HB := n3_; have HI1 := n4_; clear n0_ n1_ n2_ n3_ n4_; (try clear hb); (try clear hb2); (try clear hk); (try clear hi)) | ((with_reducible refine gate_callee (f := 41) rfl ?_); refine goesL_ (some 69) rfl rfl Tryd.func41 (by kernel_rfl) rfl #[.pointer (some ⟨g, 0, none⟩)] rfl q_6 ?_; (with_reducible refine (octet_In_Fault.calls g t371 t372 t373 t374 t375 t376 t377 t378 t379 t380 t381 t382 w0 _ ?side1 ?side2 A45.out).mono ?_); (case side1 => repeat (first | (with_reducible first | exact HI1.out | apply IsS70.alloc | apply IsS70.drewN | apply IsS70.drew | apply IsS70.set_0 | apply IsS70.set_1 | apply IsS70.set_2 | apply IsS70.set_3 | apply IsS70.set_4 | refine IsS70.far ?_ NB1_325.out _ | apply IsS70.far (hne := NB1_325.out) | refine IsS70.far ?_ NB1_339.out _ | apply IsS70.far (hne := NB1_339.out)) | exact HI1.out)); (case side2 => repeat (first | (with_reducible first | exact HB.out | apply below_alloc | apply pw_below_drewN | apply below_drew1 | refine below_set ?_ (IsS70.ge HI1.out) | refine below_set ?_ GE325.out | refine below_set ?_ GE339.out) | exact HB.out)); rintro e w74 ⟨rfl, hi, hb, hk⟩; refine ⟨_, rfl, ?_⟩; have n0_ := Aside0.mk (KeepBut.blk hk (g' := gb325) (o := .cells #[.string (⟨#[]⟩ : ByteArray), .int .u8 0, .int .u8 0, .int .u8 0, .string (⟨#[]⟩ : ByteArray), .int .i64 0] 36 (0, 0)) q_43 NB325_1.out (by simp)); have n1_ := Aside0.mk (KeepBut.blk hk (g' := gb339) (o := .cells #[.string t340, .int .u8 x340001_18, .int .u8 x340002_37, .int .u8 0, .string (⟨#[]⟩ : ByteArray), .int .i64 t333] 36 (0, 0)) q_48 NB339_1.out (by simp)); have n2_ := Aside0.mk (KeepBut.trans q_46 hk (.inl rfl)); have n3_ := Aside0.mk (hb); have n4_ := Aside0.mk (hi); clear BK325; clear BK339; clear HK; clear HB; clear HI1; have BK325 := n0_; have BK339 := n1_; have HK := n2_; have HB := n3_; have HI1 := n4_; clear n0_ n1_ n2_ n3_ n4_; (try clear hb); (try clear hb2); (try clear hk); (try clear hi)) | ((with_reducible refine gate_callee (f := 39) rfl ?_); refine goesL_ (some 70) rfl rfl Tryd.func39 (by kernel_rfl) rfl #[.agg #[.int .i64 t376, .int .i64 t377]] rfl q_6 ?_; (with_reducible refine (api_Fault_Bad.calls t376 t377 false _ A46.out).mono ?_); rintro e w75 ⟨rfl, hb⟩; refine ⟨_, rfl, ?_⟩; have n0_ := Aside0.mk (blk_below (g := gb325) (o := .cells #[.string (⟨#[]⟩ : ByteArray), .int .u8 0, .int .u8 0, .int .u8 0, .string (⟨#[]⟩ : ByteArray), .int .i64 0] 36 (0, 0)) q_43 hb); have n1_ := Aside0.mk (blk_below (g := gb339) (o := .cells #[.string t340, .int .u8 x340001_18, .int .u8 x340002_37, .int .u8 0, .string (⟨#[]⟩ : ByteArray), .int .i64 t333] 36 (0, 0)) q_48 hb); have n2_ := Aside0.mk (IsS70.below q_49 hb); have n3_ := Aside0.mk (KeepBut.trans q_46 (KeepBut.of_below hb g none) (.inl rfl)); have n4_ := Aside0.mk (below_step q_50 hb); clear BK325; clear BK339; clear HI1; clear HK; clear HB; have BK325 := n0_; have BK339 := n1_; have HI1 := n2_; have HK := n3_; have HB := n4_; clear n0_ n1_ n2_ n3_ n4_; (try clear hb); (try clear hb2); (try clear hk); (try clear hi); have hnb76 := NB339_325.out; have hnc76 := NB325_339.out; have hnb77 := NB339_1.out; have hnc77 := NB1_339.out; have hcz78_0 : w75.cell? ⟨gb339, 0, none⟩ = some (.string t340) := (blk_cell BK339.out 0).trans rfl; have hcz78_1 : w75.cell? ⟨gb339, 1, none⟩ = some (.int .u8 x340001_18) := (blk_cell BK339.out 1).trans rfl; have hcz78_2 : w75.cell? ⟨gb339, 2, none⟩ = some (.int .u8 x340002_37) := (blk_cell BK339.out 2).trans rfl; have hcz78_3 : w75.cell? ⟨gb339, 3, none⟩ = some (.int .u8 0) := (blk_cell BK339.out 3).trans rfl; have hcz78_4 : w75.cell? ⟨gb339, 4, none⟩ = some (.string (⟨#[]⟩ : ByteArray)) := (blk_cell BK339.out 4).trans rfl; have hcz78_5 : w75.cell? ⟨gb339, 5, none⟩ = some (.int .i64 t333) := (blk_cell BK339.out 5).trans rfl; have hfz78_0 := blk_frozen BK339.out 0; have hfz78_1 := blk_frozen BK339.out 1; have hfz78_2 := blk_frozen BK339.out 2; have hfz78_3 := blk_frozen BK339.out 3; have hfz78_4 := blk_frozen BK339.out 4; have hfz78_5 := blk_frozen BK339.out 5) | ((with_reducible refine gate_callee (f := 19) rfl ?_); refine goesL_ (some 77) rfl rfl Tryd.func19 (by kernel_rfl) rfl #[.agg #[.string t340, .int .u8 x340001_18, .int .u8 x340002_37], .int .i64 a0] rfl q_6 ?_; (with_reducible refine (frame_Head_Locked.calls t340 x340001_18 x340002_37 a0 false _ A55.out).mono ?_); rintro e w79 ⟨rfl, hb⟩; refine ⟨_, rfl, ?_⟩; have n0_ := Aside0.mk (blk_below (g := gb325) (o := .cells #[.string (⟨#[]⟩ : ByteArray), .int .u8 0, .int .u8 0, .int .u8 0, .string (⟨#[]⟩ : ByteArray), .int .i64 0] 36 (0, 0)) q_47 hb); have n1_ := Aside0.mk (blk_below (g := gb339) (o := .cells #[.string t340, .int .u8 x340001_18, .int .u8 x340002_37, .int .u8 0, .string t370, .int .i64 t333] 36 (0, 0)) q_51 hb); have n2_ := Aside0.mk (IsS70.below (show IsS70 w0 (w75.setCell ⟨gb339, 4, none⟩ (.string t370)) g t378 t379 t380 t381 t382 from by repeat (first | (with_reducible first | exact HI1.out | apply IsS70.alloc | apply IsS70.drewN | apply IsS70.drew | apply IsS70.set_0 | apply IsS70.set_1 | apply IsS70.set_2 | apply IsS70.set_3 | apply IsS70.set_4 | refine IsS70.far ?_ NB1_325.out _ | apply IsS70.far (hne := NB1_325.out) | refine IsS70.far ?_ NB1_339.out _ | apply IsS70.far (hne := NB1_339.out)) | exact HI1.out)) hb); have n3_ := Aside0.mk (KeepBut.trans q_46 (KeepBut.of_below hb g none) (.inl rfl)); have n4_ := Aside0.mk (below_step q_50 hb); clear BK325; clear BK339; clear HI1; clear HK; clear HB; have BK325 := n0_; have BK339 := n1_; have HI1 := n2_; have HK := n3_; have HB := n4_; clear n0_ n1_ n2_ n3_ n4_; (try clear hb); (try clear hb2); (try clear hk); (try clear hi); have HI339 := Aside0.mk (show IsS36 w0 w79 gb339 _ _ _ _ _ _ from ⟨BK339.out, GE339.out⟩); have GS339 := GW339) | ((with_reducible refine gate_callee (f := 59) rfl ?_); refine goesL_ (some 82) rfl rfl Tryd.func59 (by kernel_rfl) rfl #[.pointer (some ⟨gb339, 0, none⟩), .int .i64 a0, .string t370, .int .i64 t364] rfl q_6 ?_; (with_reducible refine (frame_Frame_content.calls kj37 gb339 t340 x340001_18 x340002_37 0 t370 t333 a0 t370 t364 t385 t386 t387 t388 t389 t390 t391 t392 w0 _ ?side1 ?side2 HG.out A68.out).mono ?_); (case side1 => repeat (first | (with_reducible first | exact HI339.out | apply IsS36.alloc | apply IsS36.drewN | apply IsS36.drew | apply IsS36.set_0 | apply IsS36.set_1 | apply IsS36.set_2 | apply IsS36.set_3 | apply IsS36.set_4 | apply IsS36.set_5 | refine IsS36.far ?_ NB339_325.out _ | apply IsS36.far (hne := NB339_325.out) | refine IsS36.far ?_ NB339_1.out _ | apply IsS36.far (hne := NB339_1.out)) | exact HI339.out)); (case side2 => repeat (first | (with_reducible first | exact HB.out | apply below_alloc | apply pw_below_drewN | apply below_drew1 | refine below_set ?_ (IsS36.ge HI339.out) | refine below_set ?_ (IsS70.ge HI1.out) | refine below_set ?_ GE325.out) | exact HB.out)); rintro e w80 ⟨rfl, hi, hb, hk⟩; refine ⟨_, rfl, ?_⟩; have n0_ := Aside0.mk (KeepBut.blk hk (g' := gb325) (o := .cells #[.string (⟨#[]⟩ : ByteArray), .int .u8 0, .int .u8 0, .int .u8 0, .string (⟨#[]⟩ : ByteArray), .int .i64 0] 36 (0, 0)) q_43 NB325_339.out (by simp)); have n1_ := Aside0.mk (IsS70.keep q_49 hk NB1_339.out); have n2_ := Aside0.mk (keep_other_ q_52 hk GS339.out); have n3_ := Aside0.mk (hb); have n4_ := Aside0.mk (hi); clear BK325; clear HI1; clear HK; clear HB; clear HI339; have BK325 := n0_; have HI1 := n1_; have HK := n2_; have HB := n3_; have HI339 := n4_; clear n0_ n1_ n2_ n3_ n4_; (try clear hb); (try clear hb2); (try clear hk); (try clear hi)) | ((with_reducible refine gate_dst (N := 13) rfl ?_); refine box_event ?hg (N := 13) ?hd (cs := #[.int .i64 0, .int .i64 0]) (t := 39) ?hr ?_; (case hd => rfl); (case hg => rfl); (case hr => first | (go_simp; done) | (go_simp; rfl)); intro gb393 hg w81 hbox hb; have n0_ := Aside0.mk (blk_below (g := gb325) (o := .cells #[.string (⟨#[]⟩ : ByteArray), .int .u8 0, .int .u8 0, .int .u8 0, .string (⟨#[]⟩ : ByteArray), .int .i64 0] 36 (0, 0)) q_43 hb); have n1_ := Aside0.mk (IsS36.below (by repeat (first | (with_reducible first | exact HI339.out | apply IsS36.alloc | apply IsS36.drewN | apply IsS36.drew | apply IsS36.set_0 | apply IsS36.set_1 | apply IsS36.set_2 | apply IsS36.set_3 | apply IsS36.set_4 | apply IsS36.set_5 | refine IsS36.far ?_ NB339_325.out _ | apply IsS36.far (hne := NB339_325.out) | refine IsS36.far ?_ NB339_1.out _ | apply IsS36.far (hne := NB339_1.out)) | exact HI339.out)) hb); have n2_ := Aside0.mk (IsS70.below q_49 hb); have n3_ := Aside0.mk (KeepBut.trans q_52 (KeepBut.of_below hb g none) (.inl rfl)); have n4_ := Aside0.mk (below_step (by repeat (first | (with_reducible first | exact HB.out | apply below_alloc | apply pw_below_drewN | apply below_drew1 | refine below_set ?_ (IsS36.ge HI339.out) | refine below_set ?_ (IsS70.ge HI1.out) | refine below_set ?_ GE325.out) | exact HB.out)) hb); have n5_ := Aside0.mk (hbox); have n6_ := Aside0.mk ((q_124 : w.heap.size ≤ gb393)); have n7_ := Aside0.mk ((Nat.le_trans HW0.out (q_124 : w.heap.size ≤ gb393) : w0.heap.size ≤ gb393)); have n8_ := Aside0.mk ((q_122 : gb325 ≠ gb393)); have n9_ := Aside0.mk ((q_123 : gb393 ≠ gb325)); have n10_ := Aside0.mk ((by rw [hg]; exact Nat.ne_of_lt (IsS36.lt (show IsS36 w0 _ gb339 t387 t388 t389 t390 t391 t392 from by repeat (first | (with_reducible first | exact HI339.out | apply IsS36.alloc | apply IsS36.drewN | apply IsS36.drew | apply IsS36.set_0 | apply IsS36.set_1 | apply IsS36.set_2 | apply IsS36.set_3 | apply IsS36.set_4 | apply IsS36.set_5 | refine IsS36.far ?_ NB339_325.out _ | apply IsS36.far (hne := NB339_325.out) | refine IsS36.far ?_ NB339_1.out _ | apply IsS36.far (hne := NB339_1.out)) | exact HI339.out))) : gb339 ≠ gb393)); have n11_ := Aside0.mk ((by rw [hg]; exact Nat.ne_of_gt (IsS36.lt (show IsS36 w0 _ gb339 t387 t388 t389 t390 t391 t392 from by repeat (first | (with_reducible first | exact HI339.out | apply IsS36.alloc | apply IsS36.drewN | apply IsS36.drew | apply IsS36.set_0 | apply IsS36.set_1 | apply IsS36.set_2 | apply IsS36.set_3 | apply IsS36.set_4 | apply IsS36.set_5 | refine IsS36.far ?_ NB339_325.out _ | apply IsS36.far (hne := NB339_325.out) | refine IsS36.far ?_ NB339_1.out _ | apply IsS36.far (hne := NB339_1.out)) | exact HI339.out))) : gb393 ≠ gb339)); have n12_ := Aside0.mk ((by rw [hg]; exact Nat.ne_of_lt (IsS70.lt (show IsS70 w0 _ g t378 t379 t380 t381 t382 from by repeat (first | (with_reducible first | exact HI1.out | apply IsS70.alloc | apply IsS70.drewN | apply IsS70.drew | apply IsS70.set_0 | apply IsS70.set_1 | apply IsS70.set_2 | apply IsS70.set_3 | apply IsS70.set_4 | refine IsS70.far ?_ NB1_325.out _ | apply IsS70.far (hne := NB1_325.out) | refine IsS70.far ?_ NB1_339.out _ | apply IsS70.far (hne := NB1_339.out)) | exact HI1.out))) : g ≠ gb393)); have n13_ := Aside0.mk ((by rw [hg]; exact Nat.ne_of_gt (IsS70.lt (show IsS70 w0 _ g t378 t379 t380 t381 t382 from by repeat (first | (with_reducible first | exact HI1.out | apply IsS70.alloc | apply IsS70.drewN | apply IsS70.drew | apply IsS70.set_0 | apply IsS70.set_1 | apply IsS70.set_2 | apply IsS70.set_3 | apply IsS70.set_4 | refine IsS70.far ?_ NB1_325.out _ | apply IsS70.far (hne := NB1_325.out) | refine IsS70.far ?_ NB1_339.out _ | apply IsS70.far (hne := NB1_339.out)) | exact HI1.out))) : gb393 ≠ g)); clear BK325; clear HI339; clear HI1; clear HK; clear HB; have BK325 := n0_; have HI339 := n1_; have HI1 := n2_; have HK := n3_; have HB := n4_; have BK393 := n5_; have GW393 := n6_; have GE393 := n7_; have NB325_393 := n8_; have NB393_325 := n9_; have NB339_393 := n10_; have NB393_339 := n11_; have NB1_393 := n12_; have NB393_1 := n13_; clear n0_ n1_ n2_ n3_ n4_ n5_ n6_ n7_ n8_ n9_ n10_ n11_ n12_ n13_; clear hb hbox hg; have hnb82 := NB393_325.out; have hnc82 := NB325_393.out; have hnb83 := NB393_339.out; have hnc83 := NB339_393.out; have hnb84 := NB393_1.out; have hnc84 := NB1_393.out; have hcz85_0 : w81.cell? ⟨gb393, 0, none⟩ = some (.int .i64 0) := (blk_cell BK393.out 0).trans rfl; have hcz85_1 : w81.cell? ⟨gb393, 1, none⟩ = some (.int .i64 0) := (blk_cell BK393.out 1).trans rfl; have hfz85_0 := blk_frozen BK393.out 0; have hfz85_1 := blk_frozen BK393.out 1) | ((with_reducible refine gate_callee (f := 39) rfl ?_); refine goesL_ (some 84) rfl rfl Tryd.func39 (by kernel_rfl) rfl #[.agg #[.int .i64 t385, .int .i64 t386]] rfl q_6 ?_; (with_reducible refine (api_Fault_Bad.calls t385 t386 true _ A69.out).mono ?_); rintro e w86 ⟨rfl, hb⟩; refine ⟨_, rfl, ?_⟩; have n0_ := Aside0.mk (blk_below (g := gb325) (o := .cells #[.string (⟨#[]⟩ : ByteArray), .int .u8 0, .int .u8 0, .int .u8 0, .string (⟨#[]⟩ : ByteArray), .int .i64 0] 36 (0, 0)) (by (with_reducible repeat (first | refine blk_drewN ?_ _ | refine blk_drew ?_ | refine blk_alloc ?_ _)); refine blk_far ?_ NB325_393.out _; (with_reducible repeat (first | refine blk_drewN ?_ _ | refine blk_drew ?_ | refine blk_alloc ?_ _)); refine blk_far ?_ NB325_393.out _; (with_reducible repeat (first | refine blk_drewN ?_ _ | refine blk_drew ?_ | refine blk_alloc ?_ _)); exact BK325.out) hb); have n1_ := Aside0.mk (IsS36.below (show IsS36 w0 ((w81.setCell ⟨gb393, 0, none⟩ (.int .i64 t385)).setCell ⟨gb393, 1, none⟩ (.int .i64 t386)) gb339 t387 t388 t389 t390 t391 t392 from by repeat (first | (with_reducible first | exact HI339.out | apply IsS36.alloc | apply IsS36.drewN | apply IsS36.drew | apply IsS36.set_0 | apply IsS36.set_1 | apply IsS36.set_2 | apply IsS36.set_3 | apply IsS36.set_4 | apply IsS36.set_5 | refine IsS36.far ?_ NB339_325.out _ | apply IsS36.far (hne := NB339_325.out) | refine IsS36.far ?_ NB339_393.out _ | apply IsS36.far (hne := NB339_393.out) | refine IsS36.far ?_ NB339_1.out _ | apply IsS36.far (hne := NB339_1.out)) | exact HI339.out)) hb); have n2_ := Aside0.mk (IsS70.below (show IsS70 w0 ((w81.setCell ⟨gb393, 0, none⟩ (.int .i64 t385)).setCell ⟨gb393, 1, none⟩ (.int .i64 t386)) g t378 t379 t380 t381 t382 from by repeat (first | (with_reducible first | exact HI1.out | apply IsS70.alloc | apply IsS70.drewN | apply IsS70.drew | apply IsS70.set_0 | apply IsS70.set_1 | apply IsS70.set_2 | apply IsS70.set_3 | apply IsS70.set_4 | refine IsS70.far ?_ NB1_325.out _ | apply IsS70.far (hne := NB1_325.out) | refine IsS70.far ?_ NB1_393.out _ | apply IsS70.far (hne := NB1_393.out) | refine IsS70.far ?_ NB1_339.out _ | apply IsS70.far (hne := NB1_339.out)) | exact HI1.out)) hb); have n3_ := Aside0.mk (blk_below (g := gb393) (o := .cells #[.int .i64 t385, .int .i64 t386] 39 (0, 0)) (by (with_reducible repeat (first | refine blk_drewN ?_ _ | refine blk_drew ?_ | refine blk_alloc ?_ _)); refine blk_put (cs := #[.int .i64 t385, .int .i64 0]) ?_ 1 _ rfl; (with_reducible repeat (first | refine blk_drewN ?_ _ | refine blk_drew ?_ | refine blk_alloc ?_ _)); refine blk_put (cs := #[.int .i64 0, .int .i64 0]) ?_ 0 _ rfl; (with_reducible repeat (first | refine blk_drewN ?_ _ | refine blk_drew ?_ | refine blk_alloc ?_ _)); exact BK393.out) hb); have n4_ := Aside0.mk (KeepBut.trans q_53 (KeepBut.of_below hb g none) (.inl rfl)); have n5_ := Aside0.mk (below_step (by repeat (first | (with_reducible first | exact HB.out | apply below_alloc | apply pw_below_drewN | apply below_drew1 | refine below_set ?_ (IsS36.ge HI339.out) | refine below_set ?_ (IsS70.ge HI1.out) | refine below_set ?_ GE325.out | refine below_set ?_ GE393.out) | exact HB.out)) hb); clear BK325; clear HI339; clear HI1; clear BK393; clear HK; clear HB; have BK325 := n0_; have HI339 := n1_; have HI1 := n2_; have BK393 := n3_; have HK := n4_; have HB := n5_; clear n0_ n1_ n2_ n3_ n4_ n5_; (try clear hb); (try clear hb2); (try clear hk); (try clear hi); have hcz87_0 : w86.cell? ⟨gb393, 0, none⟩ = some (.int .i64 t385) := (blk_cell BK393.out 0).trans rfl; have hcz87_1 : w86.cell? ⟨gb393, 1, none⟩ = some (.int .i64 t386) := (blk_cell BK393.out 1).trans rfl; have hfz87_0 := blk_frozen BK393.out 0; have hfz87_1 := blk_frozen BK393.out 1) | ((with_reducible refine gate_callee (f := 60) rfl ?_); refine goesL_ (some 90) rfl rfl Tryd.func60 (by kernel_rfl) rfl #[.pointer (some ⟨g, 0, none⟩), .int .i64 t385, .int .i64 t386] rfl q_6 ?_; (with_reducible refine (octet_In_Fail.calls g t378 t379 t380 t381 t382 t385 t386 t395 t396 t397 t398 t399 w0 _ ?side1 ?side2 A71.out).mono ?_); (case side1 => repeat (first | (with_reducible first | exact HI1.out | apply IsS70.alloc | apply IsS70.drewN | apply IsS70.drew | apply IsS70.set_0 | apply IsS70.set_1 | apply IsS70.set_2 | apply IsS70.set_3 | apply IsS70.set_4 | refine IsS70.far ?_ NB1_325.out _ | apply IsS70.far (hne := NB1_325.out) | refine IsS70.far ?_ NB1_393.out _ | apply IsS70.far (hne := NB1_393.out) | refine IsS70.far ?_ NB1_339.out _ | apply IsS70.far (hne := NB1_339.out)) | exact HI1.out)); (case side2 => repeat (first | (with_reducible first | exact HB.out | apply below_alloc | apply pw_below_drewN | apply below_drew1 | refine below_set ?_ (IsS36.ge HI339.out) | refine below_set ?_ (IsS70.ge HI1.out) | refine below_set ?_ GE325.out | refine below_set ?_ GE393.out) | exact HB.out)); rintro e w88 ⟨rfl, hi, hb, hk⟩; refine ⟨_, rfl, ?_⟩; have n0_ := Aside0.mk (KeepBut.blk hk (g' := gb325) (o := .cells #[.string (⟨#[]⟩ : ByteArray), .int .u8 0, .int .u8 0, .int .u8 0, .string (⟨#[]⟩ : ByteArray), .int .i64 0] 36 (0, 0)) q_43 NB325_1.out (by simp)); have n1_ := Aside0.mk (IsS36.keep (by repeat (first | (with_reducible first | exact HI339.out | apply IsS36.alloc | apply IsS36.drewN | apply IsS36.drew | apply IsS36.set_0 | apply IsS36.set_1 | apply IsS36.set_2 | apply IsS36.set_3 | apply IsS36.set_4 | apply IsS36.set_5 | refine IsS36.far ?_ NB339_325.out _ | apply IsS36.far (hne := NB339_325.out) | refine IsS36.far ?_ NB339_393.out _ | apply IsS36.far (hne := NB339_393.out) | refine IsS36.far ?_ NB339_1.out _ | apply IsS36.far (hne := NB339_1.out)) | exact HI339.out)) hk NB339_1.out); have n2_ := Aside0.mk (KeepBut.blk hk (g' := gb393) (o := .cells #[.int .i64 t385, .int .i64 t386] 39 (0, 0)) (by (with_reducible repeat (first | refine blk_drewN ?_ _ | refine blk_drew ?_ | refine blk_alloc ?_ _)); exact BK393.out) NB393_1.out (by simp)); have n3_ := Aside0.mk (KeepBut.trans q_53 hk (.inl rfl)); have n4_ := Aside0.mk (hb); have n5_ := Aside0.mk (hi); clear BK325; clear HI339; clear BK393; clear HK; clear HB; clear HI1; have BK325 := n0_; have HI339 := n1_; have BK393 := n2_; have HK := n3_; have HB := n4_; have HI1 := n5_; clear n0_ n1_ n2_ n3_ n4_ n5_; (try clear hb); (try clear hb2); (try clear hk); (try clear hi); have hnb89 := NB325_1.out; have hnc89 := NB1_325.out; have hcz90_0 : w88.cell? ⟨gb325, 0, none⟩ = some (.string (⟨#[]⟩ : ByteArray)) := (blk_cell BK325.out 0).trans rfl; have hcz90_1 : w88.cell? ⟨gb325, 1, none⟩ = some (.int .u8 0) := (blk_cell BK325.out 1).trans rfl; have hcz90_2 : w88.cell? ⟨gb325, 2, none⟩ = some (.int .u8 0) := (blk_cell BK325.out 2).trans rfl; have hcz90_3 : w88.cell? ⟨gb325, 3, none⟩ = some (.int .u8 0) := (blk_cell BK325.out 3).trans rfl; have hcz90_4 : w88.cell? ⟨gb325, 4, none⟩ = some (.string (⟨#[]⟩ : ByteArray)) := (blk_cell BK325.out 4).trans rfl; have hcz90_5 : w88.cell? ⟨gb325, 5, none⟩ = some (.int .i64 0) := (blk_cell BK325.out 5).trans rfl; have hfz90_0 := blk_frozen BK325.out 0; have hfz90_1 := blk_frozen BK325.out 1; have hfz90_2 := blk_frozen BK325.out 2; have hfz90_3 := blk_frozen BK325.out 3; have hfz90_4 := blk_frozen BK325.out 4; have hfz90_5 := blk_frozen BK325.out 5))
                          refine bodyPost_ret (results_ct rfl _ _ gb325 36 #[.string (⟨#[]⟩ : ByteArray), .int .u8 0, .int .u8 0, .int .u8 0, .string (⟨#[]⟩ : ByteArray), .int .i64 0] (0, 0) _ rfl q_45 Tryd.underlying36 rfl (by kernel_rfl)) rfl ?_
                          exact ⟨by first | rfl | (simp [errW_none, errW_some] <;> rfl) | (simp [*, errW_none, errW_some] <;> rfl), by repeat (first | (with_reducible first | exact HI1.out | apply IsS70.alloc | apply IsS70.drewN | apply IsS70.drew | apply IsS70.set_0 | apply IsS70.set_1 | apply IsS70.set_2 | apply IsS70.set_3 | apply IsS70.set_4 | refine IsS70.far ?_ NB1_325.out _ | apply IsS70.far (hne := NB1_325.out) | refine IsS70.far ?_ NB1_393.out _ | apply IsS70.far (hne := NB1_393.out) | refine IsS70.far ?_ NB1_339.out _ | apply IsS70.far (hne := NB1_339.out)) | exact HI1.out), by repeat (first | (with_reducible first | exact HB.out | apply below_alloc | apply pw_below_drewN | apply below_drew1 | refine below_set ?_ (IsS36.ge HI339.out) | refine below_set ?_ (IsS70.ge HI1.out) | refine below_set ?_ GE325.out | refine below_set ?_ GE393.out) | exact HB.out), by repeat (first | (with_reducible first | exact HK.out | apply KeepBut.set_ | apply keep_drewN | apply keep_drew | apply keep_alloc | refine keep_far ?_ GW325.out _ | refine keep_far ?_ GW393.out _ | refine keep_far ?_ GS339.out _) | exact HK.out)⟩
                        · replace c70 := Bool.eq_false_iff.mpr c70
                          subst c70
                          have H1 : (some (t387, t388, t389, t390, t391, t392, true, t378, t379, t380, t381, t382)) = some (r1, r2, r3, r4, r5, r6, r7, r8, r9, r10, r11, r12) := by rw [if_neg (show ¬ (false = true) by decide)] at H; exact H
                          clear H
                          have H := H1
                          clear H1
                          simp only [Option.some.injEq, Prod.mk.injEq] at H
                          obtain ⟨rfl, rfl, rfl, rfl, rfl, rfl, rfl, rfl, rfl, rfl, rfl, rfl⟩ := H
                          go_wp2_with (first | ((with_reducible refine gate_callee (f := 54) rfl ?_); refine goesL_ (some 64) rfl rfl Tryd.func54 (by kernel_rfl) rfl #[.pointer (some ⟨g, 0, none⟩)] rfl q_6 ?_; (with_reducible refine (octet_In_At.calls g x2000_18 x2001_18 x2002_18 x2003_18 x2004_18 t364 t365 t366 t367 t368 t369 w0 _ ?side1 ?side2 A43.out).mono ?_); (case side1 => repeat (first | (with_reducible first | exact HI1.out | apply IsS70.alloc | apply IsS70.drewN | apply IsS70.drew | apply IsS70.set_0 | apply IsS70.set_1 | apply IsS70.set_2 | apply IsS70.set_3 | apply IsS70.set_4 | refine IsS70.far ?_ NB1_325.out _ | apply IsS70.far (hne := NB1_325.out) | refine IsS70.far ?_ NB1_339.out _ | apply IsS70.far (hne := NB1_339.out)) | exact HI1.out)); (case side2 => repeat (first | (with_reducible first | exact HB.out | apply below_alloc | apply pw_below_drewN | apply below_drew1 | refine below_set ?_ (IsS70.ge HI1.out) | refine below_set ?_ GE325.out | refine below_set ?_ GE339.out) | exact HB.out)); rintro e w91 ⟨rfl, hi, hb, hk⟩; refine ⟨_, rfl, ?_⟩; have n0_ := Aside0.mk (KeepBut.blk hk (g' := gb325) (o := .cells #[.string (⟨#[]⟩ : ByteArray), .int .u8 0, .int .u8 0, .int .u8 0, .string (⟨#[]⟩ : ByteArray), .int .i64 0] 36 (0, 0)) q_43 NB325_1.out (by simp)); have n1_ := Aside0.mk (KeepBut.blk hk (g' := gb339) (o := .cells #[.string t340, .int .u8 x340001_18, .int .u8 x340002_37, .int .u8 0, .string (⟨#[]⟩ : ByteArray), .int .i64 t333] 36 (0, 0)) q_48 NB339_1.out (by simp)); have n2_ := Aside0.mk (KeepBut.trans q_46 hk (.inl rfl)); have n3_ := Aside0.mk (hb); have n4_ := Aside0.mk (hi); clear BK325; clear BK339; clear HK; clear HB; clear HI1; have BK325 := n0_; have BK339 := n1_; have HK := n2_; have HB := n3_; have HI1 := n4_; clear n0_ n1_ n2_ n3_ n4_; (try clear hb); (try clear hb2); (try clear hk); (try clear hi)) | ((with_reducible refine gate_callee (f := 58) rfl ?_); refine goesL_ (some 67) rfl rfl Tryd.func58 (by kernel_rfl) rfl #[.pointer (some ⟨g, 0, none⟩), .int .i64 t346] rfl q_6 ?_; (with_reducible refine (octet_In_Take.calls g t365 t366 t367 t368 t369 t346 t370 t371 t372 t373 t374 t375 w0 _ ?side1 ?side2 A44.out).mono ?_); (case side1 => repeat (first | (with_reducible first | exact HI1.out | apply IsS70.alloc | apply IsS70.drewN | apply IsS70.drew | apply IsS70.set_0 | apply IsS70.set_1 | apply IsS70.set_2 | apply IsS70.set_3 | apply IsS70.set_4 | refine IsS70.far ?_ NB1_325.out _ | apply IsS70.far (hne := NB1_325.out) | refine IsS70.far ?_ NB1_339.out _ | apply IsS70.far (hne := NB1_339.out)) | exact HI1.out)); (case side2 => repeat (first | (with_reducible first | exact HB.out | apply below_alloc | apply pw_below_drewN | apply below_drew1 | refine below_set ?_ (IsS70.ge HI1.out) | refine below_set ?_ GE325.out | refine below_set ?_ GE339.out) | exact HB.out)); rintro e w92 ⟨rfl, hi, hb, hk⟩; refine ⟨_, rfl, ?_⟩; have n0_ := Aside0.mk (KeepBut.blk hk (g' := gb325) (o := .cells #[.string (⟨#[]⟩ : ByteArray), .int .u8 0, .int .u8 0, .int .u8 0, .string (⟨#[]⟩ : ByteArray), .int .i64 0] 36 (0, 0)) q_43 NB325_1.out (by simp)); have n1_ := Aside0.mk (KeepBut.blk hk (g' := gb339) (o := .cells #[.string t340, .int .u8 x340001_18, .int .u8 x340002_37, .int .u8 0, .string (⟨#[]⟩ : ByteArray), .int .i64 t333] 36 (0, 0)) q_48 NB339_1.out (by simp)); have n2_ := Aside0.mk (KeepBut.trans q_46 hk (.inl rfl)); have n3_ := Aside0.mk (hb); have n4_ := Aside0.mk (hi); clear BK325; clear BK339; clear HK; clear HB; clear HI1; have BK325 := n0_; have BK339 := n1_; have HK := n2_; have HB := n3_; have HI1 := n4_; clear n0_ n1_ n2_ n3_ n4_; (try clear hb); (try clear hb2); (try clear hk); (try clear hi)) | ((with_reducible refine gate_callee (f := 41) rfl ?_); refine goesL_ (some 69) rfl rfl Tryd.func41 (by kernel_rfl) rfl #[.pointer (some ⟨g, 0, none⟩)] rfl q_6 ?_; (with_reducible refine (octet_In_Fault.calls g t371 t372 t373 t374 t375 t376 t377 t378 t379 t380 t381 t382 w0 _ ?side1 ?side2 A45.out).mono ?_); (case side1 => repeat (first | (with_reducible first | exact HI1.out | apply IsS70.alloc | apply IsS70.drewN | apply IsS70.drew | apply IsS70.set_0 | apply IsS70.set_1 | apply IsS70.set_2 | apply IsS70.set_3 | apply IsS70.set_4 | refine IsS70.far ?_ NB1_325.out _ | apply IsS70.far (hne := NB1_325.out) | refine IsS70.far ?_ NB1_339.out _ | apply IsS70.far (hne := NB1_339.out)) | exact HI1.out)); (case side2 => repeat (first | (with_reducible first | exact HB.out | apply below_alloc | apply pw_below_drewN | apply below_drew1 | refine below_set ?_ (IsS70.ge HI1.out) | refine below_set ?_ GE325.out | refine below_set ?_ GE339.out) | exact HB.out)); rintro e w93 ⟨rfl, hi, hb, hk⟩; refine ⟨_, rfl, ?_⟩; have n0_ := Aside0.mk (KeepBut.blk hk (g' := gb325) (o := .cells #[.string (⟨#[]⟩ : ByteArray), .int .u8 0, .int .u8 0, .int .u8 0, .string (⟨#[]⟩ : ByteArray), .int .i64 0] 36 (0, 0)) q_43 NB325_1.out (by simp)); have n1_ := Aside0.mk (KeepBut.blk hk (g' := gb339) (o := .cells #[.string t340, .int .u8 x340001_18, .int .u8 x340002_37, .int .u8 0, .string (⟨#[]⟩ : ByteArray), .int .i64 t333] 36 (0, 0)) q_48 NB339_1.out (by simp)); have n2_ := Aside0.mk (KeepBut.trans q_46 hk (.inl rfl)); have n3_ := Aside0.mk (hb); have n4_ := Aside0.mk (hi); clear BK325; clear BK339; clear HK; clear HB; clear HI1; have BK325 := n0_; have BK339 := n1_; have HK := n2_; have HB := n3_; have HI1 := n4_; clear n0_ n1_ n2_ n3_ n4_; (try clear hb); (try clear hb2); (try clear hk); (try clear hi)) | ((with_reducible refine gate_callee (f := 39) rfl ?_); refine goesL_ (some 70) rfl rfl Tryd.func39 (by kernel_rfl) rfl #[.agg #[.int .i64 t376, .int .i64 t377]] rfl q_6 ?_; (with_reducible refine (api_Fault_Bad.calls t376 t377 false _ A46.out).mono ?_); rintro e w94 ⟨rfl, hb⟩; refine ⟨_, rfl, ?_⟩; have n0_ := Aside0.mk (blk_below (g := gb325) (o := .cells #[.string (⟨#[]⟩ : ByteArray), .int .u8 0, .int .u8 0, .int .u8 0, .string (⟨#[]⟩ : ByteArray), .int .i64 0] 36 (0, 0)) q_43 hb); have n1_ := Aside0.mk (blk_below (g := gb339) (o := .cells #[.string t340, .int .u8 x340001_18, .int .u8 x340002_37, .int .u8 0, .string (⟨#[]⟩ : ByteArray), .int .i64 t333] 36 (0, 0)) q_48 hb); have n2_ := Aside0.mk (IsS70.below q_49 hb); have n3_ := Aside0.mk (KeepBut.trans q_46 (KeepBut.of_below hb g none) (.inl rfl)); have n4_ := Aside0.mk (below_step q_50 hb); clear BK325; clear BK339; clear HI1; clear HK; clear HB; have BK325 := n0_; have BK339 := n1_; have HI1 := n2_; have HK := n3_; have HB := n4_; clear n0_ n1_ n2_ n3_ n4_; (try clear hb); (try clear hb2); (try clear hk); (try clear hi); have hnb95 := NB339_325.out; have hnc95 := NB325_339.out; have hnb96 := NB339_1.out; have hnc96 := NB1_339.out; have hcz97_0 : w94.cell? ⟨gb339, 0, none⟩ = some (.string t340) := (blk_cell BK339.out 0).trans rfl; have hcz97_1 : w94.cell? ⟨gb339, 1, none⟩ = some (.int .u8 x340001_18) := (blk_cell BK339.out 1).trans rfl; have hcz97_2 : w94.cell? ⟨gb339, 2, none⟩ = some (.int .u8 x340002_37) := (blk_cell BK339.out 2).trans rfl; have hcz97_3 : w94.cell? ⟨gb339, 3, none⟩ = some (.int .u8 0) := (blk_cell BK339.out 3).trans rfl; have hcz97_4 : w94.cell? ⟨gb339, 4, none⟩ = some (.string (⟨#[]⟩ : ByteArray)) := (blk_cell BK339.out 4).trans rfl; have hcz97_5 : w94.cell? ⟨gb339, 5, none⟩ = some (.int .i64 t333) := (blk_cell BK339.out 5).trans rfl; have hfz97_0 := blk_frozen BK339.out 0; have hfz97_1 := blk_frozen BK339.out 1; have hfz97_2 := blk_frozen BK339.out 2; have hfz97_3 := blk_frozen BK339.out 3; have hfz97_4 := blk_frozen BK339.out 4; have hfz97_5 := blk_frozen BK339.out 5) | ((with_reducible refine gate_callee (f := 19) rfl ?_); refine goesL_ (some 77) rfl rfl Tryd.func19 (by kernel_rfl) rfl #[.agg #[.string t340, .int .u8 x340001_18, .int .u8 x340002_37], .int .i64 a0] rfl q_6 ?_; (with_reducible refine (frame_Head_Locked.calls t340 x340001_18 x340002_37 a0 false _ A55.out).mono ?_); rintro e w98 ⟨rfl, hb⟩; refine ⟨_, rfl, ?_⟩; have n0_ := Aside0.mk (blk_below (g := gb325) (o := .cells #[.string (⟨#[]⟩ : ByteArray), .int .u8 0, .int .u8 0, .int .u8 0, .string (⟨#[]⟩ : ByteArray), .int .i64 0] 36 (0, 0)) q_47 hb); have n1_ := Aside0.mk (blk_below (g := gb339) (o := .cells #[.string t340, .int .u8 x340001_18, .int .u8 x340002_37, .int .u8 0, .string t370, .int .i64 t333] 36 (0, 0)) q_51 hb); have n2_ := Aside0.mk (IsS70.below (show IsS70 w0 (w94.setCell ⟨gb339, 4, none⟩ (.string t370)) g t378 t379 t380 t381 t382 from by repeat (first | (with_reducible first | exact HI1.out | apply IsS70.alloc | apply IsS70.drewN | apply IsS70.drew | apply IsS70.set_0 | apply IsS70.set_1 | apply IsS70.set_2 | apply IsS70.set_3 | apply IsS70.set_4 | refine IsS70.far ?_ NB1_325.out _ | apply IsS70.far (hne := NB1_325.out) | refine IsS70.far ?_ NB1_339.out _ | apply IsS70.far (hne := NB1_339.out)) | exact HI1.out)) hb); have n3_ := Aside0.mk (KeepBut.trans q_46 (KeepBut.of_below hb g none) (.inl rfl)); have n4_ := Aside0.mk (below_step q_50 hb); clear BK325; clear BK339; clear HI1; clear HK; clear HB; have BK325 := n0_; have BK339 := n1_; have HI1 := n2_; have HK := n3_; have HB := n4_; clear n0_ n1_ n2_ n3_ n4_; (try clear hb); (try clear hb2); (try clear hk); (try clear hi); have HI339 := Aside0.mk (show IsS36 w0 w98 gb339 _ _ _ _ _ _ from ⟨BK339.out, GE339.out⟩); have GS339 := GW339) | ((with_reducible refine gate_callee (f := 59) rfl ?_); refine goesL_ (some 82) rfl rfl Tryd.func59 (by kernel_rfl) rfl #[.pointer (some ⟨gb339, 0, none⟩), .int .i64 a0, .string t370, .int .i64 t364] rfl q_6 ?_; (with_reducible refine (frame_Frame_content.calls kj37 gb339 t340 x340001_18 x340002_37 0 t370 t333 a0 t370 t364 t385 t386 t387 t388 t389 t390 t391 t392 w0 _ ?side1 ?side2 HG.out A68.out).mono ?_); (case side1 => repeat (first | (with_reducible first | exact HI339.out | apply IsS36.alloc | apply IsS36.drewN | apply IsS36.drew | apply IsS36.set_0 | apply IsS36.set_1 | apply IsS36.set_2 | apply IsS36.set_3 | apply IsS36.set_4 | apply IsS36.set_5 | refine IsS36.far ?_ NB339_325.out _ | apply IsS36.far (hne := NB339_325.out) | refine IsS36.far ?_ NB339_1.out _ | apply IsS36.far (hne := NB339_1.out)) | exact HI339.out)); (case side2 => repeat (first | (with_reducible first | exact HB.out | apply below_alloc | apply pw_below_drewN | apply below_drew1 | refine below_set ?_ (IsS36.ge HI339.out) | refine below_set ?_ (IsS70.ge HI1.out) | refine below_set ?_ GE325.out) | exact HB.out)); rintro e w99 ⟨rfl, hi, hb, hk⟩; refine ⟨_, rfl, ?_⟩; have n0_ := Aside0.mk (KeepBut.blk hk (g' := gb325) (o := .cells #[.string (⟨#[]⟩ : ByteArray), .int .u8 0, .int .u8 0, .int .u8 0, .string (⟨#[]⟩ : ByteArray), .int .i64 0] 36 (0, 0)) q_43 NB325_339.out (by simp)); have n1_ := Aside0.mk (IsS70.keep q_49 hk NB1_339.out); have n2_ := Aside0.mk (keep_other_ q_52 hk GS339.out); have n3_ := Aside0.mk (hb); have n4_ := Aside0.mk (hi); clear BK325; clear HI1; clear HK; clear HB; clear HI339; have BK325 := n0_; have HI1 := n1_; have HK := n2_; have HB := n3_; have HI339 := n4_; clear n0_ n1_ n2_ n3_ n4_; (try clear hb); (try clear hb2); (try clear hk); (try clear hi)) | ((with_reducible refine gate_dst (N := 13) rfl ?_); refine box_event ?hg (N := 13) ?hd (cs := #[.int .i64 0, .int .i64 0]) (t := 39) ?hr ?_; (case hd => rfl); (case hg => rfl); (case hr => first | (go_simp; done) | (go_simp; rfl)); intro gb393 hg w100 hbox hb; have n0_ := Aside0.mk (blk_below (g := gb325) (o := .cells #[.string (⟨#[]⟩ : ByteArray), .int .u8 0, .int .u8 0, .int .u8 0, .string (⟨#[]⟩ : ByteArray), .int .i64 0] 36 (0, 0)) q_43 hb); have n1_ := Aside0.mk (IsS36.below (by repeat (first | (with_reducible first | exact HI339.out | apply IsS36.alloc | apply IsS36.drewN | apply IsS36.drew | apply IsS36.set_0 | apply IsS36.set_1 | apply IsS36.set_2 | apply IsS36.set_3 | apply IsS36.set_4 | apply IsS36.set_5 | refine IsS36.far ?_ NB339_325.out _ | apply IsS36.far (hne := NB339_325.out) | refine IsS36.far ?_ NB339_1.out _ | apply IsS36.far (hne := NB339_1.out)) | exact HI339.out)) hb); have n2_ := Aside0.mk (IsS70.below q_49 hb); have n3_ := Aside0.mk (KeepBut.trans q_52 (KeepBut.of_below hb g none) (.inl rfl)); have n4_ := Aside0.mk (below_step (by repeat (first | (with_reducible first | exact HB.out | apply below_alloc | apply pw_below_drewN | apply below_drew1 | refine below_set ?_ (IsS36.ge HI339.out) | refine below_set ?_ (IsS70.ge HI1.out) | refine below_set ?_ GE325.out) | exact HB.out)) hb); have n5_ := Aside0.mk (hbox); have n6_ := Aside0.mk ((q_124 : w.heap.size ≤ gb393)); have n7_ := Aside0.mk ((Nat.le_trans HW0.out (q_124 : w.heap.size ≤ gb393) : w0.heap.size ≤ gb393)); have n8_ := Aside0.mk ((q_122 : gb325 ≠ gb393)); have n9_ := Aside0.mk ((q_123 : gb393 ≠ gb325)); have n10_ := Aside0.mk ((by rw [hg]; exact Nat.ne_of_lt (IsS36.lt (show IsS36 w0 _ gb339 t387 t388 t389 t390 t391 t392 from by repeat (first | (with_reducible first | exact HI339.out | apply IsS36.alloc | apply IsS36.drewN | apply IsS36.drew | apply IsS36.set_0 | apply IsS36.set_1 | apply IsS36.set_2 | apply IsS36.set_3 | apply IsS36.set_4 | apply IsS36.set_5 | refine IsS36.far ?_ NB339_325.out _ | apply IsS36.far (hne := NB339_325.out) | refine IsS36.far ?_ NB339_1.out _ | apply IsS36.far (hne := NB339_1.out)) | exact HI339.out))) : gb339 ≠ gb393)); have n11_ := Aside0.mk ((by rw [hg]; exact Nat.ne_of_gt (IsS36.lt (show IsS36 w0 _ gb339 t387 t388 t389 t390 t391 t392 from by repeat (first | (with_reducible first | exact HI339.out | apply IsS36.alloc | apply IsS36.drewN | apply IsS36.drew | apply IsS36.set_0 | apply IsS36.set_1 | apply IsS36.set_2 | apply IsS36.set_3 | apply IsS36.set_4 | apply IsS36.set_5 | refine IsS36.far ?_ NB339_325.out _ | apply IsS36.far (hne := NB339_325.out) | refine IsS36.far ?_ NB339_1.out _ | apply IsS36.far (hne := NB339_1.out)) | exact HI339.out))) : gb393 ≠ gb339)); have n12_ := Aside0.mk ((by rw [hg]; exact Nat.ne_of_lt (IsS70.lt (show IsS70 w0 _ g t378 t379 t380 t381 t382 from by repeat (first | (with_reducible first | exact HI1.out | apply IsS70.alloc | apply IsS70.drewN | apply IsS70.drew | apply IsS70.set_0 | apply IsS70.set_1 | apply IsS70.set_2 | apply IsS70.set_3 | apply IsS70.set_4 | refine IsS70.far ?_ NB1_325.out _ | apply IsS70.far (hne := NB1_325.out) | refine IsS70.far ?_ NB1_339.out _ | apply IsS70.far (hne := NB1_339.out)) | exact HI1.out))) : g ≠ gb393)); have n13_ := Aside0.mk ((by rw [hg]; exact Nat.ne_of_gt (IsS70.lt (show IsS70 w0 _ g t378 t379 t380 t381 t382 from by repeat (first | (with_reducible first | exact HI1.out | apply IsS70.alloc | apply IsS70.drewN | apply IsS70.drew | apply IsS70.set_0 | apply IsS70.set_1 | apply IsS70.set_2 | apply IsS70.set_3 | apply IsS70.set_4 | refine IsS70.far ?_ NB1_325.out _ | apply IsS70.far (hne := NB1_325.out) | refine IsS70.far ?_ NB1_339.out _ | apply IsS70.far (hne := NB1_339.out)) | exact HI1.out))) : gb393 ≠ g)); clear BK325; clear HI339; clear HI1; clear HK; clear HB; have BK325 := n0_; have HI339 := n1_; have HI1 := n2_; have HK := n3_; have HB := n4_; have BK393 := n5_; have GW393 := n6_; have GE393 := n7_; have NB325_393 := n8_; have NB393_325 := n9_; have NB339_393 := n10_; have NB393_339 := n11_; have NB1_393 := n12_; have NB393_1 := n13_; clear n0_ n1_ n2_ n3_ n4_ n5_ n6_ n7_ n8_ n9_ n10_ n11_ n12_ n13_; clear hb hbox hg; have hnb101 := NB393_325.out; have hnc101 := NB325_393.out; have hnb102 := NB393_339.out; have hnc102 := NB339_393.out; have hnb103 := NB393_1.out; have hnc103 := NB1_393.out; have hcz104_0 : w100.cell? ⟨gb393, 0, none⟩ = some (.int .i64 0) := (blk_cell BK393.out 0).trans rfl; have hcz104_1 : w100.cell? ⟨gb393, 1, none⟩ = some (.int .i64 0) := (blk_cell BK393.out 1).trans rfl; have hfz104_0 := blk_frozen BK393.out 0; have hfz104_1 := blk_frozen BK393.out 1) | ((with_reducible refine gate_callee (f := 39) rfl ?_); refine goesL_ (some 84) rfl rfl Tryd.func39 (by kernel_rfl) rfl #[.agg #[.int .i64 t385, .int .i64 t386]] rfl q_6 ?_; (with_reducible refine (api_Fault_Bad.calls t385 t386 false _ A69.out).mono ?_); rintro e w105 ⟨rfl, hb⟩; refine ⟨_, rfl, ?_⟩; have n0_ := Aside0.mk (blk_below (g := gb325) (o := .cells #[.string (⟨#[]⟩ : ByteArray), .int .u8 0, .int .u8 0, .int .u8 0, .string (⟨#[]⟩ : ByteArray), .int .i64 0] 36 (0, 0)) (by (with_reducible repeat (first | refine blk_drewN ?_ _ | refine blk_drew ?_ | refine blk_alloc ?_ _)); refine blk_far ?_ NB325_393.out _; (with_reducible repeat (first | refine blk_drewN ?_ _ | refine blk_drew ?_ | refine blk_alloc ?_ _)); refine blk_far ?_ NB325_393.out _; (with_reducible repeat (first | refine blk_drewN ?_ _ | refine blk_drew ?_ | refine blk_alloc ?_ _)); exact BK325.out) hb); have n1_ := Aside0.mk (IsS36.below (show IsS36 w0 ((w100.setCell ⟨gb393, 0, none⟩ (.int .i64 t385)).setCell ⟨gb393, 1, none⟩ (.int .i64 t386)) gb339 t387 t388 t389 t390 t391 t392 from by repeat (first | (with_reducible first | exact HI339.out | apply IsS36.alloc | apply IsS36.drewN | apply IsS36.drew | apply IsS36.set_0 | apply IsS36.set_1 | apply IsS36.set_2 | apply IsS36.set_3 | apply IsS36.set_4 | apply IsS36.set_5 | refine IsS36.far ?_ NB339_325.out _ | apply IsS36.far (hne := NB339_325.out) | refine IsS36.far ?_ NB339_393.out _ | apply IsS36.far (hne := NB339_393.out) | refine IsS36.far ?_ NB339_1.out _ | apply IsS36.far (hne := NB339_1.out)) | exact HI339.out)) hb); have n2_ := Aside0.mk (IsS70.below (show IsS70 w0 ((w100.setCell ⟨gb393, 0, none⟩ (.int .i64 t385)).setCell ⟨gb393, 1, none⟩ (.int .i64 t386)) g t378 t379 t380 t381 t382 from by repeat (first | (with_reducible first | exact HI1.out | apply IsS70.alloc | apply IsS70.drewN | apply IsS70.drew | apply IsS70.set_0 | apply IsS70.set_1 | apply IsS70.set_2 | apply IsS70.set_3 | apply IsS70.set_4 | refine IsS70.far ?_ NB1_325.out _ | apply IsS70.far (hne := NB1_325.out) | refine IsS70.far ?_ NB1_393.out _ | apply IsS70.far (hne := NB1_393.out) | refine IsS70.far ?_ NB1_339.out _ | apply IsS70.far (hne := NB1_339.out)) | exact HI1.out)) hb); have n3_ := Aside0.mk (blk_below (g := gb393) (o := .cells #[.int .i64 t385, .int .i64 t386] 39 (0, 0)) (by (with_reducible repeat (first | refine blk_drewN ?_ _ | refine blk_drew ?_ | refine blk_alloc ?_ _)); refine blk_put (cs := #[.int .i64 t385, .int .i64 0]) ?_ 1 _ rfl; (with_reducible repeat (first | refine blk_drewN ?_ _ | refine blk_drew ?_ | refine blk_alloc ?_ _)); refine blk_put (cs := #[.int .i64 0, .int .i64 0]) ?_ 0 _ rfl; (with_reducible repeat (first | refine blk_drewN ?_ _ | refine blk_drew ?_ | refine blk_alloc ?_ _)); exact BK393.out) hb); have n4_ := Aside0.mk (KeepBut.trans q_53 (KeepBut.of_below hb g none) (.inl rfl)); have n5_ := Aside0.mk (below_step (by repeat (first | (with_reducible first | exact HB.out | apply below_alloc | apply pw_below_drewN | apply below_drew1 | refine below_set ?_ (IsS36.ge HI339.out) | refine below_set ?_ (IsS70.ge HI1.out) | refine below_set ?_ GE325.out | refine below_set ?_ GE393.out) | exact HB.out)) hb); clear BK325; clear HI339; clear HI1; clear BK393; clear HK; clear HB; have BK325 := n0_; have HI339 := n1_; have HI1 := n2_; have BK393 := n3_; have HK := n4_; have HB := n5_; clear n0_ n1_ n2_ n3_ n4_ n5_; (try clear hb); (try clear hb2); (try clear hk); (try clear hi); obtain ⟨HGz106, hgz106⟩ := HI339.out; have hcz106_0 := cellS36_0 HGz106; have hcz106_1 := cellS36_1 HGz106; have hcz106_2 := cellS36_2 HGz106; have hcz106_3 := cellS36_3 HGz106; have hcz106_4 := cellS36_4 HGz106; have hcz106_5 := cellS36_5 HGz106; have hfz106_0 := blk_frozen HGz106 0; have hfz106_1 := blk_frozen HGz106 1; have hfz106_2 := blk_frozen HGz106 2; have hfz106_3 := blk_frozen HGz106 3; have hfz106_4 := blk_frozen HGz106 4; have hfz106_5 := blk_frozen HGz106 5; clear HGz106 hgz106; have hnb107 := NB325_1.out; have hnc107 := NB1_325.out; have hcz108_0 : w105.cell? ⟨gb325, 0, none⟩ = some (.string (⟨#[]⟩ : ByteArray)) := (blk_cell BK325.out 0).trans rfl; have hcz108_1 : w105.cell? ⟨gb325, 1, none⟩ = some (.int .u8 0) := (blk_cell BK325.out 1).trans rfl; have hcz108_2 : w105.cell? ⟨gb325, 2, none⟩ = some (.int .u8 0) := (blk_cell BK325.out 2).trans rfl; have hcz108_3 : w105.cell? ⟨gb325, 3, none⟩ = some (.int .u8 0) := (blk_cell BK325.out 3).trans rfl; have hcz108_4 : w105.cell? ⟨gb325, 4, none⟩ = some (.string (⟨#[]⟩ : ByteArray)) := (blk_cell BK325.out 4).trans rfl; have hcz108_5 : w105.cell? ⟨gb325, 5, none⟩ = some (.int .i64 0) := (blk_cell BK325.out 5).trans rfl; have hfz108_0 := blk_frozen BK325.out 0; have hfz108_1 := blk_frozen BK325.out 1; have hfz108_2 := blk_frozen BK325.out 2; have hfz108_3 := blk_frozen BK325.out 3; have hfz108_4 := blk_frozen BK325.out 4; have hfz108_5 := blk_frozen BK325.out 5))
                          refine bodyPost_ret (results_ct rfl _ _ gb325 36 #[.string t387, .int .u8 t388, .int .u8 t389, .int .u8 t390, .string t391, .int .i64 t392] (0, 0) _ rfl (by (with_reducible repeat (first | refine blk_drewN ?_ _ | refine blk_drew ?_ | refine blk_alloc ?_ _)); refine blk_put (cs := #[.string t387, .int .u8 t388, .int .u8 t389, .int .u8 t390, .string t391, .int .i64 0]) ?_ 5 _ rfl; (with_reducible repeat (first | refine blk_drewN ?_ _ | refine blk_drew ?_ | refine blk_alloc ?_ _)); refine blk_put (cs := #[.string t387, .int .u8 t388, .int .u8 t389, .int .u8 t390, .string (⟨#[]⟩ : ByteArray), .int .i64 0]) ?_ 4 _ rfl; (with_reducible repeat (first | refine blk_drewN ?_ _ | refine blk_drew ?_ | refine blk_alloc ?_ _)); refine blk_put (cs := #[.string t387, .int .u8 t388, .int .u8 t389, .int .u8 0, .string (⟨#[]⟩ : ByteArray), .int .i64 0]) ?_ 3 _ rfl; (with_reducible repeat (first | refine blk_drewN ?_ _ | refine blk_drew ?_ | refine blk_alloc ?_ _)); refine blk_put (cs := #[.string t387, .int .u8 t388, .int .u8 0, .int .u8 0, .string (⟨#[]⟩ : ByteArray), .int .i64 0]) ?_ 2 _ rfl; (with_reducible repeat (first | refine blk_drewN ?_ _ | refine blk_drew ?_ | refine blk_alloc ?_ _)); refine blk_put (cs := #[.string t387, .int .u8 0, .int .u8 0, .int .u8 0, .string (⟨#[]⟩ : ByteArray), .int .i64 0]) ?_ 1 _ rfl; (with_reducible repeat (first | refine blk_drewN ?_ _ | refine blk_drew ?_ | refine blk_alloc ?_ _)); refine blk_put (cs := #[.string (⟨#[]⟩ : ByteArray), .int .u8 0, .int .u8 0, .int .u8 0, .string (⟨#[]⟩ : ByteArray), .int .i64 0]) ?_ 0 _ rfl; (with_reducible repeat (first | refine blk_drewN ?_ _ | refine blk_drew ?_ | refine blk_alloc ?_ _)); exact BK325.out) Tryd.underlying36 rfl (by kernel_rfl)) rfl ?_
                          exact ⟨by first | rfl | (simp [errW_none, errW_some] <;> rfl) | (simp [*, errW_none, errW_some] <;> rfl), by repeat (first | (with_reducible first | exact HI1.out | apply IsS70.alloc | apply IsS70.drewN | apply IsS70.drew | apply IsS70.set_0 | apply IsS70.set_1 | apply IsS70.set_2 | apply IsS70.set_3 | apply IsS70.set_4 | refine IsS70.far ?_ NB1_325.out _ | apply IsS70.far (hne := NB1_325.out) | refine IsS70.far ?_ NB1_393.out _ | apply IsS70.far (hne := NB1_393.out) | refine IsS70.far ?_ NB1_339.out _ | apply IsS70.far (hne := NB1_339.out)) | exact HI1.out), by repeat (first | (with_reducible first | exact HB.out | apply below_alloc | apply pw_below_drewN | apply below_drew1 | refine below_set ?_ (IsS36.ge HI339.out) | refine below_set ?_ (IsS70.ge HI1.out) | refine below_set ?_ GE325.out | refine below_set ?_ GE393.out) | exact HB.out), by repeat (first | (with_reducible first | exact HK.out | apply KeepBut.set_ | apply keep_drewN | apply keep_drew | apply keep_alloc | refine keep_far ?_ GW325.out _ | refine keep_far ?_ GW393.out _ | refine keep_far ?_ GS339.out _) | exact HK.out)⟩

end Go.Proofs.YtlmhlmendnjmlaaDoor.PAll
