/- Written by a program of this session: functions of the Go program as Lean functions, and the walks that tie them to it. -/
import Derived.Test.YtmfamkkikiglmaaPAllx0
import Derived.Test.YtmfamkkikiglmaaPAllx3
import Derived.Test.YtmfamkkikiglmaaPAllx5
import Derived.Test.YtmfamkkikiglmaaPAllx6
import Derived.Test.YtmfamkkikiglmaaPAllx8
import Derived.Test.YtmfamkkikiglmaaPAllx9
namespace Go.Proofs.Ytmfamkkikiglmaa.PAll
open Go.RowKit Go.Proofs.YtmfamkkikiglmaaW.PrintWords Go.Proofs.YtmfamkkikiglmaaW.PrintLast Go.Proofs.YtmfamkkikiglmaaW.PrintMore
attribute [local go_sem] max2_int min2_int max_two min_two max_three min_three max_four min_four   -- for this text's walks alone
set_option linter.unusedVariables false
set_option linter.unusedSimpArgs false

/-! ### page_Parse: function 13 -/
mutual
def page_Parse.j0 : Nat → Int → Bool → ByteArray → Int → Int → Int → Int → Int → Int → Int → Int → ByteArray → ByteArray → Option (Int × Int × Int × Int × ByteArray × ByteArray × Bool × ByteArray × Int × Int × Int × Int)
  | 0, _, _, _, _, _, _, _, _, _, _, _, _, _ => none
  | k + 1, x5, x64, x1000, x1001, x1002, x1003, x1004, x186000, x186001, x186002, x186003, x186004, x186005 => if x64 = true then ((octet_In_Fail.f x1000 x1001 x1002 x1003 x1004 1 x5).bind fun bt268 => (page_Parse.j1 k bt268.1 bt268.2.1 bt268.2.2.1 bt268.2.2.2.1 bt268.2.2.2.2 x186000 x186001 x186002 x186003 x186004 x186005)) else (page_Parse.j1 k x1000 x1001 x1002 x1003 x1004 x186000 x186001 x186002 x186003 x186004 x186005)
def page_Parse.j1 : Nat → ByteArray → Int → Int → Int → Int → Int → Int → Int → Int → ByteArray → ByteArray → Option (Int × Int × Int × Int × ByteArray × ByteArray × Bool × ByteArray × Int × Int × Int × Int)
  | 0, _, _, _, _, _, _, _, _, _, _, _ => none
  | k + 1, x1000, x1001, x1002, x1003, x1004, x186000, x186001, x186002, x186003, x186004, x186005 => (octet_In_Fault.f x1000 x1001 x1002 x1003 x1004).bind fun bt273 => ((api_Fault_Bad.f bt273.1 bt273.2.1).bind fun t280 => (if t280 = true then (some (0, 0, 0, 0, (⟨#[]⟩ : ByteArray), (⟨#[]⟩ : ByteArray), false, bt273.2.2.1, bt273.2.2.2.1, bt273.2.2.2.2.1, bt273.2.2.2.2.2.1, bt273.2.2.2.2.2.2)) else (some (x186000, x186001, x186002, x186003, x186004, x186005, true, bt273.2.2.1, bt273.2.2.2.1, bt273.2.2.2.2.1, bt273.2.2.2.2.2.1, bt273.2.2.2.2.2.2))))
end
def page_Parse.f (k : Nat) (s0_0 : ByteArray) (s0_1 : Int) (s0_2 : Int) (s0_3 : Int) (s0_4 : Int) : Option (Int × Int × Int × Int × ByteArray × ByteArray × Bool × ByteArray × Int × Int × Int × Int) := (octet_In_Left.f s0_0 s0_1 s0_2 s0_3 s0_4).bind fun bt179 => (if bt179.1 = 0 then (some (0, 0, 0, 0, (⟨#[]⟩ : ByteArray), (⟨#[]⟩ : ByteArray), false, bt179.2.1, bt179.2.2.1, bt179.2.2.2.1, bt179.2.2.2.2.1, bt179.2.2.2.2.2)) else ((octet_In_Want.f k bt179.2.1 bt179.2.2.1 bt179.2.2.2.1 bt179.2.2.2.2.1 bt179.2.2.2.2.2 (⟨#[79, 103, 103, 83]⟩ : ByteArray)).bind fun bt186 => ((octet_In_Want.f k bt186.2.1 bt186.2.2.1 bt186.2.2.2.1 bt186.2.2.2.2.1 bt186.2.2.2.2.2 (⟨#[0]⟩ : ByteArray)).bind fun bt192 => ((octet_In_Big.f bt192.2.1 bt192.2.2.1 bt192.2.2.2.1 bt192.2.2.2.2.1 bt192.2.2.2.2.2 1).bind fun bt198 => ((octet_In_Small.f bt198.2.1 bt198.2.2.1 bt198.2.2.2.1 bt198.2.2.2.2.1 bt198.2.2.2.2.2 8).bind fun bt204 => ((octet_In_Small.f bt204.2.1 bt204.2.2.1 bt204.2.2.2.1 bt204.2.2.2.2.1 bt204.2.2.2.2.2 4).bind fun bt210 => ((octet_In_Small.f bt210.2.1 bt210.2.2.1 bt210.2.2.2.1 bt210.2.2.2.2.1 bt210.2.2.2.2.2 4).bind fun bt216 => ((octet_In_At.f bt216.2.1 bt216.2.2.1 bt216.2.2.2.1 bt216.2.2.2.2.1 bt216.2.2.2.2.2).bind fun bt222 => ((octet_In_Take.f bt222.2.1 bt222.2.2.1 bt222.2.2.2.1 bt222.2.2.2.2.1 bt222.2.2.2.2.2 4).bind fun bt228 => ((octet_In_Big.f bt228.2.1 bt228.2.2.1 bt228.2.2.2.1 bt228.2.2.2.2.1 bt228.2.2.2.2.2 1).bind fun bt234 => ((octet_In_Take.f bt234.2.1 bt234.2.2.1 bt234.2.2.2.1 bt234.2.2.2.2.1 bt234.2.2.2.2.2 (wrap64 (bt234.1))).bind fun bt240 => ((page_long.f k bt240.1).bind fun t246 => ((octet_In_Take.f bt240.2.1 bt240.2.2.1 bt240.2.2.2.1 bt240.2.2.2.2.1 bt240.2.2.2.2.2 t246).bind fun bt247 => ((octet_In_Fault.f bt247.2.1 bt247.2.2.1 bt247.2.2.2.1 bt247.2.2.2.2.1 bt247.2.2.2.2.2).bind fun bt253 => ((api_Fault_Bad.f bt253.1 bt253.2.1).bind fun t260 => (if t260 = true then (page_Parse.j0 k bt222.1 false bt253.2.2.1 bt253.2.2.2.1 bt253.2.2.2.2.1 bt253.2.2.2.2.2.1 bt253.2.2.2.2.2.2 ((bt198.1) % 256) bt204.1 ((bt210.1) % 4294967296) ((bt216.1) % 4294967296) bt240.1 bt247.1) else ((page_Page_front.f k ((bt198.1) % 256) bt204.1 ((bt210.1) % 4294967296) ((bt216.1) % 4294967296) bt240.1 bt247.1).bind fun t261 => ((page_Page_back.f k ((bt198.1) % 256) bt204.1 ((bt210.1) % 4294967296) ((bt216.1) % 4294967296) bt240.1 bt247.1).bind fun t262 => ((sum_Of.f k (([t261, (⟨#[0, 0, 0, 0]⟩ : ByteArray), t262] : List ByteArray))).bind fun t266 => ((sum_Sum_Bytes.f k t266).bind fun t267 => (page_Parse.j0 k bt222.1 (t267.toList != bt228.1.toList) bt253.2.2.1 bt253.2.2.2.1 bt253.2.2.2.2.1 bt253.2.2.2.2.2.1 bt253.2.2.2.2.2.2 ((bt198.1) % 256) bt204.1 ((bt210.1) % 4294967296) ((bt216.1) % 4294967296) bt240.1 bt247.1)))))))))))))))))))))
theorem page_Parse.mono_l : ∀ k, (∀ y0 y1 y2 y3 y4 y5 y6 y7 y8 y9 y10 y11 y12, LeO (page_Parse.j0 k y0 y1 y2 y3 y4 y5 y6 y7 y8 y9 y10 y11 y12) (page_Parse.j0 (k + 1) y0 y1 y2 y3 y4 y5 y6 y7 y8 y9 y10 y11 y12)) ∧ (∀ y0 y1 y2 y3 y4 y5 y6 y7 y8 y9 y10, LeO (page_Parse.j1 k y0 y1 y2 y3 y4 y5 y6 y7 y8 y9 y10) (page_Parse.j1 (k + 1) y0 y1 y2 y3 y4 y5 y6 y7 y8 y9 y10))
  | 0 => ⟨fun _ _ _ _ _ _ _ _ _ _ _ _ _ r h => by simp [page_Parse.j0] at h, fun _ _ _ _ _ _ _ _ _ _ _ r h => by simp [page_Parse.j1] at h⟩
  | k + 1 => by
    obtain ⟨ih0, ih1⟩ := page_Parse.mono_l k
    refine ⟨?_, ?_⟩
    · intro y0 y1 y2 y3 y4 y5 y6 y7 y8 y9 y10 y11 y12
      unfold page_Parse.j0
      repeat' first
      | (with_reducible exact ih0 _ _ _ _ _ _ _ _ _ _ _ _ _)
      | (with_reducible exact ih1 _ _ _ _ _ _ _ _ _ _ _)
      | (with_reducible exact octet_In_Want.mono _ _ _ _ _ _ _)
      | (with_reducible exact page_Page_back.mono _ _ _ _ _ _ _)
      | (with_reducible exact page_Page_front.mono _ _ _ _ _ _ _)
      | (with_reducible exact page_long.mono _ _)
      | (with_reducible exact sum_Of.mono _ _)
      | (with_reducible exact sum_Sum_Bytes.mono _ _)
      | (with_reducible exact LeO.refl _)
      | (with_reducible exact LeO.none _)
      | (with_reducible refine LeO.ite ?_ ?_)
      | (with_reducible refine LeO.bind ?_ (fun _ => ?_))
      | exact ih0 _ _ _ _ _ _ _ _ _ _ _ _ _
      | exact ih1 _ _ _ _ _ _ _ _ _ _ _
      | exact octet_In_Want.mono _ _ _ _ _ _ _
      | exact page_Page_back.mono _ _ _ _ _ _ _
      | exact page_Page_front.mono _ _ _ _ _ _ _
      | exact page_long.mono _ _
      | exact sum_Of.mono _ _
      | exact sum_Sum_Bytes.mono _ _
      | exact LeO.none _
      | refine LeO.ite ?_ ?_
      | refine LeO.bind ?_ (fun _ => ?_)
    · intro y0 y1 y2 y3 y4 y5 y6 y7 y8 y9 y10
      unfold page_Parse.j1
      repeat' first
      | (with_reducible exact ih0 _ _ _ _ _ _ _ _ _ _ _ _ _)
      | (with_reducible exact ih1 _ _ _ _ _ _ _ _ _ _ _)
      | (with_reducible exact octet_In_Want.mono _ _ _ _ _ _ _)
      | (with_reducible exact page_Page_back.mono _ _ _ _ _ _ _)
      | (with_reducible exact page_Page_front.mono _ _ _ _ _ _ _)
      | (with_reducible exact page_long.mono _ _)
      | (with_reducible exact sum_Of.mono _ _)
      | (with_reducible exact sum_Sum_Bytes.mono _ _)
      | (with_reducible exact LeO.refl _)
      | (with_reducible exact LeO.none _)
      | (with_reducible refine LeO.ite ?_ ?_)
      | (with_reducible refine LeO.bind ?_ (fun _ => ?_))
      | exact ih0 _ _ _ _ _ _ _ _ _ _ _ _ _
      | exact ih1 _ _ _ _ _ _ _ _ _ _ _
      | exact octet_In_Want.mono _ _ _ _ _ _ _
      | exact page_Page_back.mono _ _ _ _ _ _ _
      | exact page_Page_front.mono _ _ _ _ _ _ _
      | exact page_long.mono _ _
      | exact sum_Of.mono _ _
      | exact sum_Sum_Bytes.mono _ _
      | exact LeO.none _
      | refine LeO.ite ?_ ?_
      | refine LeO.bind ?_ (fun _ => ?_)
theorem page_Parse.mono : ∀ a0 a1 a2 a3 a4 k, LeO (page_Parse.f k a0 a1 a2 a3 a4) (page_Parse.f (k + 1) a0 a1 a2 a3 a4) := by
  intro a0 a1 a2 a3 a4 k
  obtain ⟨ih0, ih1⟩ := page_Parse.mono_l k
  unfold page_Parse.f
  repeat' first
      | (with_reducible exact ih0 _ _ _ _ _ _ _ _ _ _ _ _ _)
      | (with_reducible exact ih1 _ _ _ _ _ _ _ _ _ _ _)
      | (with_reducible exact octet_In_Want.mono _ _ _ _ _ _ _)
      | (with_reducible exact page_Page_back.mono _ _ _ _ _ _ _)
      | (with_reducible exact page_Page_front.mono _ _ _ _ _ _ _)
      | (with_reducible exact page_long.mono _ _)
      | (with_reducible exact sum_Of.mono _ _)
      | (with_reducible exact sum_Sum_Bytes.mono _ _)
      | (with_reducible exact LeO.refl _)
      | (with_reducible exact LeO.none _)
      | (with_reducible refine LeO.ite ?_ ?_)
      | (with_reducible refine LeO.bind ?_ (fun _ => ?_))
      | exact ih0 _ _ _ _ _ _ _ _ _ _ _ _ _
      | exact ih1 _ _ _ _ _ _ _ _ _ _ _
      | exact octet_In_Want.mono _ _ _ _ _ _ _
      | exact page_Page_back.mono _ _ _ _ _ _ _
      | exact page_Page_front.mono _ _ _ _ _ _ _
      | exact page_long.mono _ _
      | exact sum_Of.mono _ _
      | exact sum_Sum_Bytes.mono _ _
      | exact LeO.none _
      | refine LeO.ite ?_ ?_
      | refine LeO.bind ?_ (fun _ => ?_)
def page_Parse.T13 : Bool × List (List Nat × List Nat) := (true, [([], []), ([0], [0]), ([1, 1], [1]), ([2], [2]), ([3, 2], [3]), ([4], [4]), ([5, 4, 4], [4, 5]), ([4], [4]), ([7, 6, 4], [4, 7]), ([6, 8, 4], [4, 6, 8]), ([9, 8, 4], [4, 9]), ([10, 10, 4], [4, 10]), ([4], [4]), ([11, 12, 4], [4, 11, 12]), ([4, 13], [4, 13])])
def page_Parse.B13 : List Nat := [0, 1, 3, 7, 15, 31, 63, 31, 255, 511, 1023, 2047, 31, 8191, 16383]
theorem page_Parse.tab13 : rtab .any (opsOf Try.f13 13) = page_Parse.T13 := by kernel_rfl
theorem page_Parse.bits13 : waitsOk page_Parse.T13.2 page_Parse.B13 = true := by kernel_rfl
set_option maxHeartbeats 8000000 in
set_option maxRecDepth 100000 in
theorem page_Parse.calls (k : Nat) (g : Nat) (s0_0 : ByteArray) (s0_1 : Int) (s0_2 : Int) (s0_3 : Int) (s0_4 : Int) (r1 : Int) (r2 : Int) (r3 : Int) (r4 : Int) (r5 : ByteArray) (r6 : ByteArray) (r7 : Bool) (r8 : ByteArray) (r9 : Int) (r10 : Int) (r11 : Int) (r12 : Int) (w0 w : World) (hI : IsS81 w0 w g s0_0 s0_1 s0_2 s0_3 s0_4) (hB : Below w0.heap.size w0 w) (h : page_Parse.f k s0_0 s0_1 s0_2 s0_3 s0_4 = some (r1, r2, r3, r4, r5, r6, r7, r8, r9, r10, r11, r12)) :
    Calls Try.prog 13 #[.pointer (some ⟨g, 0, none⟩)] w fun e w' => e = .returned (.tuple #[.agg #[.int .u8 r1, .int .u64 r2, .int .u32 r3, .int .u32 r4, .string r5, .string r6], .bool r7]) ∧ IsS81 w0 w' g r8 r9 r10 r11 r12 ∧ Below w0.heap.size w0 w' ∧ KeepBut w w' g none := by
  have hu27 := Try.underlying27
  have HI0 := Aside0.mk hI
  have HK := Aside0.mk (KeepBut.refl w g none)
  have HL := Aside0.mk hB.size
  clear hI
  have HW0 := Aside0.mk hB.size
  have HB := Aside0.mk hB
  clear hB
  have H : ((octet_In_Left.f s0_0 s0_1 s0_2 s0_3 s0_4).bind fun bt179 => (if bt179.1 = 0 then (some (0, 0, 0, 0, (⟨#[]⟩ : ByteArray), (⟨#[]⟩ : ByteArray), false, bt179.2.1, bt179.2.2.1, bt179.2.2.2.1, bt179.2.2.2.2.1, bt179.2.2.2.2.2)) else ((octet_In_Want.f k bt179.2.1 bt179.2.2.1 bt179.2.2.2.1 bt179.2.2.2.2.1 bt179.2.2.2.2.2 (⟨#[79, 103, 103, 83]⟩ : ByteArray)).bind fun bt186 => ((octet_In_Want.f k bt186.2.1 bt186.2.2.1 bt186.2.2.2.1 bt186.2.2.2.2.1 bt186.2.2.2.2.2 (⟨#[0]⟩ : ByteArray)).bind fun bt192 => ((octet_In_Big.f bt192.2.1 bt192.2.2.1 bt192.2.2.2.1 bt192.2.2.2.2.1 bt192.2.2.2.2.2 1).bind fun bt198 => ((octet_In_Small.f bt198.2.1 bt198.2.2.1 bt198.2.2.2.1 bt198.2.2.2.2.1 bt198.2.2.2.2.2 8).bind fun bt204 => ((octet_In_Small.f bt204.2.1 bt204.2.2.1 bt204.2.2.2.1 bt204.2.2.2.2.1 bt204.2.2.2.2.2 4).bind fun bt210 => ((octet_In_Small.f bt210.2.1 bt210.2.2.1 bt210.2.2.2.1 bt210.2.2.2.2.1 bt210.2.2.2.2.2 4).bind fun bt216 => ((octet_In_At.f bt216.2.1 bt216.2.2.1 bt216.2.2.2.1 bt216.2.2.2.2.1 bt216.2.2.2.2.2).bind fun bt222 => ((octet_In_Take.f bt222.2.1 bt222.2.2.1 bt222.2.2.2.1 bt222.2.2.2.2.1 bt222.2.2.2.2.2 4).bind fun bt228 => ((octet_In_Big.f bt228.2.1 bt228.2.2.1 bt228.2.2.2.1 bt228.2.2.2.2.1 bt228.2.2.2.2.2 1).bind fun bt234 => ((octet_In_Take.f bt234.2.1 bt234.2.2.1 bt234.2.2.2.1 bt234.2.2.2.2.1 bt234.2.2.2.2.2 (wrap64 (bt234.1))).bind fun bt240 => ((page_long.f k bt240.1).bind fun t246 => ((octet_In_Take.f bt240.2.1 bt240.2.2.1 bt240.2.2.2.1 bt240.2.2.2.2.1 bt240.2.2.2.2.2 t246).bind fun bt247 => ((octet_In_Fault.f bt247.2.1 bt247.2.2.1 bt247.2.2.2.1 bt247.2.2.2.2.1 bt247.2.2.2.2.2).bind fun bt253 => ((api_Fault_Bad.f bt253.1 bt253.2.1).bind fun t260 => (if t260 = true then (page_Parse.j0 k bt222.1 false bt253.2.2.1 bt253.2.2.2.1 bt253.2.2.2.2.1 bt253.2.2.2.2.2.1 bt253.2.2.2.2.2.2 ((bt198.1) % 256) bt204.1 ((bt210.1) % 4294967296) ((bt216.1) % 4294967296) bt240.1 bt247.1) else ((page_Page_front.f k ((bt198.1) % 256) bt204.1 ((bt210.1) % 4294967296) ((bt216.1) % 4294967296) bt240.1 bt247.1).bind fun t261 => ((page_Page_back.f k ((bt198.1) % 256) bt204.1 ((bt210.1) % 4294967296) ((bt216.1) % 4294967296) bt240.1 bt247.1).bind fun t262 => ((sum_Of.f k (([t261, (⟨#[0, 0, 0, 0]⟩ : ByteArray), t262] : List ByteArray))).bind fun t266 => ((sum_Sum_Bytes.f k t266).bind fun t267 => (page_Parse.j0 k bt222.1 (t267.toList != bt228.1.toList) bt253.2.2.1 bt253.2.2.2.1 bt253.2.2.2.2.1 bt253.2.2.2.2.2.1 bt253.2.2.2.2.2.2 ((bt198.1) % 256) bt204.1 ((bt210.1) % 4294967296) ((bt216.1) % 4294967296) bt240.1 bt247.1)))))))))))))))))))))) = some (r1, r2, r3, r4, r5, r6, r7, r8, r9, r10, r11, r12) := h
  clear h
  replace H := Option.bind_eq_some_iff.mp H
  obtain ⟨⟨t179, t180, t181, t182, t183, t184⟩, A20, H⟩ := H
  replace H : (if t179 = 0 then (some (0, 0, 0, 0, (⟨#[]⟩ : ByteArray), (⟨#[]⟩ : ByteArray), false, t180, t181, t182, t183, t184)) else ((octet_In_Want.f k t180 t181 t182 t183 t184 (⟨#[79, 103, 103, 83]⟩ : ByteArray)).bind fun bt186 => ((octet_In_Want.f k bt186.2.1 bt186.2.2.1 bt186.2.2.2.1 bt186.2.2.2.2.1 bt186.2.2.2.2.2 (⟨#[0]⟩ : ByteArray)).bind fun bt192 => ((octet_In_Big.f bt192.2.1 bt192.2.2.1 bt192.2.2.2.1 bt192.2.2.2.2.1 bt192.2.2.2.2.2 1).bind fun bt198 => ((octet_In_Small.f bt198.2.1 bt198.2.2.1 bt198.2.2.2.1 bt198.2.2.2.2.1 bt198.2.2.2.2.2 8).bind fun bt204 => ((octet_In_Small.f bt204.2.1 bt204.2.2.1 bt204.2.2.2.1 bt204.2.2.2.2.1 bt204.2.2.2.2.2 4).bind fun bt210 => ((octet_In_Small.f bt210.2.1 bt210.2.2.1 bt210.2.2.2.1 bt210.2.2.2.2.1 bt210.2.2.2.2.2 4).bind fun bt216 => ((octet_In_At.f bt216.2.1 bt216.2.2.1 bt216.2.2.2.1 bt216.2.2.2.2.1 bt216.2.2.2.2.2).bind fun bt222 => ((octet_In_Take.f bt222.2.1 bt222.2.2.1 bt222.2.2.2.1 bt222.2.2.2.2.1 bt222.2.2.2.2.2 4).bind fun bt228 => ((octet_In_Big.f bt228.2.1 bt228.2.2.1 bt228.2.2.2.1 bt228.2.2.2.2.1 bt228.2.2.2.2.2 1).bind fun bt234 => ((octet_In_Take.f bt234.2.1 bt234.2.2.1 bt234.2.2.2.1 bt234.2.2.2.2.1 bt234.2.2.2.2.2 (wrap64 (bt234.1))).bind fun bt240 => ((page_long.f k bt240.1).bind fun t246 => ((octet_In_Take.f bt240.2.1 bt240.2.2.1 bt240.2.2.2.1 bt240.2.2.2.2.1 bt240.2.2.2.2.2 t246).bind fun bt247 => ((octet_In_Fault.f bt247.2.1 bt247.2.2.1 bt247.2.2.2.1 bt247.2.2.2.2.1 bt247.2.2.2.2.2).bind fun bt253 => ((api_Fault_Bad.f bt253.1 bt253.2.1).bind fun t260 => (if t260 = true then (page_Parse.j0 k bt222.1 false bt253.2.2.1 bt253.2.2.2.1 bt253.2.2.2.2.1 bt253.2.2.2.2.2.1 bt253.2.2.2.2.2.2 ((bt198.1) % 256) bt204.1 ((bt210.1) % 4294967296) ((bt216.1) % 4294967296) bt240.1 bt247.1) else ((page_Page_front.f k ((bt198.1) % 256) bt204.1 ((bt210.1) % 4294967296) ((bt216.1) % 4294967296) bt240.1 bt247.1).bind fun t261 => ((page_Page_back.f k ((bt198.1) % 256) bt204.1 ((bt210.1) % 4294967296) ((bt216.1) % 4294967296) bt240.1 bt247.1).bind fun t262 => ((sum_Of.f k (([t261, (⟨#[0, 0, 0, 0]⟩ : ByteArray), t262] : List ByteArray))).bind fun t266 => ((sum_Sum_Bytes.f k t266).bind fun t267 => (page_Parse.j0 k bt222.1 (t267.toList != bt228.1.toList) bt253.2.2.1 bt253.2.2.2.1 bt253.2.2.2.2.1 bt253.2.2.2.2.2.1 bt253.2.2.2.2.2.2 ((bt198.1) % 256) bt204.1 ((bt210.1) % 4294967296) ((bt216.1) % 4294967296) bt240.1 bt247.1))))))))))))))))))))) = some (r1, r2, r3, r4, r5, r6, r7, r8, r9, r10, r11, r12) := H
  have A2 := Aside0.mk A20
  clear A20
  by_cases c3 : t179 = 0
  · rw [if_pos c3] at H
    have c3b0 : (t179 == 0) = true := beq_iff_eq.mpr c3
    have c3b1 : (t179 != 0) = false := bne_eq_false_iff_eq.mpr c3
    clear c3
    simp only [Option.some.injEq, Prod.mk.injEq] at H
    obtain ⟨rfl, rfl, rfl, rfl, rfl, rfl, rfl, rfl, rfl, rfl, rfl, rfl⟩ := H
    go_enter Try.func13, Try.ntmps13
    go_wp2_with (first | ((with_reducible refine gate_dst (N := 2) rfl ?_); (try (refine gate_guard (by rfl) ?_; dsimp only)); refine box_event ?hg (N := 2) ?hd (cs := #[.int .u8 0, .int .u64 0, .int .u32 0, .int .u32 0, .string (⟨#[]⟩ : ByteArray), .string (⟨#[]⟩ : ByteArray)]) (t := 27) ?hr ?_; (case hd => rfl); (case hg => rfl); (case hr => first | (go_simp; done) | (go_simp; rfl)); intro gb178 hg w4 hbox hb; have n0_ := Aside0.mk (IsS81.below (by repeat (first | (with_reducible first | exact HI0.out | apply IsS81.alloc | apply IsS81.drewN | apply IsS81.drew | apply IsS81.set_0 | apply IsS81.set_1 | apply IsS81.set_2 | apply IsS81.set_3 | apply IsS81.set_4) | exact HI0.out)) hb); have n1_ := Aside0.mk (KeepBut.trans (by repeat (first | (with_reducible first | exact HK.out | apply KeepBut.set_ | apply keep_drewN | apply keep_drew | apply keep_alloc) | exact HK.out)) (KeepBut.of_below hb g none) (.inl rfl)); have n2_ := Aside0.mk (below_step (by repeat (first | (with_reducible first | exact HB.out | apply below_alloc | apply pw_below_drewN | apply below_drew1 | refine below_set ?_ (IsS81.ge HI0.out)) | exact HB.out)) hb); have n3_ := Aside0.mk (hbox); have n4_ := Aside0.mk ((by rw [hg]; exact (keep_size (w := w) (g := g) (row := none) (by repeat (first | (with_reducible first | exact HK.out | apply KeepBut.set_ | apply keep_drewN | apply keep_drew | apply keep_alloc) | exact HK.out))) : w.heap.size ≤ gb178)); have n5_ := Aside0.mk ((Nat.le_trans HW0.out (by rw [hg]; exact (keep_size (w := w) (g := g) (row := none) (by repeat (first | (with_reducible first | exact HK.out | apply KeepBut.set_ | apply keep_drewN | apply keep_drew | apply keep_alloc) | exact HK.out))) : w.heap.size ≤ gb178) : w0.heap.size ≤ gb178)); have n6_ := Aside0.mk ((by rw [hg]; exact Nat.ne_of_lt (IsS81.lt (show IsS81 w0 _ g s0_0 s0_1 s0_2 s0_3 s0_4 from by repeat (first | (with_reducible first | exact HI0.out | apply IsS81.alloc | apply IsS81.drewN | apply IsS81.drew | apply IsS81.set_0 | apply IsS81.set_1 | apply IsS81.set_2 | apply IsS81.set_3 | apply IsS81.set_4) | exact HI0.out))) : g ≠ gb178)); have n7_ := Aside0.mk ((by rw [hg]; exact Nat.ne_of_gt (IsS81.lt (show IsS81 w0 _ g s0_0 s0_1 s0_2 s0_3 s0_4 from by repeat (first | (with_reducible first | exact HI0.out | apply IsS81.alloc | apply IsS81.drewN | apply IsS81.drew | apply IsS81.set_0 | apply IsS81.set_1 | apply IsS81.set_2 | apply IsS81.set_3 | apply IsS81.set_4) | exact HI0.out))) : gb178 ≠ g)); clear HI0; clear HK; clear HB; have HI0 := n0_; have HK := n1_; have HB := n2_; have BK178 := n3_; have GW178 := n4_; have GE178 := n5_; have NB0_178 := n6_; have NB178_0 := n7_; clear n0_ n1_ n2_ n3_ n4_ n5_ n6_ n7_; clear hb hbox hg) | ((with_reducible refine gate_callee (f := 40) rfl ?_); refine goesL_ (some 8) rfl rfl Try.func40 (by kernel_rfl) rfl #[.pointer (some ⟨g, 0, none⟩)] rfl (by (try simp only [List.map_toArray, List.map_cons, List.map_nil]); first | done | rfl | (simp only [List.length_drop, List.length_take]; rfl)) ?_; (with_reducible refine (octet_In_Left.calls g s0_0 s0_1 s0_2 s0_3 s0_4 t179 t180 t181 t182 t183 t184 w0 _ ?side1 ?side2 A2.out).mono ?_); (case side1 => repeat (first | (with_reducible first | exact HI0.out | apply IsS81.alloc | apply IsS81.drewN | apply IsS81.drew | apply IsS81.set_0 | apply IsS81.set_1 | apply IsS81.set_2 | apply IsS81.set_3 | apply IsS81.set_4 | refine IsS81.far ?_ NB0_178.out _ | apply IsS81.far (hne := NB0_178.out)) | exact HI0.out)); (case side2 => repeat (first | (with_reducible first | exact HB.out | apply below_alloc | apply pw_below_drewN | apply below_drew1 | refine below_set ?_ (IsS81.ge HI0.out) | refine below_set ?_ GE178.out) | exact HB.out)); rintro e w5 ⟨rfl, hi, hb, hk⟩; refine ⟨_, rfl, ?_⟩; have n0_ := Aside0.mk (KeepBut.blk hk (g' := gb178) (o := .cells #[.int .u8 0, .int .u64 0, .int .u32 0, .int .u32 0, .string (⟨#[]⟩ : ByteArray), .string (⟨#[]⟩ : ByteArray)] 27 (0, 0)) (by (with_reducible repeat (first | refine blk_drewN ?_ _ | refine blk_drew ?_ | refine blk_alloc ?_ _)); exact BK178.out) NB178_0.out (by simp)); have n1_ := Aside0.mk (KeepBut.trans (by repeat (first | (with_reducible first | exact HK.out | apply KeepBut.set_ | apply keep_drewN | apply keep_drew | apply keep_alloc | refine keep_far ?_ GW178.out _) | exact HK.out)) hk (.inl rfl)); have n2_ := Aside0.mk (hb); have n3_ := Aside0.mk (hi); clear BK178; clear HK; clear HB; clear HI0; have BK178 := n0_; have HK := n1_; have HB := n2_; have HI0 := n3_; clear n0_ n1_ n2_ n3_; (try clear hb); (try clear hb2); (try clear hk); (try clear hi); have hnb6 := NB178_0.out; have hnc6 := NB0_178.out; have hcz7_0 : w5.cell? ⟨gb178, 0, none⟩ = some (.int .u8 0) := (blk_cell BK178.out 0).trans rfl; have hcz7_1 : w5.cell? ⟨gb178, 1, none⟩ = some (.int .u64 0) := (blk_cell BK178.out 1).trans rfl; have hcz7_2 : w5.cell? ⟨gb178, 2, none⟩ = some (.int .u32 0) := (blk_cell BK178.out 2).trans rfl; have hcz7_3 : w5.cell? ⟨gb178, 3, none⟩ = some (.int .u32 0) := (blk_cell BK178.out 3).trans rfl; have hcz7_4 : w5.cell? ⟨gb178, 4, none⟩ = some (.string (⟨#[]⟩ : ByteArray)) := (blk_cell BK178.out 4).trans rfl; have hcz7_5 : w5.cell? ⟨gb178, 5, none⟩ = some (.string (⟨#[]⟩ : ByteArray)) := (blk_cell BK178.out 5).trans rfl; have hfz7_0 := blk_frozen BK178.out 0; have hfz7_1 := blk_frozen BK178.out 1; have hfz7_2 := blk_frozen BK178.out 2; have hfz7_3 := blk_frozen BK178.out 3; have hfz7_4 := blk_frozen BK178.out 4; have hfz7_5 := blk_frozen BK178.out 5))
    refine bodyPost_ret (results_ct rfl _ _ gb178 27 #[.int .u8 0, .int .u64 0, .int .u32 0, .int .u32 0, .string (⟨#[]⟩ : ByteArray), .string (⟨#[]⟩ : ByteArray)] (0, 0) _ rfl (by (with_reducible repeat (first | refine blk_drewN ?_ _ | refine blk_drew ?_ | refine blk_alloc ?_ _)); refine blk_put (cs := #[.int .u8 0, .int .u64 0, .int .u32 0, .int .u32 0, .string (⟨#[]⟩ : ByteArray), .string (⟨#[]⟩ : ByteArray)]) ?_ 5 _ rfl; (with_reducible repeat (first | refine blk_drewN ?_ _ | refine blk_drew ?_ | refine blk_alloc ?_ _)); refine blk_put (cs := #[.int .u8 0, .int .u64 0, .int .u32 0, .int .u32 0, .string (⟨#[]⟩ : ByteArray), .string (⟨#[]⟩ : ByteArray)]) ?_ 4 _ rfl; (with_reducible repeat (first | refine blk_drewN ?_ _ | refine blk_drew ?_ | refine blk_alloc ?_ _)); refine blk_put (cs := #[.int .u8 0, .int .u64 0, .int .u32 0, .int .u32 0, .string (⟨#[]⟩ : ByteArray), .string (⟨#[]⟩ : ByteArray)]) ?_ 3 _ rfl; (with_reducible repeat (first | refine blk_drewN ?_ _ | refine blk_drew ?_ | refine blk_alloc ?_ _)); refine blk_put (cs := #[.int .u8 0, .int .u64 0, .int .u32 0, .int .u32 0, .string (⟨#[]⟩ : ByteArray), .string (⟨#[]⟩ : ByteArray)]) ?_ 2 _ rfl; (with_reducible repeat (first | refine blk_drewN ?_ _ | refine blk_drew ?_ | refine blk_alloc ?_ _)); refine blk_put (cs := #[.int .u8 0, .int .u64 0, .int .u32 0, .int .u32 0, .string (⟨#[]⟩ : ByteArray), .string (⟨#[]⟩ : ByteArray)]) ?_ 1 _ rfl; (with_reducible repeat (first | refine blk_drewN ?_ _ | refine blk_drew ?_ | refine blk_alloc ?_ _)); refine blk_put (cs := #[.int .u8 0, .int .u64 0, .int .u32 0, .int .u32 0, .string (⟨#[]⟩ : ByteArray), .string (⟨#[]⟩ : ByteArray)]) ?_ 0 _ rfl; (with_reducible repeat (first | refine blk_drewN ?_ _ | refine blk_drew ?_ | refine blk_alloc ?_ _)); exact BK178.out) Try.underlying27 rfl (by kernel_rfl)) rfl ?_
    exact ⟨by first | rfl | (simp [errW_none, errW_some] <;> rfl) | (simp [*, errW_none, errW_some] <;> rfl), by repeat (first | (with_reducible first | exact HI0.out | apply IsS81.alloc | apply IsS81.drewN | apply IsS81.drew | apply IsS81.set_0 | apply IsS81.set_1 | apply IsS81.set_2 | apply IsS81.set_3 | apply IsS81.set_4 | refine IsS81.far ?_ NB0_178.out _ | apply IsS81.far (hne := NB0_178.out)) | exact HI0.out), by repeat (first | (with_reducible first | exact HB.out | apply below_alloc | apply pw_below_drewN | apply below_drew1 | refine below_set ?_ (IsS81.ge HI0.out) | refine below_set ?_ GE178.out) | exact HB.out), by repeat (first | (with_reducible first | exact HK.out | apply KeepBut.set_ | apply keep_drewN | apply keep_drew | apply keep_alloc | refine keep_far ?_ GW178.out _) | exact HK.out)⟩
  · rw [if_neg c3] at H
    have c3b0 : (t179 == 0) = false := beq_eq_false_iff_ne.mpr c3
    have c3b1 : (t179 != 0) = true := bne_iff_ne.mpr c3
    replace H := Option.bind_eq_some_iff.mp H
    obtain ⟨⟨t186, t187, t188, t189, t190, t191⟩, A80, H⟩ := H
    replace H : ((octet_In_Want.f k t187 t188 t189 t190 t191 (⟨#[0]⟩ : ByteArray)).bind fun bt192 => ((octet_In_Big.f bt192.2.1 bt192.2.2.1 bt192.2.2.2.1 bt192.2.2.2.2.1 bt192.2.2.2.2.2 1).bind fun bt198 => ((octet_In_Small.f bt198.2.1 bt198.2.2.1 bt198.2.2.2.1 bt198.2.2.2.2.1 bt198.2.2.2.2.2 8).bind fun bt204 => ((octet_In_Small.f bt204.2.1 bt204.2.2.1 bt204.2.2.2.1 bt204.2.2.2.2.1 bt204.2.2.2.2.2 4).bind fun bt210 => ((octet_In_Small.f bt210.2.1 bt210.2.2.1 bt210.2.2.2.1 bt210.2.2.2.2.1 bt210.2.2.2.2.2 4).bind fun bt216 => ((octet_In_At.f bt216.2.1 bt216.2.2.1 bt216.2.2.2.1 bt216.2.2.2.2.1 bt216.2.2.2.2.2).bind fun bt222 => ((octet_In_Take.f bt222.2.1 bt222.2.2.1 bt222.2.2.2.1 bt222.2.2.2.2.1 bt222.2.2.2.2.2 4).bind fun bt228 => ((octet_In_Big.f bt228.2.1 bt228.2.2.1 bt228.2.2.2.1 bt228.2.2.2.2.1 bt228.2.2.2.2.2 1).bind fun bt234 => ((octet_In_Take.f bt234.2.1 bt234.2.2.1 bt234.2.2.2.1 bt234.2.2.2.2.1 bt234.2.2.2.2.2 (wrap64 (bt234.1))).bind fun bt240 => ((page_long.f k bt240.1).bind fun t246 => ((octet_In_Take.f bt240.2.1 bt240.2.2.1 bt240.2.2.2.1 bt240.2.2.2.2.1 bt240.2.2.2.2.2 t246).bind fun bt247 => ((octet_In_Fault.f bt247.2.1 bt247.2.2.1 bt247.2.2.2.1 bt247.2.2.2.2.1 bt247.2.2.2.2.2).bind fun bt253 => ((api_Fault_Bad.f bt253.1 bt253.2.1).bind fun t260 => (if t260 = true then (page_Parse.j0 k bt222.1 false bt253.2.2.1 bt253.2.2.2.1 bt253.2.2.2.2.1 bt253.2.2.2.2.2.1 bt253.2.2.2.2.2.2 ((bt198.1) % 256) bt204.1 ((bt210.1) % 4294967296) ((bt216.1) % 4294967296) bt240.1 bt247.1) else ((page_Page_front.f k ((bt198.1) % 256) bt204.1 ((bt210.1) % 4294967296) ((bt216.1) % 4294967296) bt240.1 bt247.1).bind fun t261 => ((page_Page_back.f k ((bt198.1) % 256) bt204.1 ((bt210.1) % 4294967296) ((bt216.1) % 4294967296) bt240.1 bt247.1).bind fun t262 => ((sum_Of.f k (([t261, (⟨#[0, 0, 0, 0]⟩ : ByteArray), t262] : List ByteArray))).bind fun t266 => ((sum_Sum_Bytes.f k t266).bind fun t267 => (page_Parse.j0 k bt222.1 (t267.toList != bt228.1.toList) bt253.2.2.1 bt253.2.2.2.1 bt253.2.2.2.2.1 bt253.2.2.2.2.2.1 bt253.2.2.2.2.2.2 ((bt198.1) % 256) bt204.1 ((bt210.1) % 4294967296) ((bt216.1) % 4294967296) bt240.1 bt247.1))))))))))))))))))) = some (r1, r2, r3, r4, r5, r6, r7, r8, r9, r10, r11, r12) := H
    have A8 := Aside0.mk A80
    clear A80
    replace H := Option.bind_eq_some_iff.mp H
    obtain ⟨⟨t192, t193, t194, t195, t196, t197⟩, A90, H⟩ := H
    replace H : ((octet_In_Big.f t193 t194 t195 t196 t197 1).bind fun bt198 => ((octet_In_Small.f bt198.2.1 bt198.2.2.1 bt198.2.2.2.1 bt198.2.2.2.2.1 bt198.2.2.2.2.2 8).bind fun bt204 => ((octet_In_Small.f bt204.2.1 bt204.2.2.1 bt204.2.2.2.1 bt204.2.2.2.2.1 bt204.2.2.2.2.2 4).bind fun bt210 => ((octet_In_Small.f bt210.2.1 bt210.2.2.1 bt210.2.2.2.1 bt210.2.2.2.2.1 bt210.2.2.2.2.2 4).bind fun bt216 => ((octet_In_At.f bt216.2.1 bt216.2.2.1 bt216.2.2.2.1 bt216.2.2.2.2.1 bt216.2.2.2.2.2).bind fun bt222 => ((octet_In_Take.f bt222.2.1 bt222.2.2.1 bt222.2.2.2.1 bt222.2.2.2.2.1 bt222.2.2.2.2.2 4).bind fun bt228 => ((octet_In_Big.f bt228.2.1 bt228.2.2.1 bt228.2.2.2.1 bt228.2.2.2.2.1 bt228.2.2.2.2.2 1).bind fun bt234 => ((octet_In_Take.f bt234.2.1 bt234.2.2.1 bt234.2.2.2.1 bt234.2.2.2.2.1 bt234.2.2.2.2.2 (wrap64 (bt234.1))).bind fun bt240 => ((page_long.f k bt240.1).bind fun t246 => ((octet_In_Take.f bt240.2.1 bt240.2.2.1 bt240.2.2.2.1 bt240.2.2.2.2.1 bt240.2.2.2.2.2 t246).bind fun bt247 => ((octet_In_Fault.f bt247.2.1 bt247.2.2.1 bt247.2.2.2.1 bt247.2.2.2.2.1 bt247.2.2.2.2.2).bind fun bt253 => ((api_Fault_Bad.f bt253.1 bt253.2.1).bind fun t260 => (if t260 = true then (page_Parse.j0 k bt222.1 false bt253.2.2.1 bt253.2.2.2.1 bt253.2.2.2.2.1 bt253.2.2.2.2.2.1 bt253.2.2.2.2.2.2 ((bt198.1) % 256) bt204.1 ((bt210.1) % 4294967296) ((bt216.1) % 4294967296) bt240.1 bt247.1) else ((page_Page_front.f k ((bt198.1) % 256) bt204.1 ((bt210.1) % 4294967296) ((bt216.1) % 4294967296) bt240.1 bt247.1).bind fun t261 => ((page_Page_back.f k ((bt198.1) % 256) bt204.1 ((bt210.1) % 4294967296) ((bt216.1) % 4294967296) bt240.1 bt247.1).bind fun t262 => ((sum_Of.f k (([t261, (⟨#[0, 0, 0, 0]⟩ : ByteArray), t262] : List ByteArray))).bind fun t266 => ((sum_Sum_Bytes.f k t266).bind fun t267 => (page_Parse.j0 k bt222.1 (t267.toList != bt228.1.toList) bt253.2.2.1 bt253.2.2.2.1 bt253.2.2.2.2.1 bt253.2.2.2.2.2.1 bt253.2.2.2.2.2.2 ((bt198.1) % 256) bt204.1 ((bt210.1) % 4294967296) ((bt216.1) % 4294967296) bt240.1 bt247.1)))))))))))))))))) = some (r1, r2, r3, r4, r5, r6, r7, r8, r9, r10, r11, r12) := H
    have A9 := Aside0.mk A90
    clear A90
    replace H := Option.bind_eq_some_iff.mp H
    obtain ⟨⟨t198, t199, t200, t201, t202, t203⟩, A100, H⟩ := H
    replace H : ((octet_In_Small.f t199 t200 t201 t202 t203 8).bind fun bt204 => ((octet_In_Small.f bt204.2.1 bt204.2.2.1 bt204.2.2.2.1 bt204.2.2.2.2.1 bt204.2.2.2.2.2 4).bind fun bt210 => ((octet_In_Small.f bt210.2.1 bt210.2.2.1 bt210.2.2.2.1 bt210.2.2.2.2.1 bt210.2.2.2.2.2 4).bind fun bt216 => ((octet_In_At.f bt216.2.1 bt216.2.2.1 bt216.2.2.2.1 bt216.2.2.2.2.1 bt216.2.2.2.2.2).bind fun bt222 => ((octet_In_Take.f bt222.2.1 bt222.2.2.1 bt222.2.2.2.1 bt222.2.2.2.2.1 bt222.2.2.2.2.2 4).bind fun bt228 => ((octet_In_Big.f bt228.2.1 bt228.2.2.1 bt228.2.2.2.1 bt228.2.2.2.2.1 bt228.2.2.2.2.2 1).bind fun bt234 => ((octet_In_Take.f bt234.2.1 bt234.2.2.1 bt234.2.2.2.1 bt234.2.2.2.2.1 bt234.2.2.2.2.2 (wrap64 (bt234.1))).bind fun bt240 => ((page_long.f k bt240.1).bind fun t246 => ((octet_In_Take.f bt240.2.1 bt240.2.2.1 bt240.2.2.2.1 bt240.2.2.2.2.1 bt240.2.2.2.2.2 t246).bind fun bt247 => ((octet_In_Fault.f bt247.2.1 bt247.2.2.1 bt247.2.2.2.1 bt247.2.2.2.2.1 bt247.2.2.2.2.2).bind fun bt253 => ((api_Fault_Bad.f bt253.1 bt253.2.1).bind fun t260 => (if t260 = true then (page_Parse.j0 k bt222.1 false bt253.2.2.1 bt253.2.2.2.1 bt253.2.2.2.2.1 bt253.2.2.2.2.2.1 bt253.2.2.2.2.2.2 ((t198) % 256) bt204.1 ((bt210.1) % 4294967296) ((bt216.1) % 4294967296) bt240.1 bt247.1) else ((page_Page_front.f k ((t198) % 256) bt204.1 ((bt210.1) % 4294967296) ((bt216.1) % 4294967296) bt240.1 bt247.1).bind fun t261 => ((page_Page_back.f k ((t198) % 256) bt204.1 ((bt210.1) % 4294967296) ((bt216.1) % 4294967296) bt240.1 bt247.1).bind fun t262 => ((sum_Of.f k (([t261, (⟨#[0, 0, 0, 0]⟩ : ByteArray), t262] : List ByteArray))).bind fun t266 => ((sum_Sum_Bytes.f k t266).bind fun t267 => (page_Parse.j0 k bt222.1 (t267.toList != bt228.1.toList) bt253.2.2.1 bt253.2.2.2.1 bt253.2.2.2.2.1 bt253.2.2.2.2.2.1 bt253.2.2.2.2.2.2 ((t198) % 256) bt204.1 ((bt210.1) % 4294967296) ((bt216.1) % 4294967296) bt240.1 bt247.1))))))))))))))))) = some (r1, r2, r3, r4, r5, r6, r7, r8, r9, r10, r11, r12) := H
    have A10 := Aside0.mk A100
    clear A100
    replace H := Option.bind_eq_some_iff.mp H
    obtain ⟨⟨t204, t205, t206, t207, t208, t209⟩, A110, H⟩ := H
    replace H : ((octet_In_Small.f t205 t206 t207 t208 t209 4).bind fun bt210 => ((octet_In_Small.f bt210.2.1 bt210.2.2.1 bt210.2.2.2.1 bt210.2.2.2.2.1 bt210.2.2.2.2.2 4).bind fun bt216 => ((octet_In_At.f bt216.2.1 bt216.2.2.1 bt216.2.2.2.1 bt216.2.2.2.2.1 bt216.2.2.2.2.2).bind fun bt222 => ((octet_In_Take.f bt222.2.1 bt222.2.2.1 bt222.2.2.2.1 bt222.2.2.2.2.1 bt222.2.2.2.2.2 4).bind fun bt228 => ((octet_In_Big.f bt228.2.1 bt228.2.2.1 bt228.2.2.2.1 bt228.2.2.2.2.1 bt228.2.2.2.2.2 1).bind fun bt234 => ((octet_In_Take.f bt234.2.1 bt234.2.2.1 bt234.2.2.2.1 bt234.2.2.2.2.1 bt234.2.2.2.2.2 (wrap64 (bt234.1))).bind fun bt240 => ((page_long.f k bt240.1).bind fun t246 => ((octet_In_Take.f bt240.2.1 bt240.2.2.1 bt240.2.2.2.1 bt240.2.2.2.2.1 bt240.2.2.2.2.2 t246).bind fun bt247 => ((octet_In_Fault.f bt247.2.1 bt247.2.2.1 bt247.2.2.2.1 bt247.2.2.2.2.1 bt247.2.2.2.2.2).bind fun bt253 => ((api_Fault_Bad.f bt253.1 bt253.2.1).bind fun t260 => (if t260 = true then (page_Parse.j0 k bt222.1 false bt253.2.2.1 bt253.2.2.2.1 bt253.2.2.2.2.1 bt253.2.2.2.2.2.1 bt253.2.2.2.2.2.2 ((t198) % 256) t204 ((bt210.1) % 4294967296) ((bt216.1) % 4294967296) bt240.1 bt247.1) else ((page_Page_front.f k ((t198) % 256) t204 ((bt210.1) % 4294967296) ((bt216.1) % 4294967296) bt240.1 bt247.1).bind fun t261 => ((page_Page_back.f k ((t198) % 256) t204 ((bt210.1) % 4294967296) ((bt216.1) % 4294967296) bt240.1 bt247.1).bind fun t262 => ((sum_Of.f k (([t261, (⟨#[0, 0, 0, 0]⟩ : ByteArray), t262] : List ByteArray))).bind fun t266 => ((sum_Sum_Bytes.f k t266).bind fun t267 => (page_Parse.j0 k bt222.1 (t267.toList != bt228.1.toList) bt253.2.2.1 bt253.2.2.2.1 bt253.2.2.2.2.1 bt253.2.2.2.2.2.1 bt253.2.2.2.2.2.2 ((t198) % 256) t204 ((bt210.1) % 4294967296) ((bt216.1) % 4294967296) bt240.1 bt247.1)))))))))))))))) = some (r1, r2, r3, r4, r5, r6, r7, r8, r9, r10, r11, r12) := H
    have A11 := Aside0.mk A110
    clear A110
    replace H := Option.bind_eq_some_iff.mp H
    obtain ⟨⟨t210, t211, t212, t213, t214, t215⟩, A120, H⟩ := H
    replace H : ((octet_In_Small.f t211 t212 t213 t214 t215 4).bind fun bt216 => ((octet_In_At.f bt216.2.1 bt216.2.2.1 bt216.2.2.2.1 bt216.2.2.2.2.1 bt216.2.2.2.2.2).bind fun bt222 => ((octet_In_Take.f bt222.2.1 bt222.2.2.1 bt222.2.2.2.1 bt222.2.2.2.2.1 bt222.2.2.2.2.2 4).bind fun bt228 => ((octet_In_Big.f bt228.2.1 bt228.2.2.1 bt228.2.2.2.1 bt228.2.2.2.2.1 bt228.2.2.2.2.2 1).bind fun bt234 => ((octet_In_Take.f bt234.2.1 bt234.2.2.1 bt234.2.2.2.1 bt234.2.2.2.2.1 bt234.2.2.2.2.2 (wrap64 (bt234.1))).bind fun bt240 => ((page_long.f k bt240.1).bind fun t246 => ((octet_In_Take.f bt240.2.1 bt240.2.2.1 bt240.2.2.2.1 bt240.2.2.2.2.1 bt240.2.2.2.2.2 t246).bind fun bt247 => ((octet_In_Fault.f bt247.2.1 bt247.2.2.1 bt247.2.2.2.1 bt247.2.2.2.2.1 bt247.2.2.2.2.2).bind fun bt253 => ((api_Fault_Bad.f bt253.1 bt253.2.1).bind fun t260 => (if t260 = true then (page_Parse.j0 k bt222.1 false bt253.2.2.1 bt253.2.2.2.1 bt253.2.2.2.2.1 bt253.2.2.2.2.2.1 bt253.2.2.2.2.2.2 ((t198) % 256) t204 ((t210) % 4294967296) ((bt216.1) % 4294967296) bt240.1 bt247.1) else ((page_Page_front.f k ((t198) % 256) t204 ((t210) % 4294967296) ((bt216.1) % 4294967296) bt240.1 bt247.1).bind fun t261 => ((page_Page_back.f k ((t198) % 256) t204 ((t210) % 4294967296) ((bt216.1) % 4294967296) bt240.1 bt247.1).bind fun t262 => ((sum_Of.f k (([t261, (⟨#[0, 0, 0, 0]⟩ : ByteArray), t262] : List ByteArray))).bind fun t266 => ((sum_Sum_Bytes.f k t266).bind fun t267 => (page_Parse.j0 k bt222.1 (t267.toList != bt228.1.toList) bt253.2.2.1 bt253.2.2.2.1 bt253.2.2.2.2.1 bt253.2.2.2.2.2.1 bt253.2.2.2.2.2.2 ((t198) % 256) t204 ((t210) % 4294967296) ((bt216.1) % 4294967296) bt240.1 bt247.1))))))))))))))) = some (r1, r2, r3, r4, r5, r6, r7, r8, r9, r10, r11, r12) := H
    have A12 := Aside0.mk A120
    clear A120
    replace H := Option.bind_eq_some_iff.mp H
    obtain ⟨⟨t216, t217, t218, t219, t220, t221⟩, A130, H⟩ := H
    replace H : ((octet_In_At.f t217 t218 t219 t220 t221).bind fun bt222 => ((octet_In_Take.f bt222.2.1 bt222.2.2.1 bt222.2.2.2.1 bt222.2.2.2.2.1 bt222.2.2.2.2.2 4).bind fun bt228 => ((octet_In_Big.f bt228.2.1 bt228.2.2.1 bt228.2.2.2.1 bt228.2.2.2.2.1 bt228.2.2.2.2.2 1).bind fun bt234 => ((octet_In_Take.f bt234.2.1 bt234.2.2.1 bt234.2.2.2.1 bt234.2.2.2.2.1 bt234.2.2.2.2.2 (wrap64 (bt234.1))).bind fun bt240 => ((page_long.f k bt240.1).bind fun t246 => ((octet_In_Take.f bt240.2.1 bt240.2.2.1 bt240.2.2.2.1 bt240.2.2.2.2.1 bt240.2.2.2.2.2 t246).bind fun bt247 => ((octet_In_Fault.f bt247.2.1 bt247.2.2.1 bt247.2.2.2.1 bt247.2.2.2.2.1 bt247.2.2.2.2.2).bind fun bt253 => ((api_Fault_Bad.f bt253.1 bt253.2.1).bind fun t260 => (if t260 = true then (page_Parse.j0 k bt222.1 false bt253.2.2.1 bt253.2.2.2.1 bt253.2.2.2.2.1 bt253.2.2.2.2.2.1 bt253.2.2.2.2.2.2 ((t198) % 256) t204 ((t210) % 4294967296) ((t216) % 4294967296) bt240.1 bt247.1) else ((page_Page_front.f k ((t198) % 256) t204 ((t210) % 4294967296) ((t216) % 4294967296) bt240.1 bt247.1).bind fun t261 => ((page_Page_back.f k ((t198) % 256) t204 ((t210) % 4294967296) ((t216) % 4294967296) bt240.1 bt247.1).bind fun t262 => ((sum_Of.f k (([t261, (⟨#[0, 0, 0, 0]⟩ : ByteArray), t262] : List ByteArray))).bind fun t266 => ((sum_Sum_Bytes.f k t266).bind fun t267 => (page_Parse.j0 k bt222.1 (t267.toList != bt228.1.toList) bt253.2.2.1 bt253.2.2.2.1 bt253.2.2.2.2.1 bt253.2.2.2.2.2.1 bt253.2.2.2.2.2.2 ((t198) % 256) t204 ((t210) % 4294967296) ((t216) % 4294967296) bt240.1 bt247.1)))))))))))))) = some (r1, r2, r3, r4, r5, r6, r7, r8, r9, r10, r11, r12) := H
    have A13 := Aside0.mk A130
    clear A130
    replace H := Option.bind_eq_some_iff.mp H
    obtain ⟨⟨t222, t223, t224, t225, t226, t227⟩, A140, H⟩ := H
    replace H : ((octet_In_Take.f t223 t224 t225 t226 t227 4).bind fun bt228 => ((octet_In_Big.f bt228.2.1 bt228.2.2.1 bt228.2.2.2.1 bt228.2.2.2.2.1 bt228.2.2.2.2.2 1).bind fun bt234 => ((octet_In_Take.f bt234.2.1 bt234.2.2.1 bt234.2.2.2.1 bt234.2.2.2.2.1 bt234.2.2.2.2.2 (wrap64 (bt234.1))).bind fun bt240 => ((page_long.f k bt240.1).bind fun t246 => ((octet_In_Take.f bt240.2.1 bt240.2.2.1 bt240.2.2.2.1 bt240.2.2.2.2.1 bt240.2.2.2.2.2 t246).bind fun bt247 => ((octet_In_Fault.f bt247.2.1 bt247.2.2.1 bt247.2.2.2.1 bt247.2.2.2.2.1 bt247.2.2.2.2.2).bind fun bt253 => ((api_Fault_Bad.f bt253.1 bt253.2.1).bind fun t260 => (if t260 = true then (page_Parse.j0 k t222 false bt253.2.2.1 bt253.2.2.2.1 bt253.2.2.2.2.1 bt253.2.2.2.2.2.1 bt253.2.2.2.2.2.2 ((t198) % 256) t204 ((t210) % 4294967296) ((t216) % 4294967296) bt240.1 bt247.1) else ((page_Page_front.f k ((t198) % 256) t204 ((t210) % 4294967296) ((t216) % 4294967296) bt240.1 bt247.1).bind fun t261 => ((page_Page_back.f k ((t198) % 256) t204 ((t210) % 4294967296) ((t216) % 4294967296) bt240.1 bt247.1).bind fun t262 => ((sum_Of.f k (([t261, (⟨#[0, 0, 0, 0]⟩ : ByteArray), t262] : List ByteArray))).bind fun t266 => ((sum_Sum_Bytes.f k t266).bind fun t267 => (page_Parse.j0 k t222 (t267.toList != bt228.1.toList) bt253.2.2.1 bt253.2.2.2.1 bt253.2.2.2.2.1 bt253.2.2.2.2.2.1 bt253.2.2.2.2.2.2 ((t198) % 256) t204 ((t210) % 4294967296) ((t216) % 4294967296) bt240.1 bt247.1))))))))))))) = some (r1, r2, r3, r4, r5, r6, r7, r8, r9, r10, r11, r12) := H
    have A14 := Aside0.mk A140
    clear A140
    replace H := Option.bind_eq_some_iff.mp H
    obtain ⟨⟨t228, t229, t230, t231, t232, t233⟩, A150, H⟩ := H
    replace H : ((octet_In_Big.f t229 t230 t231 t232 t233 1).bind fun bt234 => ((octet_In_Take.f bt234.2.1 bt234.2.2.1 bt234.2.2.2.1 bt234.2.2.2.2.1 bt234.2.2.2.2.2 (wrap64 (bt234.1))).bind fun bt240 => ((page_long.f k bt240.1).bind fun t246 => ((octet_In_Take.f bt240.2.1 bt240.2.2.1 bt240.2.2.2.1 bt240.2.2.2.2.1 bt240.2.2.2.2.2 t246).bind fun bt247 => ((octet_In_Fault.f bt247.2.1 bt247.2.2.1 bt247.2.2.2.1 bt247.2.2.2.2.1 bt247.2.2.2.2.2).bind fun bt253 => ((api_Fault_Bad.f bt253.1 bt253.2.1).bind fun t260 => (if t260 = true then (page_Parse.j0 k t222 false bt253.2.2.1 bt253.2.2.2.1 bt253.2.2.2.2.1 bt253.2.2.2.2.2.1 bt253.2.2.2.2.2.2 ((t198) % 256) t204 ((t210) % 4294967296) ((t216) % 4294967296) bt240.1 bt247.1) else ((page_Page_front.f k ((t198) % 256) t204 ((t210) % 4294967296) ((t216) % 4294967296) bt240.1 bt247.1).bind fun t261 => ((page_Page_back.f k ((t198) % 256) t204 ((t210) % 4294967296) ((t216) % 4294967296) bt240.1 bt247.1).bind fun t262 => ((sum_Of.f k (([t261, (⟨#[0, 0, 0, 0]⟩ : ByteArray), t262] : List ByteArray))).bind fun t266 => ((sum_Sum_Bytes.f k t266).bind fun t267 => (page_Parse.j0 k t222 (t267.toList != t228.toList) bt253.2.2.1 bt253.2.2.2.1 bt253.2.2.2.2.1 bt253.2.2.2.2.2.1 bt253.2.2.2.2.2.2 ((t198) % 256) t204 ((t210) % 4294967296) ((t216) % 4294967296) bt240.1 bt247.1)))))))))))) = some (r1, r2, r3, r4, r5, r6, r7, r8, r9, r10, r11, r12) := H
    have A15 := Aside0.mk A150
    clear A150
    replace H := Option.bind_eq_some_iff.mp H
    obtain ⟨⟨t234, t235, t236, t237, t238, t239⟩, A160, H⟩ := H
    replace H : ((octet_In_Take.f t235 t236 t237 t238 t239 (wrap64 (t234))).bind fun bt240 => ((page_long.f k bt240.1).bind fun t246 => ((octet_In_Take.f bt240.2.1 bt240.2.2.1 bt240.2.2.2.1 bt240.2.2.2.2.1 bt240.2.2.2.2.2 t246).bind fun bt247 => ((octet_In_Fault.f bt247.2.1 bt247.2.2.1 bt247.2.2.2.1 bt247.2.2.2.2.1 bt247.2.2.2.2.2).bind fun bt253 => ((api_Fault_Bad.f bt253.1 bt253.2.1).bind fun t260 => (if t260 = true then (page_Parse.j0 k t222 false bt253.2.2.1 bt253.2.2.2.1 bt253.2.2.2.2.1 bt253.2.2.2.2.2.1 bt253.2.2.2.2.2.2 ((t198) % 256) t204 ((t210) % 4294967296) ((t216) % 4294967296) bt240.1 bt247.1) else ((page_Page_front.f k ((t198) % 256) t204 ((t210) % 4294967296) ((t216) % 4294967296) bt240.1 bt247.1).bind fun t261 => ((page_Page_back.f k ((t198) % 256) t204 ((t210) % 4294967296) ((t216) % 4294967296) bt240.1 bt247.1).bind fun t262 => ((sum_Of.f k (([t261, (⟨#[0, 0, 0, 0]⟩ : ByteArray), t262] : List ByteArray))).bind fun t266 => ((sum_Sum_Bytes.f k t266).bind fun t267 => (page_Parse.j0 k t222 (t267.toList != t228.toList) bt253.2.2.1 bt253.2.2.2.1 bt253.2.2.2.2.1 bt253.2.2.2.2.2.1 bt253.2.2.2.2.2.2 ((t198) % 256) t204 ((t210) % 4294967296) ((t216) % 4294967296) bt240.1 bt247.1))))))))))) = some (r1, r2, r3, r4, r5, r6, r7, r8, r9, r10, r11, r12) := H
    have A16 := Aside0.mk A160
    clear A160
    replace H := Option.bind_eq_some_iff.mp H
    obtain ⟨⟨t240, t241, t242, t243, t244, t245⟩, A170, H⟩ := H
    replace H : ((page_long.f k t240).bind fun t246 => ((octet_In_Take.f t241 t242 t243 t244 t245 t246).bind fun bt247 => ((octet_In_Fault.f bt247.2.1 bt247.2.2.1 bt247.2.2.2.1 bt247.2.2.2.2.1 bt247.2.2.2.2.2).bind fun bt253 => ((api_Fault_Bad.f bt253.1 bt253.2.1).bind fun t260 => (if t260 = true then (page_Parse.j0 k t222 false bt253.2.2.1 bt253.2.2.2.1 bt253.2.2.2.2.1 bt253.2.2.2.2.2.1 bt253.2.2.2.2.2.2 ((t198) % 256) t204 ((t210) % 4294967296) ((t216) % 4294967296) t240 bt247.1) else ((page_Page_front.f k ((t198) % 256) t204 ((t210) % 4294967296) ((t216) % 4294967296) t240 bt247.1).bind fun t261 => ((page_Page_back.f k ((t198) % 256) t204 ((t210) % 4294967296) ((t216) % 4294967296) t240 bt247.1).bind fun t262 => ((sum_Of.f k (([t261, (⟨#[0, 0, 0, 0]⟩ : ByteArray), t262] : List ByteArray))).bind fun t266 => ((sum_Sum_Bytes.f k t266).bind fun t267 => (page_Parse.j0 k t222 (t267.toList != t228.toList) bt253.2.2.1 bt253.2.2.2.1 bt253.2.2.2.2.1 bt253.2.2.2.2.2.1 bt253.2.2.2.2.2.2 ((t198) % 256) t204 ((t210) % 4294967296) ((t216) % 4294967296) t240 bt247.1)))))))))) = some (r1, r2, r3, r4, r5, r6, r7, r8, r9, r10, r11, r12) := H
    have A17 := Aside0.mk A170
    clear A170
    replace H := Option.bind_eq_some_iff.mp H
    obtain ⟨t246, A180, H⟩ := H
    replace H : ((octet_In_Take.f t241 t242 t243 t244 t245 t246).bind fun bt247 => ((octet_In_Fault.f bt247.2.1 bt247.2.2.1 bt247.2.2.2.1 bt247.2.2.2.2.1 bt247.2.2.2.2.2).bind fun bt253 => ((api_Fault_Bad.f bt253.1 bt253.2.1).bind fun t260 => (if t260 = true then (page_Parse.j0 k t222 false bt253.2.2.1 bt253.2.2.2.1 bt253.2.2.2.2.1 bt253.2.2.2.2.2.1 bt253.2.2.2.2.2.2 ((t198) % 256) t204 ((t210) % 4294967296) ((t216) % 4294967296) t240 bt247.1) else ((page_Page_front.f k ((t198) % 256) t204 ((t210) % 4294967296) ((t216) % 4294967296) t240 bt247.1).bind fun t261 => ((page_Page_back.f k ((t198) % 256) t204 ((t210) % 4294967296) ((t216) % 4294967296) t240 bt247.1).bind fun t262 => ((sum_Of.f k (([t261, (⟨#[0, 0, 0, 0]⟩ : ByteArray), t262] : List ByteArray))).bind fun t266 => ((sum_Sum_Bytes.f k t266).bind fun t267 => (page_Parse.j0 k t222 (t267.toList != t228.toList) bt253.2.2.1 bt253.2.2.2.1 bt253.2.2.2.2.1 bt253.2.2.2.2.2.1 bt253.2.2.2.2.2.2 ((t198) % 256) t204 ((t210) % 4294967296) ((t216) % 4294967296) t240 bt247.1))))))))) = some (r1, r2, r3, r4, r5, r6, r7, r8, r9, r10, r11, r12) := H
    have A18 := Aside0.mk A180
    clear A180
    replace H := Option.bind_eq_some_iff.mp H
    obtain ⟨⟨t247, t248, t249, t250, t251, t252⟩, A190, H⟩ := H
    replace H : ((octet_In_Fault.f t248 t249 t250 t251 t252).bind fun bt253 => ((api_Fault_Bad.f bt253.1 bt253.2.1).bind fun t260 => (if t260 = true then (page_Parse.j0 k t222 false bt253.2.2.1 bt253.2.2.2.1 bt253.2.2.2.2.1 bt253.2.2.2.2.2.1 bt253.2.2.2.2.2.2 ((t198) % 256) t204 ((t210) % 4294967296) ((t216) % 4294967296) t240 t247) else ((page_Page_front.f k ((t198) % 256) t204 ((t210) % 4294967296) ((t216) % 4294967296) t240 t247).bind fun t261 => ((page_Page_back.f k ((t198) % 256) t204 ((t210) % 4294967296) ((t216) % 4294967296) t240 t247).bind fun t262 => ((sum_Of.f k (([t261, (⟨#[0, 0, 0, 0]⟩ : ByteArray), t262] : List ByteArray))).bind fun t266 => ((sum_Sum_Bytes.f k t266).bind fun t267 => (page_Parse.j0 k t222 (t267.toList != t228.toList) bt253.2.2.1 bt253.2.2.2.1 bt253.2.2.2.2.1 bt253.2.2.2.2.2.1 bt253.2.2.2.2.2.2 ((t198) % 256) t204 ((t210) % 4294967296) ((t216) % 4294967296) t240 t247)))))))) = some (r1, r2, r3, r4, r5, r6, r7, r8, r9, r10, r11, r12) := H
    have A19 := Aside0.mk A190
    clear A190
    have HC20 := Aside0.mk H
    clear H
    go_enter Try.func13, Try.ntmps13
    go_upto_region 13 with (first | ((with_reducible refine gate_dst (N := 2) rfl ?_); (try (refine gate_guard (by rfl) ?_; dsimp only)); refine box_event ?hg (N := 2) ?hd (cs := #[.int .u8 0, .int .u64 0, .int .u32 0, .int .u32 0, .string (⟨#[]⟩ : ByteArray), .string (⟨#[]⟩ : ByteArray)]) (t := 27) ?hr ?_; (case hd => rfl); (case hg => rfl); (case hr => first | (go_simp; done) | (go_simp; rfl)); intro gb178 hg w21 hbox hb; have n0_ := Aside0.mk (IsS81.below (by repeat (first | (with_reducible first | exact HI0.out | apply IsS81.alloc | apply IsS81.drewN | apply IsS81.drew | apply IsS81.set_0 | apply IsS81.set_1 | apply IsS81.set_2 | apply IsS81.set_3 | apply IsS81.set_4) | exact HI0.out)) hb); have n1_ := Aside0.mk (KeepBut.trans (by repeat (first | (with_reducible first | exact HK.out | apply KeepBut.set_ | apply keep_drewN | apply keep_drew | apply keep_alloc) | exact HK.out)) (KeepBut.of_below hb g none) (.inl rfl)); have n2_ := Aside0.mk (below_step (by repeat (first | (with_reducible first | exact HB.out | apply below_alloc | apply pw_below_drewN | apply below_drew1 | refine below_set ?_ (IsS81.ge HI0.out)) | exact HB.out)) hb); have n3_ := Aside0.mk (hbox); have n4_ := Aside0.mk ((by rw [hg]; exact (keep_size (w := w) (g := g) (row := none) (by repeat (first | (with_reducible first | exact HK.out | apply KeepBut.set_ | apply keep_drewN | apply keep_drew | apply keep_alloc) | exact HK.out))) : w.heap.size ≤ gb178)); have n5_ := Aside0.mk ((Nat.le_trans HW0.out (by rw [hg]; exact (keep_size (w := w) (g := g) (row := none) (by repeat (first | (with_reducible first | exact HK.out | apply KeepBut.set_ | apply keep_drewN | apply keep_drew | apply keep_alloc) | exact HK.out))) : w.heap.size ≤ gb178) : w0.heap.size ≤ gb178)); have n6_ := Aside0.mk ((by rw [hg]; exact Nat.ne_of_lt (IsS81.lt (show IsS81 w0 _ g s0_0 s0_1 s0_2 s0_3 s0_4 from by repeat (first | (with_reducible first | exact HI0.out | apply IsS81.alloc | apply IsS81.drewN | apply IsS81.drew | apply IsS81.set_0 | apply IsS81.set_1 | apply IsS81.set_2 | apply IsS81.set_3 | apply IsS81.set_4) | exact HI0.out))) : g ≠ gb178)); have n7_ := Aside0.mk ((by rw [hg]; exact Nat.ne_of_gt (IsS81.lt (show IsS81 w0 _ g s0_0 s0_1 s0_2 s0_3 s0_4 from by repeat (first | (with_reducible first | exact HI0.out | apply IsS81.alloc | apply IsS81.drewN | apply IsS81.drew | apply IsS81.set_0 | apply IsS81.set_1 | apply IsS81.set_2 | apply IsS81.set_3 | apply IsS81.set_4) | exact HI0.out))) : gb178 ≠ g)); clear HI0; clear HK; clear HB; have HI0 := n0_; have HK := n1_; have HB := n2_; have BK178 := n3_; have GW178 := n4_; have GE178 := n5_; have NB0_178 := n6_; have NB178_0 := n7_; clear n0_ n1_ n2_ n3_ n4_ n5_ n6_ n7_; clear hb hbox hg) | ((with_reducible refine gate_callee (f := 40) rfl ?_); refine goesL_ (some 8) rfl rfl Try.func40 (by kernel_rfl) rfl #[.pointer (some ⟨g, 0, none⟩)] rfl (by (try simp only [List.map_toArray, List.map_cons, List.map_nil]); first | done | rfl | (simp only [List.length_drop, List.length_take]; rfl)) ?_; (with_reducible refine (octet_In_Left.calls g s0_0 s0_1 s0_2 s0_3 s0_4 t179 t180 t181 t182 t183 t184 w0 _ ?side1 ?side2 A2.out).mono ?_); (case side1 => repeat (first | (with_reducible first | exact HI0.out | apply IsS81.alloc | apply IsS81.drewN | apply IsS81.drew | apply IsS81.set_0 | apply IsS81.set_1 | apply IsS81.set_2 | apply IsS81.set_3 | apply IsS81.set_4 | refine IsS81.far ?_ NB0_178.out _ | apply IsS81.far (hne := NB0_178.out)) | exact HI0.out)); (case side2 => repeat (first | (with_reducible first | exact HB.out | apply below_alloc | apply pw_below_drewN | apply below_drew1 | refine below_set ?_ (IsS81.ge HI0.out) | refine below_set ?_ GE178.out) | exact HB.out)); rintro e w22 ⟨rfl, hi, hb, hk⟩; refine ⟨_, rfl, ?_⟩; have n0_ := Aside0.mk (KeepBut.blk hk (g' := gb178) (o := .cells #[.int .u8 0, .int .u64 0, .int .u32 0, .int .u32 0, .string (⟨#[]⟩ : ByteArray), .string (⟨#[]⟩ : ByteArray)] 27 (0, 0)) (by (with_reducible repeat (first | refine blk_drewN ?_ _ | refine blk_drew ?_ | refine blk_alloc ?_ _)); exact BK178.out) NB178_0.out (by simp)); have n1_ := Aside0.mk (KeepBut.trans (by repeat (first | (with_reducible first | exact HK.out | apply KeepBut.set_ | apply keep_drewN | apply keep_drew | apply keep_alloc | refine keep_far ?_ GW178.out _) | exact HK.out)) hk (.inl rfl)); have n2_ := Aside0.mk (hb); have n3_ := Aside0.mk (hi); clear BK178; clear HK; clear HB; clear HI0; have BK178 := n0_; have HK := n1_; have HB := n2_; have HI0 := n3_; clear n0_ n1_ n2_ n3_; (try clear hb); (try clear hb2); (try clear hk); (try clear hi)) | ((with_reducible refine gate_dst (N := 4) rfl ?_); (try (refine gate_guard (by rfl) ?_; dsimp only)); refine box_event ?hg (N := 4) ?hd (cs := #[.int .u8 0, .int .u64 0, .int .u32 0, .int .u32 0, .string (⟨#[]⟩ : ByteArray), .string (⟨#[]⟩ : ByteArray)]) (t := 27) ?hr ?_; (case hd => rfl); (case hg => rfl); (case hr => first | (go_simp; done) | (go_simp; rfl)); intro gb185 hg w23 hbox hb; have n0_ := Aside0.mk (IsS81.below (by repeat (first | (with_reducible first | exact HI0.out | apply IsS81.alloc | apply IsS81.drewN | apply IsS81.drew | apply IsS81.set_0 | apply IsS81.set_1 | apply IsS81.set_2 | apply IsS81.set_3 | apply IsS81.set_4 | refine IsS81.far ?_ NB0_178.out _ | apply IsS81.far (hne := NB0_178.out)) | exact HI0.out)) hb); have n1_ := Aside0.mk (blk_below (g := gb178) (o := .cells #[.int .u8 0, .int .u64 0, .int .u32 0, .int .u32 0, .string (⟨#[]⟩ : ByteArray), .string (⟨#[]⟩ : ByteArray)] 27 (0, 0)) (by (with_reducible repeat (first | refine blk_drewN ?_ _ | refine blk_drew ?_ | refine blk_alloc ?_ _)); exact BK178.out) hb); have n2_ := Aside0.mk (KeepBut.trans (by repeat (first | (with_reducible first | exact HK.out | apply KeepBut.set_ | apply keep_drewN | apply keep_drew | apply keep_alloc | refine keep_far ?_ GW178.out _) | exact HK.out)) (KeepBut.of_below hb g none) (.inl rfl)); have n3_ := Aside0.mk (below_step (by repeat (first | (with_reducible first | exact HB.out | apply below_alloc | apply pw_below_drewN | apply below_drew1 | refine below_set ?_ (IsS81.ge HI0.out) | refine below_set ?_ GE178.out) | exact HB.out)) hb); have n4_ := Aside0.mk (hbox); have n5_ := Aside0.mk ((by rw [hg]; exact (keep_size (w := w) (g := g) (row := none) (by repeat (first | (with_reducible first | exact HK.out | apply KeepBut.set_ | apply keep_drewN | apply keep_drew | apply keep_alloc | refine keep_far ?_ GW178.out _) | exact HK.out))) : w.heap.size ≤ gb185)); have n6_ := Aside0.mk ((Nat.le_trans HW0.out (by rw [hg]; exact (keep_size (w := w) (g := g) (row := none) (by repeat (first | (with_reducible first | exact HK.out | apply KeepBut.set_ | apply keep_drewN | apply keep_drew | apply keep_alloc | refine keep_far ?_ GW178.out _) | exact HK.out))) : w.heap.size ≤ gb185) : w0.heap.size ≤ gb185)); have n7_ := Aside0.mk ((by rw [hg]; exact Nat.ne_of_lt (blk_lt (g := gb178) (o := .cells #[.int .u8 0, .int .u64 0, .int .u32 0, .int .u32 0, .string (⟨#[]⟩ : ByteArray), .string (⟨#[]⟩ : ByteArray)] 27 (0, 0)) (by (with_reducible repeat (first | refine blk_drewN ?_ _ | refine blk_drew ?_ | refine blk_alloc ?_ _)); exact BK178.out)) : gb178 ≠ gb185)); have n8_ := Aside0.mk ((by rw [hg]; exact Nat.ne_of_gt (blk_lt (g := gb178) (o := .cells #[.int .u8 0, .int .u64 0, .int .u32 0, .int .u32 0, .string (⟨#[]⟩ : ByteArray), .string (⟨#[]⟩ : ByteArray)] 27 (0, 0)) (by (with_reducible repeat (first | refine blk_drewN ?_ _ | refine blk_drew ?_ | refine blk_alloc ?_ _)); exact BK178.out)) : gb185 ≠ gb178)); have n9_ := Aside0.mk ((by rw [hg]; exact Nat.ne_of_lt (IsS81.lt (show IsS81 w0 _ g t180 t181 t182 t183 t184 from by repeat (first | (with_reducible first | exact HI0.out | apply IsS81.alloc | apply IsS81.drewN | apply IsS81.drew | apply IsS81.set_0 | apply IsS81.set_1 | apply IsS81.set_2 | apply IsS81.set_3 | apply IsS81.set_4 | refine IsS81.far ?_ NB0_178.out _ | apply IsS81.far (hne := NB0_178.out)) | exact HI0.out))) : g ≠ gb185)); have n10_ := Aside0.mk ((by rw [hg]; exact Nat.ne_of_gt (IsS81.lt (show IsS81 w0 _ g t180 t181 t182 t183 t184 from by repeat (first | (with_reducible first | exact HI0.out | apply IsS81.alloc | apply IsS81.drewN | apply IsS81.drew | apply IsS81.set_0 | apply IsS81.set_1 | apply IsS81.set_2 | apply IsS81.set_3 | apply IsS81.set_4 | refine IsS81.far ?_ NB0_178.out _ | apply IsS81.far (hne := NB0_178.out)) | exact HI0.out))) : gb185 ≠ g)); clear HI0; clear BK178; clear HK; clear HB; have HI0 := n0_; have BK178 := n1_; have HK := n2_; have HB := n3_; have BK185 := n4_; have GW185 := n5_; have GE185 := n6_; have NB178_185 := n7_; have NB185_178 := n8_; have NB0_185 := n9_; have NB185_0 := n10_; clear n0_ n1_ n2_ n3_ n4_ n5_ n6_ n7_ n8_ n9_ n10_; clear hb hbox hg) | ((with_reducible refine gate_callee (f := 41) rfl ?_); refine goesL_ (some 12) rfl rfl Try.func41 (by kernel_rfl) rfl #[.pointer (some ⟨g, 0, none⟩), .string (⟨#[79, 103, 103, 83]⟩ : ByteArray)] rfl (by (try simp only [List.map_toArray, List.map_cons, List.map_nil]); first | done | rfl | (simp only [List.length_drop, List.length_take]; rfl)) ?_; (with_reducible refine (octet_In_Want.calls k g t180 t181 t182 t183 t184 (⟨#[79, 103, 103, 83]⟩ : ByteArray) t186 t187 t188 t189 t190 t191 w0 _ ?side1 ?side2 A8.out).mono ?_); (case side1 => repeat (first | (with_reducible first | exact HI0.out | apply IsS81.alloc | apply IsS81.drewN | apply IsS81.drew | apply IsS81.set_0 | apply IsS81.set_1 | apply IsS81.set_2 | apply IsS81.set_3 | apply IsS81.set_4 | refine IsS81.far ?_ NB0_178.out _ | apply IsS81.far (hne := NB0_178.out) | refine IsS81.far ?_ NB0_185.out _ | apply IsS81.far (hne := NB0_185.out)) | exact HI0.out)); (case side2 => repeat (first | (with_reducible first | exact HB.out | apply below_alloc | apply pw_below_drewN | apply below_drew1 | refine below_set ?_ (IsS81.ge HI0.out) | refine below_set ?_ GE178.out | refine below_set ?_ GE185.out) | exact HB.out)); rintro e w24 ⟨rfl, hi, hb, hk⟩; refine ⟨_, rfl, ?_⟩; have n0_ := Aside0.mk (KeepBut.blk hk (g' := gb178) (o := .cells #[.int .u8 0, .int .u64 0, .int .u32 0, .int .u32 0, .string (⟨#[]⟩ : ByteArray), .string (⟨#[]⟩ : ByteArray)] 27 (0, 0)) (by (with_reducible repeat (first | refine blk_drewN ?_ _ | refine blk_drew ?_ | refine blk_alloc ?_ _)); exact BK178.out) NB178_0.out (by simp)); have n1_ := Aside0.mk (KeepBut.blk hk (g' := gb185) (o := .cells #[.int .u8 0, .int .u64 0, .int .u32 0, .int .u32 0, .string (⟨#[]⟩ : ByteArray), .string (⟨#[]⟩ : ByteArray)] 27 (0, 0)) (by (with_reducible repeat (first | refine blk_drewN ?_ _ | refine blk_drew ?_ | refine blk_alloc ?_ _)); exact BK185.out) NB185_0.out (by simp)); have n2_ := Aside0.mk (KeepBut.trans (by repeat (first | (with_reducible first | exact HK.out | apply KeepBut.set_ | apply keep_drewN | apply keep_drew | apply keep_alloc | refine keep_far ?_ GW178.out _ | refine keep_far ?_ GW185.out _) | exact HK.out)) hk (.inl rfl)); have n3_ := Aside0.mk (hb); have n4_ := Aside0.mk (hi); clear BK178; clear BK185; clear HK; clear HB; clear HI0; have BK178 := n0_; have BK185 := n1_; have HK := n2_; have HB := n3_; have HI0 := n4_; clear n0_ n1_ n2_ n3_ n4_; (try clear hb); (try clear hb2); (try clear hk); (try clear hi)) | ((with_reducible refine gate_callee (f := 41) rfl ?_); refine goesL_ (some 14) rfl rfl Try.func41 (by kernel_rfl) rfl #[.pointer (some ⟨g, 0, none⟩), .string (⟨#[0]⟩ : ByteArray)] rfl (by (try simp only [List.map_toArray, List.map_cons, List.map_nil]); first | done | rfl | (simp only [List.length_drop, List.length_take]; rfl)) ?_; (with_reducible refine (octet_In_Want.calls k g t187 t188 t189 t190 t191 (⟨#[0]⟩ : ByteArray) t192 t193 t194 t195 t196 t197 w0 _ ?side1 ?side2 A9.out).mono ?_); (case side1 => repeat (first | (with_reducible first | exact HI0.out | apply IsS81.alloc | apply IsS81.drewN | apply IsS81.drew | apply IsS81.set_0 | apply IsS81.set_1 | apply IsS81.set_2 | apply IsS81.set_3 | apply IsS81.set_4 | refine IsS81.far ?_ NB0_178.out _ | apply IsS81.far (hne := NB0_178.out) | refine IsS81.far ?_ NB0_185.out _ | apply IsS81.far (hne := NB0_185.out)) | exact HI0.out)); (case side2 => repeat (first | (with_reducible first | exact HB.out | apply below_alloc | apply pw_below_drewN | apply below_drew1 | refine below_set ?_ (IsS81.ge HI0.out) | refine below_set ?_ GE178.out | refine below_set ?_ GE185.out) | exact HB.out)); rintro e w25 ⟨rfl, hi, hb, hk⟩; refine ⟨_, rfl, ?_⟩; have n0_ := Aside0.mk (KeepBut.blk hk (g' := gb178) (o := .cells #[.int .u8 0, .int .u64 0, .int .u32 0, .int .u32 0, .string (⟨#[]⟩ : ByteArray), .string (⟨#[]⟩ : ByteArray)] 27 (0, 0)) (by (with_reducible repeat (first | refine blk_drewN ?_ _ | refine blk_drew ?_ | refine blk_alloc ?_ _)); exact BK178.out) NB178_0.out (by simp)); have n1_ := Aside0.mk (KeepBut.blk hk (g' := gb185) (o := .cells #[.int .u8 0, .int .u64 0, .int .u32 0, .int .u32 0, .string (⟨#[]⟩ : ByteArray), .string (⟨#[]⟩ : ByteArray)] 27 (0, 0)) (by (with_reducible repeat (first | refine blk_drewN ?_ _ | refine blk_drew ?_ | refine blk_alloc ?_ _)); exact BK185.out) NB185_0.out (by simp)); have n2_ := Aside0.mk (KeepBut.trans (by repeat (first | (with_reducible first | exact HK.out | apply KeepBut.set_ | apply keep_drewN | apply keep_drew | apply keep_alloc | refine keep_far ?_ GW178.out _ | refine keep_far ?_ GW185.out _) | exact HK.out)) hk (.inl rfl)); have n3_ := Aside0.mk (hb); have n4_ := Aside0.mk (hi); clear BK178; clear BK185; clear HK; clear HB; clear HI0; have BK178 := n0_; have BK185 := n1_; have HK := n2_; have HB := n3_; have HI0 := n4_; clear n0_ n1_ n2_ n3_ n4_; (try clear hb); (try clear hb2); (try clear hk); (try clear hi)) | ((with_reducible refine gate_callee (f := 42) rfl ?_); refine goesL_ (some 16) rfl rfl Try.func42 (by kernel_rfl) rfl #[.pointer (some ⟨g, 0, none⟩), .int .i64 1] rfl (by (try simp only [List.map_toArray, List.map_cons, List.map_nil]); first | done | rfl | (simp only [List.length_drop, List.length_take]; rfl)) ?_; (with_reducible refine (octet_In_Big.calls g t193 t194 t195 t196 t197 1 t198 t199 t200 t201 t202 t203 w0 _ ?side1 ?side2 A10.out).mono ?_); (case side1 => repeat (first | (with_reducible first | exact HI0.out | apply IsS81.alloc | apply IsS81.drewN | apply IsS81.drew | apply IsS81.set_0 | apply IsS81.set_1 | apply IsS81.set_2 | apply IsS81.set_3 | apply IsS81.set_4 | refine IsS81.far ?_ NB0_178.out _ | apply IsS81.far (hne := NB0_178.out) | refine IsS81.far ?_ NB0_185.out _ | apply IsS81.far (hne := NB0_185.out)) | exact HI0.out)); (case side2 => repeat (first | (with_reducible first | exact HB.out | apply below_alloc | apply pw_below_drewN | apply below_drew1 | refine below_set ?_ (IsS81.ge HI0.out) | refine below_set ?_ GE178.out | refine below_set ?_ GE185.out) | exact HB.out)); rintro e w26 ⟨rfl, hi, hb, hk⟩; refine ⟨_, rfl, ?_⟩; have n0_ := Aside0.mk (KeepBut.blk hk (g' := gb178) (o := .cells #[.int .u8 0, .int .u64 0, .int .u32 0, .int .u32 0, .string (⟨#[]⟩ : ByteArray), .string (⟨#[]⟩ : ByteArray)] 27 (0, 0)) (by (with_reducible repeat (first | refine blk_drewN ?_ _ | refine blk_drew ?_ | refine blk_alloc ?_ _)); exact BK178.out) NB178_0.out (by simp)); have n1_ := Aside0.mk (KeepBut.blk hk (g' := gb185) (o := .cells #[.int .u8 0, .int .u64 0, .int .u32 0, .int .u32 0, .string (⟨#[]⟩ : ByteArray), .string (⟨#[]⟩ : ByteArray)] 27 (0, 0)) (by (with_reducible repeat (first | refine blk_drewN ?_ _ | refine blk_drew ?_ | refine blk_alloc ?_ _)); exact BK185.out) NB185_0.out (by simp)); have n2_ := Aside0.mk (KeepBut.trans (by repeat (first | (with_reducible first | exact HK.out | apply KeepBut.set_ | apply keep_drewN | apply keep_drew | apply keep_alloc | refine keep_far ?_ GW178.out _ | refine keep_far ?_ GW185.out _) | exact HK.out)) hk (.inl rfl)); have n3_ := Aside0.mk (hb); have n4_ := Aside0.mk (hi); clear BK178; clear BK185; clear HK; clear HB; clear HI0; have BK178 := n0_; have BK185 := n1_; have HK := n2_; have HB := n3_; have HI0 := n4_; clear n0_ n1_ n2_ n3_ n4_; (try clear hb); (try clear hb2); (try clear hk); (try clear hi); have hnb27 := NB185_178.out; have hnc27 := NB178_185.out; have hnb28 := NB185_0.out; have hnc28 := NB0_185.out; have hcz29_0 : w26.cell? ⟨gb185, 0, none⟩ = some (.int .u8 0) := (blk_cell BK185.out 0).trans rfl; have hcz29_1 : w26.cell? ⟨gb185, 1, none⟩ = some (.int .u64 0) := (blk_cell BK185.out 1).trans rfl; have hcz29_2 : w26.cell? ⟨gb185, 2, none⟩ = some (.int .u32 0) := (blk_cell BK185.out 2).trans rfl; have hcz29_3 : w26.cell? ⟨gb185, 3, none⟩ = some (.int .u32 0) := (blk_cell BK185.out 3).trans rfl; have hcz29_4 : w26.cell? ⟨gb185, 4, none⟩ = some (.string (⟨#[]⟩ : ByteArray)) := (blk_cell BK185.out 4).trans rfl; have hcz29_5 : w26.cell? ⟨gb185, 5, none⟩ = some (.string (⟨#[]⟩ : ByteArray)) := (blk_cell BK185.out 5).trans rfl; have hfz29_0 := blk_frozen BK185.out 0; have hfz29_1 := blk_frozen BK185.out 1; have hfz29_2 := blk_frozen BK185.out 2; have hfz29_3 := blk_frozen BK185.out 3; have hfz29_4 := blk_frozen BK185.out 4; have hfz29_5 := blk_frozen BK185.out 5) | ((with_reducible refine gate_callee (f := 43) rfl ?_); refine goesL_ (some 21) rfl rfl Try.func43 (by kernel_rfl) rfl #[.pointer (some ⟨g, 0, none⟩), .int .i64 8] rfl (by (try simp only [List.map_toArray, List.map_cons, List.map_nil]); first | done | rfl | (simp only [List.length_drop, List.length_take]; rfl)) ?_; (with_reducible refine (octet_In_Small.calls g t199 t200 t201 t202 t203 8 t204 t205 t206 t207 t208 t209 w0 _ ?side1 ?side2 A11.out).mono ?_); (case side1 => repeat (first | (with_reducible first | exact HI0.out | apply IsS81.alloc | apply IsS81.drewN | apply IsS81.drew | apply IsS81.set_0 | apply IsS81.set_1 | apply IsS81.set_2 | apply IsS81.set_3 | apply IsS81.set_4 | refine IsS81.far ?_ NB0_178.out _ | apply IsS81.far (hne := NB0_178.out) | refine IsS81.far ?_ NB0_185.out _ | apply IsS81.far (hne := NB0_185.out)) | exact HI0.out)); (case side2 => repeat (first | (with_reducible first | exact HB.out | apply below_alloc | apply pw_below_drewN | apply below_drew1 | refine below_set ?_ (IsS81.ge HI0.out) | refine below_set ?_ GE178.out | refine below_set ?_ GE185.out) | exact HB.out)); rintro e w30 ⟨rfl, hi, hb, hk⟩; refine ⟨_, rfl, ?_⟩; have n0_ := Aside0.mk (KeepBut.blk hk (g' := gb178) (o := .cells #[.int .u8 0, .int .u64 0, .int .u32 0, .int .u32 0, .string (⟨#[]⟩ : ByteArray), .string (⟨#[]⟩ : ByteArray)] 27 (0, 0)) (by (with_reducible repeat (first | refine blk_drewN ?_ _ | refine blk_drew ?_ | refine blk_alloc ?_ _)); refine blk_far ?_ NB178_185.out _; (with_reducible repeat (first | refine blk_drewN ?_ _ | refine blk_drew ?_ | refine blk_alloc ?_ _)); exact BK178.out) NB178_0.out (by simp)); have n1_ := Aside0.mk (KeepBut.blk hk (g' := gb185) (o := .cells #[.int .u8 ((t198) % 256), .int .u64 0, .int .u32 0, .int .u32 0, .string (⟨#[]⟩ : ByteArray), .string (⟨#[]⟩ : ByteArray)] 27 (0, 0)) (by (with_reducible repeat (first | refine blk_drewN ?_ _ | refine blk_drew ?_ | refine blk_alloc ?_ _)); refine blk_put (cs := #[.int .u8 0, .int .u64 0, .int .u32 0, .int .u32 0, .string (⟨#[]⟩ : ByteArray), .string (⟨#[]⟩ : ByteArray)]) ?_ 0 _ rfl; (with_reducible repeat (first | refine blk_drewN ?_ _ | refine blk_drew ?_ | refine blk_alloc ?_ _)); exact BK185.out) NB185_0.out (by simp)); have n2_ := Aside0.mk (KeepBut.trans (by repeat (first | (with_reducible first | exact HK.out | apply KeepBut.set_ | apply keep_drewN | apply keep_drew | apply keep_alloc | refine keep_far ?_ GW178.out _ | refine keep_far ?_ GW185.out _) | exact HK.out)) hk (.inl rfl)); have n3_ := Aside0.mk (hb); have n4_ := Aside0.mk (hi); clear BK178; clear BK185; clear HK; clear HB; clear HI0; have BK178 := n0_; have BK185 := n1_; have HK := n2_; have HB := n3_; have HI0 := n4_; clear n0_ n1_ n2_ n3_ n4_; (try clear hb); (try clear hb2); (try clear hk); (try clear hi); have hcz31_0 : w30.cell? ⟨gb185, 0, none⟩ = some (.int .u8 ((t198) % 256)) := (blk_cell BK185.out 0).trans rfl; have hcz31_1 : w30.cell? ⟨gb185, 1, none⟩ = some (.int .u64 0) := (blk_cell BK185.out 1).trans rfl; have hcz31_2 : w30.cell? ⟨gb185, 2, none⟩ = some (.int .u32 0) := (blk_cell BK185.out 2).trans rfl; have hcz31_3 : w30.cell? ⟨gb185, 3, none⟩ = some (.int .u32 0) := (blk_cell BK185.out 3).trans rfl; have hcz31_4 : w30.cell? ⟨gb185, 4, none⟩ = some (.string (⟨#[]⟩ : ByteArray)) := (blk_cell BK185.out 4).trans rfl; have hcz31_5 : w30.cell? ⟨gb185, 5, none⟩ = some (.string (⟨#[]⟩ : ByteArray)) := (blk_cell BK185.out 5).trans rfl; have hfz31_0 := blk_frozen BK185.out 0; have hfz31_1 := blk_frozen BK185.out 1; have hfz31_2 := blk_frozen BK185.out 2; have hfz31_3 := blk_frozen BK185.out 3; have hfz31_4 := blk_frozen BK185.out 4; have hfz31_5 := blk_frozen BK185.out 5) | ((with_reducible refine gate_callee (f := 43) rfl ?_); refine goesL_ (some 25) rfl rfl Try.func43 (by kernel_rfl) rfl #[.pointer (some ⟨g, 0, none⟩), .int .i64 4] rfl (by (try simp only [List.map_toArray, List.map_cons, List.map_nil]); first | done | rfl | (simp only [List.length_drop, List.length_take]; rfl)) ?_; (with_reducible refine (octet_In_Small.calls g t205 t206 t207 t208 t209 4 t210 t211 t212 t213 t214 t215 w0 _ ?side1 ?side2 A12.out).mono ?_); (case side1 => repeat (first | (with_reducible first | exact HI0.out | apply IsS81.alloc | apply IsS81.drewN | apply IsS81.drew | apply IsS81.set_0 | apply IsS81.set_1 | apply IsS81.set_2 | apply IsS81.set_3 | apply IsS81.set_4 | refine IsS81.far ?_ NB0_178.out _ | apply IsS81.far (hne := NB0_178.out) | refine IsS81.far ?_ NB0_185.out _ | apply IsS81.far (hne := NB0_185.out)) | exact HI0.out)); (case side2 => repeat (first | (with_reducible first | exact HB.out | apply below_alloc | apply pw_below_drewN | apply below_drew1 | refine below_set ?_ (IsS81.ge HI0.out) | refine below_set ?_ GE178.out | refine below_set ?_ GE185.out) | exact HB.out)); rintro e w32 ⟨rfl, hi, hb, hk⟩; refine ⟨_, rfl, ?_⟩; have n0_ := Aside0.mk (KeepBut.blk hk (g' := gb178) (o := .cells #[.int .u8 0, .int .u64 0, .int .u32 0, .int .u32 0, .string (⟨#[]⟩ : ByteArray), .string (⟨#[]⟩ : ByteArray)] 27 (0, 0)) (by (with_reducible repeat (first | refine blk_drewN ?_ _ | refine blk_drew ?_ | refine blk_alloc ?_ _)); refine blk_far ?_ NB178_185.out _; (with_reducible repeat (first | refine blk_drewN ?_ _ | refine blk_drew ?_ | refine blk_alloc ?_ _)); exact BK178.out) NB178_0.out (by simp)); have n1_ := Aside0.mk (KeepBut.blk hk (g' := gb185) (o := .cells #[.int .u8 ((t198) % 256), .int .u64 t204, .int .u32 0, .int .u32 0, .string (⟨#[]⟩ : ByteArray), .string (⟨#[]⟩ : ByteArray)] 27 (0, 0)) (by (with_reducible repeat (first | refine blk_drewN ?_ _ | refine blk_drew ?_ | refine blk_alloc ?_ _)); refine blk_put (cs := #[.int .u8 ((t198) % 256), .int .u64 0, .int .u32 0, .int .u32 0, .string (⟨#[]⟩ : ByteArray), .string (⟨#[]⟩ : ByteArray)]) ?_ 1 _ rfl; (with_reducible repeat (first | refine blk_drewN ?_ _ | refine blk_drew ?_ | refine blk_alloc ?_ _)); exact BK185.out) NB185_0.out (by simp)); have n2_ := Aside0.mk (KeepBut.trans (by repeat (first | (with_reducible first | exact HK.out | apply KeepBut.set_ | apply keep_drewN | apply keep_drew | apply keep_alloc | refine keep_far ?_ GW178.out _ | refine keep_far ?_ GW185.out _) | exact HK.out)) hk (.inl rfl)); have n3_ := Aside0.mk (hb); have n4_ := Aside0.mk (hi); clear BK178; clear BK185; clear HK; clear HB; clear HI0; have BK178 := n0_; have BK185 := n1_; have HK := n2_; have HB := n3_; have HI0 := n4_; clear n0_ n1_ n2_ n3_ n4_; (try clear hb); (try clear hb2); (try clear hk); (try clear hi)) | ((with_reducible refine gate_callee (f := 43) rfl ?_); refine goesL_ (some 28) rfl rfl Try.func43 (by kernel_rfl) rfl #[.pointer (some ⟨g, 0, none⟩), .int .i64 4] rfl (by (try simp only [List.map_toArray, List.map_cons, List.map_nil]); first | done | rfl | (simp only [List.length_drop, List.length_take]; rfl)) ?_; (with_reducible refine (octet_In_Small.calls g t211 t212 t213 t214 t215 4 t216 t217 t218 t219 t220 t221 w0 _ ?side1 ?side2 A13.out).mono ?_); (case side1 => repeat (first | (with_reducible first | exact HI0.out | apply IsS81.alloc | apply IsS81.drewN | apply IsS81.drew | apply IsS81.set_0 | apply IsS81.set_1 | apply IsS81.set_2 | apply IsS81.set_3 | apply IsS81.set_4 | refine IsS81.far ?_ NB0_178.out _ | apply IsS81.far (hne := NB0_178.out) | refine IsS81.far ?_ NB0_185.out _ | apply IsS81.far (hne := NB0_185.out)) | exact HI0.out)); (case side2 => repeat (first | (with_reducible first | exact HB.out | apply below_alloc | apply pw_below_drewN | apply below_drew1 | refine below_set ?_ (IsS81.ge HI0.out) | refine below_set ?_ GE178.out | refine below_set ?_ GE185.out) | exact HB.out)); rintro e w33 ⟨rfl, hi, hb, hk⟩; refine ⟨_, rfl, ?_⟩; have n0_ := Aside0.mk (KeepBut.blk hk (g' := gb178) (o := .cells #[.int .u8 0, .int .u64 0, .int .u32 0, .int .u32 0, .string (⟨#[]⟩ : ByteArray), .string (⟨#[]⟩ : ByteArray)] 27 (0, 0)) (by (with_reducible repeat (first | refine blk_drewN ?_ _ | refine blk_drew ?_ | refine blk_alloc ?_ _)); exact BK178.out) NB178_0.out (by simp)); have n1_ := Aside0.mk (KeepBut.blk hk (g' := gb185) (o := .cells #[.int .u8 ((t198) % 256), .int .u64 t204, .int .u32 0, .int .u32 0, .string (⟨#[]⟩ : ByteArray), .string (⟨#[]⟩ : ByteArray)] 27 (0, 0)) (by (with_reducible repeat (first | refine blk_drewN ?_ _ | refine blk_drew ?_ | refine blk_alloc ?_ _)); exact BK185.out) NB185_0.out (by simp)); have n2_ := Aside0.mk (KeepBut.trans (by repeat (first | (with_reducible first | exact HK.out | apply KeepBut.set_ | apply keep_drewN | apply keep_drew | apply keep_alloc | refine keep_far ?_ GW178.out _ | refine keep_far ?_ GW185.out _) | exact HK.out)) hk (.inl rfl)); have n3_ := Aside0.mk (hb); have n4_ := Aside0.mk (hi); clear BK178; clear BK185; clear HK; clear HB; clear HI0; have BK178 := n0_; have BK185 := n1_; have HK := n2_; have HB := n3_; have HI0 := n4_; clear n0_ n1_ n2_ n3_ n4_; (try clear hb); (try clear hb2); (try clear hk); (try clear hi); have hcz34_0 : w33.cell? ⟨gb185, 0, none⟩ = some (.int .u8 ((t198) % 256)) := (blk_cell BK185.out 0).trans rfl; have hcz34_1 : w33.cell? ⟨gb185, 1, none⟩ = some (.int .u64 t204) := (blk_cell BK185.out 1).trans rfl; have hcz34_2 : w33.cell? ⟨gb185, 2, none⟩ = some (.int .u32 0) := (blk_cell BK185.out 2).trans rfl; have hcz34_3 : w33.cell? ⟨gb185, 3, none⟩ = some (.int .u32 0) := (blk_cell BK185.out 3).trans rfl; have hcz34_4 : w33.cell? ⟨gb185, 4, none⟩ = some (.string (⟨#[]⟩ : ByteArray)) := (blk_cell BK185.out 4).trans rfl; have hcz34_5 : w33.cell? ⟨gb185, 5, none⟩ = some (.string (⟨#[]⟩ : ByteArray)) := (blk_cell BK185.out 5).trans rfl; have hfz34_0 := blk_frozen BK185.out 0; have hfz34_1 := blk_frozen BK185.out 1; have hfz34_2 := blk_frozen BK185.out 2; have hfz34_3 := blk_frozen BK185.out 3; have hfz34_4 := blk_frozen BK185.out 4; have hfz34_5 := blk_frozen BK185.out 5) | ((with_reducible refine gate_callee (f := 44) rfl ?_); refine goesL_ (some 35) rfl rfl Try.func44 (by kernel_rfl) rfl #[.pointer (some ⟨g, 0, none⟩)] rfl (by (try simp only [List.map_toArray, List.map_cons, List.map_nil]); first | done | rfl | (simp only [List.length_drop, List.length_take]; rfl)) ?_; (with_reducible refine (octet_In_At.calls g t217 t218 t219 t220 t221 t222 t223 t224 t225 t226 t227 w0 _ ?side1 ?side2 A14.out).mono ?_); (case side1 => repeat (first | (with_reducible first | exact HI0.out | apply IsS81.alloc | apply IsS81.drewN | apply IsS81.drew | apply IsS81.set_0 | apply IsS81.set_1 | apply IsS81.set_2 | apply IsS81.set_3 | apply IsS81.set_4 | refine IsS81.far ?_ NB0_178.out _ | apply IsS81.far (hne := NB0_178.out) | refine IsS81.far ?_ NB0_185.out _ | apply IsS81.far (hne := NB0_185.out)) | exact HI0.out)); (case side2 => repeat (first | (with_reducible first | exact HB.out | apply below_alloc | apply pw_below_drewN | apply below_drew1 | refine below_set ?_ (IsS81.ge HI0.out) | refine below_set ?_ GE178.out | refine below_set ?_ GE185.out) | exact HB.out)); rintro e w35 ⟨rfl, hi, hb, hk⟩; refine ⟨_, rfl, ?_⟩; have n0_ := Aside0.mk (KeepBut.blk hk (g' := gb178) (o := .cells #[.int .u8 0, .int .u64 0, .int .u32 0, .int .u32 0, .string (⟨#[]⟩ : ByteArray), .string (⟨#[]⟩ : ByteArray)] 27 (0, 0)) (by (with_reducible repeat (first | refine blk_drewN ?_ _ | refine blk_drew ?_ | refine blk_alloc ?_ _)); refine blk_far ?_ NB178_185.out _; (with_reducible repeat (first | refine blk_drewN ?_ _ | refine blk_drew ?_ | refine blk_alloc ?_ _)); refine blk_far ?_ NB178_185.out _; (with_reducible repeat (first | refine blk_drewN ?_ _ | refine blk_drew ?_ | refine blk_alloc ?_ _)); exact BK178.out) NB178_0.out (by simp)); have n1_ := Aside0.mk (KeepBut.blk hk (g' := gb185) (o := .cells #[.int .u8 ((t198) % 256), .int .u64 t204, .int .u32 ((t210) % 4294967296), .int .u32 ((t216) % 4294967296), .string (⟨#[]⟩ : ByteArray), .string (⟨#[]⟩ : ByteArray)] 27 (0, 0)) (by (with_reducible repeat (first | refine blk_drewN ?_ _ | refine blk_drew ?_ | refine blk_alloc ?_ _)); refine blk_put (cs := #[.int .u8 ((t198) % 256), .int .u64 t204, .int .u32 ((t210) % 4294967296), .int .u32 0, .string (⟨#[]⟩ : ByteArray), .string (⟨#[]⟩ : ByteArray)]) ?_ 3 _ rfl; (with_reducible repeat (first | refine blk_drewN ?_ _ | refine blk_drew ?_ | refine blk_alloc ?_ _)); refine blk_put (cs := #[.int .u8 ((t198) % 256), .int .u64 t204, .int .u32 0, .int .u32 0, .string (⟨#[]⟩ : ByteArray), .string (⟨#[]⟩ : ByteArray)]) ?_ 2 _ rfl; (with_reducible repeat (first | refine blk_drewN ?_ _ | refine blk_drew ?_ | refine blk_alloc ?_ _)); exact BK185.out) NB185_0.out (by simp)); have n2_ := Aside0.mk (KeepBut.trans (by repeat (first | (with_reducible first | exact HK.out | apply KeepBut.set_ | apply keep_drewN | apply keep_drew | apply keep_alloc | refine keep_far ?_ GW178.out _ | refine keep_far ?_ GW185.out _) | exact HK.out)) hk (.inl rfl)); have n3_ := Aside0.mk (hb); have n4_ := Aside0.mk (hi); clear BK178; clear BK185; clear HK; clear HB; clear HI0; have BK178 := n0_; have BK185 := n1_; have HK := n2_; have HB := n3_; have HI0 := n4_; clear n0_ n1_ n2_ n3_ n4_; (try clear hb); (try clear hb2); (try clear hk); (try clear hi)) | ((with_reducible refine gate_callee (f := 45) rfl ?_); refine goesL_ (some 37) rfl rfl Try.func45 (by kernel_rfl) rfl #[.pointer (some ⟨g, 0, none⟩), .int .i64 4] rfl (by (try simp only [List.map_toArray, List.map_cons, List.map_nil]); first | done | rfl | (simp only [List.length_drop, List.length_take]; rfl)) ?_; (with_reducible refine (octet_In_Take.calls g t223 t224 t225 t226 t227 4 t228 t229 t230 t231 t232 t233 w0 _ ?side1 ?side2 A15.out).mono ?_); (case side1 => repeat (first | (with_reducible first | exact HI0.out | apply IsS81.alloc | apply IsS81.drewN | apply IsS81.drew | apply IsS81.set_0 | apply IsS81.set_1 | apply IsS81.set_2 | apply IsS81.set_3 | apply IsS81.set_4 | refine IsS81.far ?_ NB0_178.out _ | apply IsS81.far (hne := NB0_178.out) | refine IsS81.far ?_ NB0_185.out _ | apply IsS81.far (hne := NB0_185.out)) | exact HI0.out)); (case side2 => repeat (first | (with_reducible first | exact HB.out | apply below_alloc | apply pw_below_drewN | apply below_drew1 | refine below_set ?_ (IsS81.ge HI0.out) | refine below_set ?_ GE178.out | refine below_set ?_ GE185.out) | exact HB.out)); rintro e w36 ⟨rfl, hi, hb, hk⟩; refine ⟨_, rfl, ?_⟩; have n0_ := Aside0.mk (KeepBut.blk hk (g' := gb178) (o := .cells #[.int .u8 0, .int .u64 0, .int .u32 0, .int .u32 0, .string (⟨#[]⟩ : ByteArray), .string (⟨#[]⟩ : ByteArray)] 27 (0, 0)) (by (with_reducible repeat (first | refine blk_drewN ?_ _ | refine blk_drew ?_ | refine blk_alloc ?_ _)); exact BK178.out) NB178_0.out (by simp)); have n1_ := Aside0.mk (KeepBut.blk hk (g' := gb185) (o := .cells #[.int .u8 ((t198) % 256), .int .u64 t204, .int .u32 ((t210) % 4294967296), .int .u32 ((t216) % 4294967296), .string (⟨#[]⟩ : ByteArray), .string (⟨#[]⟩ : ByteArray)] 27 (0, 0)) (by (with_reducible repeat (first | refine blk_drewN ?_ _ | refine blk_drew ?_ | refine blk_alloc ?_ _)); exact BK185.out) NB185_0.out (by simp)); have n2_ := Aside0.mk (KeepBut.trans (by repeat (first | (with_reducible first | exact HK.out | apply KeepBut.set_ | apply keep_drewN | apply keep_drew | apply keep_alloc | refine keep_far ?_ GW178.out _ | refine keep_far ?_ GW185.out _) | exact HK.out)) hk (.inl rfl)); have n3_ := Aside0.mk (hb); have n4_ := Aside0.mk (hi); clear BK178; clear BK185; clear HK; clear HB; clear HI0; have BK178 := n0_; have BK185 := n1_; have HK := n2_; have HB := n3_; have HI0 := n4_; clear n0_ n1_ n2_ n3_ n4_; (try clear hb); (try clear hb2); (try clear hk); (try clear hi)) | ((with_reducible refine gate_callee (f := 42) rfl ?_); refine goesL_ (some 40) rfl rfl Try.func42 (by kernel_rfl) rfl #[.pointer (some ⟨g, 0, none⟩), .int .i64 1] rfl (by (try simp only [List.map_toArray, List.map_cons, List.map_nil]); first | done | rfl | (simp only [List.length_drop, List.length_take]; rfl)) ?_; (with_reducible refine (octet_In_Big.calls g t229 t230 t231 t232 t233 1 t234 t235 t236 t237 t238 t239 w0 _ ?side1 ?side2 A16.out).mono ?_); (case side1 => repeat (first | (with_reducible first | exact HI0.out | apply IsS81.alloc | apply IsS81.drewN | apply IsS81.drew | apply IsS81.set_0 | apply IsS81.set_1 | apply IsS81.set_2 | apply IsS81.set_3 | apply IsS81.set_4 | refine IsS81.far ?_ NB0_178.out _ | apply IsS81.far (hne := NB0_178.out) | refine IsS81.far ?_ NB0_185.out _ | apply IsS81.far (hne := NB0_185.out)) | exact HI0.out)); (case side2 => repeat (first | (with_reducible first | exact HB.out | apply below_alloc | apply pw_below_drewN | apply below_drew1 | refine below_set ?_ (IsS81.ge HI0.out) | refine below_set ?_ GE178.out | refine below_set ?_ GE185.out) | exact HB.out)); rintro e w37 ⟨rfl, hi, hb, hk⟩; refine ⟨_, rfl, ?_⟩; have n0_ := Aside0.mk (KeepBut.blk hk (g' := gb178) (o := .cells #[.int .u8 0, .int .u64 0, .int .u32 0, .int .u32 0, .string (⟨#[]⟩ : ByteArray), .string (⟨#[]⟩ : ByteArray)] 27 (0, 0)) (by (with_reducible repeat (first | refine blk_drewN ?_ _ | refine blk_drew ?_ | refine blk_alloc ?_ _)); exact BK178.out) NB178_0.out (by simp)); have n1_ := Aside0.mk (KeepBut.blk hk (g' := gb185) (o := .cells #[.int .u8 ((t198) % 256), .int .u64 t204, .int .u32 ((t210) % 4294967296), .int .u32 ((t216) % 4294967296), .string (⟨#[]⟩ : ByteArray), .string (⟨#[]⟩ : ByteArray)] 27 (0, 0)) (by (with_reducible repeat (first | refine blk_drewN ?_ _ | refine blk_drew ?_ | refine blk_alloc ?_ _)); exact BK185.out) NB185_0.out (by simp)); have n2_ := Aside0.mk (KeepBut.trans (by repeat (first | (with_reducible first | exact HK.out | apply KeepBut.set_ | apply keep_drewN | apply keep_drew | apply keep_alloc | refine keep_far ?_ GW178.out _ | refine keep_far ?_ GW185.out _) | exact HK.out)) hk (.inl rfl)); have n3_ := Aside0.mk (hb); have n4_ := Aside0.mk (hi); clear BK178; clear BK185; clear HK; clear HB; clear HI0; have BK178 := n0_; have BK185 := n1_; have HK := n2_; have HB := n3_; have HI0 := n4_; clear n0_ n1_ n2_ n3_ n4_; (try clear hb); (try clear hb2); (try clear hk); (try clear hi)) | ((with_reducible refine gate_callee (f := 45) rfl ?_); refine goesL_ (some 42) rfl rfl Try.func45 (by kernel_rfl) rfl #[.pointer (some ⟨g, 0, none⟩), .int .i64 (wrap64 (t234))] rfl (by (try simp only [List.map_toArray, List.map_cons, List.map_nil]); first | done | rfl | (simp only [List.length_drop, List.length_take]; rfl)) ?_; (with_reducible refine (octet_In_Take.calls g t235 t236 t237 t238 t239 (wrap64 (t234)) t240 t241 t242 t243 t244 t245 w0 _ ?side1 ?side2 A17.out).mono ?_); (case side1 => repeat (first | (with_reducible first | exact HI0.out | apply IsS81.alloc | apply IsS81.drewN | apply IsS81.drew | apply IsS81.set_0 | apply IsS81.set_1 | apply IsS81.set_2 | apply IsS81.set_3 | apply IsS81.set_4 | refine IsS81.far ?_ NB0_178.out _ | apply IsS81.far (hne := NB0_178.out) | refine IsS81.far ?_ NB0_185.out _ | apply IsS81.far (hne := NB0_185.out)) | exact HI0.out)); (case side2 => repeat (first | (with_reducible first | exact HB.out | apply below_alloc | apply pw_below_drewN | apply below_drew1 | refine below_set ?_ (IsS81.ge HI0.out) | refine below_set ?_ GE178.out | refine below_set ?_ GE185.out) | exact HB.out)); rintro e w38 ⟨rfl, hi, hb, hk⟩; refine ⟨_, rfl, ?_⟩; have n0_ := Aside0.mk (KeepBut.blk hk (g' := gb178) (o := .cells #[.int .u8 0, .int .u64 0, .int .u32 0, .int .u32 0, .string (⟨#[]⟩ : ByteArray), .string (⟨#[]⟩ : ByteArray)] 27 (0, 0)) (by (with_reducible repeat (first | refine blk_drewN ?_ _ | refine blk_drew ?_ | refine blk_alloc ?_ _)); exact BK178.out) NB178_0.out (by simp)); have n1_ := Aside0.mk (KeepBut.blk hk (g' := gb185) (o := .cells #[.int .u8 ((t198) % 256), .int .u64 t204, .int .u32 ((t210) % 4294967296), .int .u32 ((t216) % 4294967296), .string (⟨#[]⟩ : ByteArray), .string (⟨#[]⟩ : ByteArray)] 27 (0, 0)) (by (with_reducible repeat (first | refine blk_drewN ?_ _ | refine blk_drew ?_ | refine blk_alloc ?_ _)); exact BK185.out) NB185_0.out (by simp)); have n2_ := Aside0.mk (KeepBut.trans (by repeat (first | (with_reducible first | exact HK.out | apply KeepBut.set_ | apply keep_drewN | apply keep_drew | apply keep_alloc | refine keep_far ?_ GW178.out _ | refine keep_far ?_ GW185.out _) | exact HK.out)) hk (.inl rfl)); have n3_ := Aside0.mk (hb); have n4_ := Aside0.mk (hi); clear BK178; clear BK185; clear HK; clear HB; clear HI0; have BK178 := n0_; have BK185 := n1_; have HK := n2_; have HB := n3_; have HI0 := n4_; clear n0_ n1_ n2_ n3_ n4_; (try clear hb); (try clear hb2); (try clear hk); (try clear hi); have hcz39_0 : w38.cell? ⟨gb185, 0, none⟩ = some (.int .u8 ((t198) % 256)) := (blk_cell BK185.out 0).trans rfl; have hcz39_1 : w38.cell? ⟨gb185, 1, none⟩ = some (.int .u64 t204) := (blk_cell BK185.out 1).trans rfl; have hcz39_2 : w38.cell? ⟨gb185, 2, none⟩ = some (.int .u32 ((t210) % 4294967296)) := (blk_cell BK185.out 2).trans rfl; have hcz39_3 : w38.cell? ⟨gb185, 3, none⟩ = some (.int .u32 ((t216) % 4294967296)) := (blk_cell BK185.out 3).trans rfl; have hcz39_4 : w38.cell? ⟨gb185, 4, none⟩ = some (.string (⟨#[]⟩ : ByteArray)) := (blk_cell BK185.out 4).trans rfl; have hcz39_5 : w38.cell? ⟨gb185, 5, none⟩ = some (.string (⟨#[]⟩ : ByteArray)) := (blk_cell BK185.out 5).trans rfl; have hfz39_0 := blk_frozen BK185.out 0; have hfz39_1 := blk_frozen BK185.out 1; have hfz39_2 := blk_frozen BK185.out 2; have hfz39_3 := blk_frozen BK185.out 3; have hfz39_4 := blk_frozen BK185.out 4; have hfz39_5 := blk_frozen BK185.out 5) | ((with_reducible refine gate_callee (f := 46) rfl ?_); refine goesL_ (some 47) rfl rfl Try.func46 (by kernel_rfl) rfl #[.string t240] rfl (by (try simp only [List.map_toArray, List.map_cons, List.map_nil]); first | done | rfl | (simp only [List.length_drop, List.length_take]; rfl)) ?_; (with_reducible refine (page_long.calls k t240 t246 _ A18.out).mono ?_); rintro e w' ⟨rfl, ⟨nd, rfl⟩⟩; refine ⟨_, rfl, ?_⟩) | ((with_reducible refine gate_callee (f := 45) rfl ?_); refine goesL_ (some 48) rfl rfl Try.func45 (by kernel_rfl) rfl #[.pointer (some ⟨g, 0, none⟩), .int .i64 t246] rfl (by (try simp only [List.map_toArray, List.map_cons, List.map_nil]); first | done | rfl | (simp only [List.length_drop, List.length_take]; rfl)) ?_; (with_reducible refine (octet_In_Take.calls g t241 t242 t243 t244 t245 t246 t247 t248 t249 t250 t251 t252 w0 _ ?side1 ?side2 A19.out).mono ?_); (case side1 => repeat (first | (with_reducible first | exact HI0.out | apply IsS81.alloc | apply IsS81.drewN | apply IsS81.drew | apply IsS81.set_0 | apply IsS81.set_1 | apply IsS81.set_2 | apply IsS81.set_3 | apply IsS81.set_4 | refine IsS81.far ?_ NB0_178.out _ | apply IsS81.far (hne := NB0_178.out) | refine IsS81.far ?_ NB0_185.out _ | apply IsS81.far (hne := NB0_185.out)) | exact HI0.out)); (case side2 => repeat (first | (with_reducible first | exact HB.out | apply below_alloc | apply pw_below_drewN | apply below_drew1 | refine below_set ?_ (IsS81.ge HI0.out) | refine below_set ?_ GE178.out | refine below_set ?_ GE185.out) | exact HB.out)); rintro e w40 ⟨rfl, hi, hb, hk⟩; refine ⟨_, rfl, ?_⟩; have n0_ := Aside0.mk (KeepBut.blk hk (g' := gb178) (o := .cells #[.int .u8 0, .int .u64 0, .int .u32 0, .int .u32 0, .string (⟨#[]⟩ : ByteArray), .string (⟨#[]⟩ : ByteArray)] 27 (0, 0)) (by (with_reducible repeat (first | refine blk_drewN ?_ _ | refine blk_drew ?_ | refine blk_alloc ?_ _)); refine blk_far ?_ NB178_185.out _; (with_reducible repeat (first | refine blk_drewN ?_ _ | refine blk_drew ?_ | refine blk_alloc ?_ _)); exact BK178.out) NB178_0.out (by simp)); have n1_ := Aside0.mk (KeepBut.blk hk (g' := gb185) (o := .cells #[.int .u8 ((t198) % 256), .int .u64 t204, .int .u32 ((t210) % 4294967296), .int .u32 ((t216) % 4294967296), .string t240, .string (⟨#[]⟩ : ByteArray)] 27 (0, 0)) (by (with_reducible repeat (first | refine blk_drewN ?_ _ | refine blk_drew ?_ | refine blk_alloc ?_ _)); refine blk_put (cs := #[.int .u8 ((t198) % 256), .int .u64 t204, .int .u32 ((t210) % 4294967296), .int .u32 ((t216) % 4294967296), .string (⟨#[]⟩ : ByteArray), .string (⟨#[]⟩ : ByteArray)]) ?_ 4 _ rfl; (with_reducible repeat (first | refine blk_drewN ?_ _ | refine blk_drew ?_ | refine blk_alloc ?_ _)); exact BK185.out) NB185_0.out (by simp)); have n2_ := Aside0.mk (KeepBut.trans (by repeat (first | (with_reducible first | exact HK.out | apply KeepBut.set_ | apply keep_drewN | apply keep_drew | apply keep_alloc | refine keep_far ?_ GW178.out _ | refine keep_far ?_ GW185.out _) | exact HK.out)) hk (.inl rfl)); have n3_ := Aside0.mk (hb); have n4_ := Aside0.mk (hi); clear BK178; clear BK185; clear HK; clear HB; clear HI0; have BK178 := n0_; have BK185 := n1_; have HK := n2_; have HB := n3_; have HI0 := n4_; clear n0_ n1_ n2_ n3_ n4_; (try clear hb); (try clear hb2); (try clear hk); (try clear hi); have hcz41_0 : w40.cell? ⟨gb185, 0, none⟩ = some (.int .u8 ((t198) % 256)) := (blk_cell BK185.out 0).trans rfl; have hcz41_1 : w40.cell? ⟨gb185, 1, none⟩ = some (.int .u64 t204) := (blk_cell BK185.out 1).trans rfl; have hcz41_2 : w40.cell? ⟨gb185, 2, none⟩ = some (.int .u32 ((t210) % 4294967296)) := (blk_cell BK185.out 2).trans rfl; have hcz41_3 : w40.cell? ⟨gb185, 3, none⟩ = some (.int .u32 ((t216) % 4294967296)) := (blk_cell BK185.out 3).trans rfl; have hcz41_4 : w40.cell? ⟨gb185, 4, none⟩ = some (.string t240) := (blk_cell BK185.out 4).trans rfl; have hcz41_5 : w40.cell? ⟨gb185, 5, none⟩ = some (.string (⟨#[]⟩ : ByteArray)) := (blk_cell BK185.out 5).trans rfl; have hfz41_0 := blk_frozen BK185.out 0; have hfz41_1 := blk_frozen BK185.out 1; have hfz41_2 := blk_frozen BK185.out 2; have hfz41_3 := blk_frozen BK185.out 3; have hfz41_4 := blk_frozen BK185.out 4; have hfz41_5 := blk_frozen BK185.out 5))
    (try simp only [Act.put, List.setIfInBounds_toArray, List.set_cons_zero, List.set_cons_succ])
    go_cut [64] (fun v64 wc => ∃ (kq : Nat) (x64_19 : Bool) (x1000_19 : ByteArray) (x1001_19 : Int) (x1002_19 : Int) (x1003_19 : Int) (x1004_19 : Int), v64 = .bool x64_19 ∧ Aside0 (page_Parse.j0 kq t222 x64_19 x1000_19 x1001_19 x1002_19 x1003_19 x1004_19 ((t198) % 256) t204 ((t210) % 4294967296) ((t216) % 4294967296) t240 t247 = some (r1, r2, r3, r4, r5, r6, r7, r8, r9, r10, r11, r12)) ∧ Aside0 (kq ≤ k) ∧ Aside0 (wc.heap[gb178]? = some (.cells #[.int .u8 0, .int .u64 0, .int .u32 0, .int .u32 0, .string (⟨#[]⟩ : ByteArray), .string (⟨#[]⟩ : ByteArray)] 27 (0, 0))) ∧ Aside0 (wc.heap[gb185]? = some (.cells #[.int .u8 ((t198) % 256), .int .u64 t204, .int .u32 ((t210) % 4294967296), .int .u32 ((t216) % 4294967296), .string t240, .string t247] 27 (0, 0))) ∧ Aside0 (IsS81 w0 wc g x1000_19 x1001_19 x1002_19 x1003_19 x1004_19) ∧ Aside0 (KeepBut w wc g none) ∧ Aside0 (Below w0.heap.size w0 wc))
    case first =>
      have H := HC20.out
      clear HC20
      replace H := Option.bind_eq_some_iff.mp H
      obtain ⟨⟨t253, t254, t255, t256, t257, t258, t259⟩, A420, H⟩ := H
      replace H : ((api_Fault_Bad.f t253 t254).bind fun t260 => (if t260 = true then (page_Parse.j0 k t222 false t255 t256 t257 t258 t259 ((t198) % 256) t204 ((t210) % 4294967296) ((t216) % 4294967296) t240 t247) else ((page_Page_front.f k ((t198) % 256) t204 ((t210) % 4294967296) ((t216) % 4294967296) t240 t247).bind fun t261 => ((page_Page_back.f k ((t198) % 256) t204 ((t210) % 4294967296) ((t216) % 4294967296) t240 t247).bind fun t262 => ((sum_Of.f k (([t261, (⟨#[0, 0, 0, 0]⟩ : ByteArray), t262] : List ByteArray))).bind fun t266 => ((sum_Sum_Bytes.f k t266).bind fun t267 => (page_Parse.j0 k t222 (t267.toList != t228.toList) t255 t256 t257 t258 t259 ((t198) % 256) t204 ((t210) % 4294967296) ((t216) % 4294967296) t240 t247))))))) = some (r1, r2, r3, r4, r5, r6, r7, r8, r9, r10, r11, r12) := H
      have A42 := Aside0.mk A420
      clear A420
      replace H := Option.bind_eq_some_iff.mp H
      obtain ⟨t260, A430, H⟩ := H
      replace H : (if t260 = true then (page_Parse.j0 k t222 false t255 t256 t257 t258 t259 ((t198) % 256) t204 ((t210) % 4294967296) ((t216) % 4294967296) t240 t247) else ((page_Page_front.f k ((t198) % 256) t204 ((t210) % 4294967296) ((t216) % 4294967296) t240 t247).bind fun t261 => ((page_Page_back.f k ((t198) % 256) t204 ((t210) % 4294967296) ((t216) % 4294967296) t240 t247).bind fun t262 => ((sum_Of.f k (([t261, (⟨#[0, 0, 0, 0]⟩ : ByteArray), t262] : List ByteArray))).bind fun t266 => ((sum_Sum_Bytes.f k t266).bind fun t267 => (page_Parse.j0 k t222 (t267.toList != t228.toList) t255 t256 t257 t258 t259 ((t198) % 256) t204 ((t210) % 4294967296) ((t216) % 4294967296) t240 t247)))))) = some (r1, r2, r3, r4, r5, r6, r7, r8, r9, r10, r11, r12) := H
      have A43 := Aside0.mk A430
      clear A430
      by_cases c44 : t260 = true
      · subst c44
        have H1 : (page_Parse.j0 k t222 false t255 t256 t257 t258 t259 ((t198) % 256) t204 ((t210) % 4294967296) ((t216) % 4294967296) t240 t247) = some (r1, r2, r3, r4, r5, r6, r7, r8, r9, r10, r11, r12) := by rw [if_pos rfl] at H; exact H
        clear H
        have H := H1
        clear H1
        have H' := Aside0.mk H
        clear H
        try go_wp2
        have n0_ : Aside0 ((w40.setCell ⟨gb185, 5, none⟩ (.string t247)).heap[gb178]? = some (.cells #[.int .u8 0, .int .u64 0, .int .u32 0, .int .u32 0, .string (⟨#[]⟩ : ByteArray), .string (⟨#[]⟩ : ByteArray)] 27 (0, 0))) := ⟨by (with_reducible repeat (first | refine blk_drewN ?_ _ | refine blk_drew ?_ | refine blk_alloc ?_ _)); refine blk_far ?_ NB178_185.out _; (with_reducible repeat (first | refine blk_drewN ?_ _ | refine blk_drew ?_ | refine blk_alloc ?_ _)); exact BK178.out⟩
        have n1_ : Aside0 ((w40.setCell ⟨gb185, 5, none⟩ (.string t247)).heap[gb185]? = some (.cells #[.int .u8 ((t198) % 256), .int .u64 t204, .int .u32 ((t210) % 4294967296), .int .u32 ((t216) % 4294967296), .string t240, .string t247] 27 (0, 0))) := ⟨by (with_reducible repeat (first | refine blk_drewN ?_ _ | refine blk_drew ?_ | refine blk_alloc ?_ _)); refine blk_put (cs := #[.int .u8 ((t198) % 256), .int .u64 t204, .int .u32 ((t210) % 4294967296), .int .u32 ((t216) % 4294967296), .string t240, .string (⟨#[]⟩ : ByteArray)]) ?_ 5 _ rfl; (with_reducible repeat (first | refine blk_drewN ?_ _ | refine blk_drew ?_ | refine blk_alloc ?_ _)); exact BK185.out⟩
        have n2_ : Aside0 (IsS81 w0 (w40.setCell ⟨gb185, 5, none⟩ (.string t247)) g t248 t249 t250 t251 t252) := ⟨by repeat (first | (with_reducible first | exact HI0.out | apply IsS81.alloc | apply IsS81.drewN | apply IsS81.drew | apply IsS81.set_0 | apply IsS81.set_1 | apply IsS81.set_2 | apply IsS81.set_3 | apply IsS81.set_4 | refine IsS81.far ?_ NB0_178.out _ | apply IsS81.far (hne := NB0_178.out) | refine IsS81.far ?_ NB0_185.out _ | apply IsS81.far (hne := NB0_185.out)) | exact HI0.out)⟩
        have n3_ : Aside0 (KeepBut w (w40.setCell ⟨gb185, 5, none⟩ (.string t247)) g none) := ⟨by repeat (first | (with_reducible first | exact HK.out | apply KeepBut.set_ | apply keep_drewN | apply keep_drew | apply keep_alloc | refine keep_far ?_ GW178.out _ | refine keep_far ?_ GW185.out _) | exact HK.out)⟩
        have n4_ : Aside0 (Below w0.heap.size w0 (w40.setCell ⟨gb185, 5, none⟩ (.string t247))) := ⟨by repeat (first | (with_reducible first | exact HB.out | apply below_alloc | apply pw_below_drewN | apply below_drew1 | refine below_set ?_ (IsS81.ge HI0.out) | refine below_set ?_ GE178.out | refine below_set ?_ GE185.out) | exact HB.out)⟩
        (try clear BK178)
        (try clear BK185)
        (try clear HI0)
        (try clear HK)
        (try clear HB)
        generalize (w40.setCell ⟨gb185, 5, none⟩ (.string t247)) = w45 at n0_ n1_ n2_ n3_ n4_ ⊢
        have BK178 := n0_
        have BK185 := n1_
        have HI0 := n2_
        have HK := n3_
        have HB := n4_
        clear n0_ n1_ n2_ n3_ n4_
        have n0_ := Aside0.mk (blk_drew BK178.out)
        have n1_ := Aside0.mk (blk_drew BK185.out)
        have n2_ := Aside0.mk (IsS81.drew HI0.out)
        have n3_ := Aside0.mk (keep_drew HK.out)
        have n4_ := Aside0.mk (below_drew1 HB.out)
        clear BK178
        clear BK185
        clear HI0
        clear HK
        clear HB
        have BK178 := n0_
        have BK185 := n1_
        have HI0 := n2_
        have HK := n3_
        have HB := n4_
        clear n0_ n1_ n2_ n3_ n4_
        refine start_ (n := 15) (S := fun w' => True) (ds := []) #[false, false, false, false, false, false, false, false, false, false, false, false, false, false, false] (by kernel_rfl) rfl rfl trivial (fun hHeld => ?_); refine with_tabW page_Parse.tab13 page_Parse.bits13 (fun HT_ HW_ => ?_)
        generalize w45.drew = w46 at BK178 BK185 HI0 HK HB hHeld ⊢
        refine pure_ (i := 0) (N := some 50) (v := ?_) (a' := ?_) #[true, false, false, false, false, false, false, false, false, false, false, false, false, false, false] rfl rfl (any_of HT_.out (by kernel_rfl)) (fun _ _ _ h => h) (Or.inl ⟨by rfl, ?_⟩) ?_ ?_
        rotate_left
        · intro w'
          go_simp
          with_reducible rfl
        rotate_left
        · simp only [Act.put, List.setIfInBounds_toArray, List.set_cons_zero, List.set_cons_succ, i64_w, i32_w]
          rfl
        refine one_ (i := 1) (N := some 51) #[true, true, false, false, false, false, false, false, false, false, false, false, false, false, false] rfl rfl (one_of HT_.out (by kernel_rfl)) (by decide) (fun K hK => ?_)
        refine goes_ Try.func47 (by kernel_rfl) rfl #[.pointer (some ⟨g, 0, none⟩)] (by rfl) rfl rfl (by (try simp only [List.map_toArray, List.map_cons, List.map_nil]); first | done | rfl | (simp only [List.length_drop, List.length_take]; rfl)) ?_
        with_reducible refine (octet_In_Fault.calls g t248 t249 t250 t251 t252 t253 t254 t255 t256 t257 t258 t259 w0 _ ?side1 ?side2 A42.out).mono ?_
        (case side1 => repeat (first | (with_reducible first | exact HI0.out | apply IsS81.alloc | apply IsS81.drewN | apply IsS81.drew | apply IsS81.set_0 | apply IsS81.set_1 | apply IsS81.set_2 | apply IsS81.set_3 | apply IsS81.set_4 | refine IsS81.far ?_ NB0_178.out _ | apply IsS81.far (hne := NB0_178.out) | refine IsS81.far ?_ NB0_185.out _ | apply IsS81.far (hne := NB0_185.out)) | exact HI0.out))
        (case side2 => repeat (first | (with_reducible first | exact HB.out | apply below_alloc | apply pw_below_drewN | apply below_drew1 | refine below_set ?_ (IsS81.ge HI0.out) | refine below_set ?_ GE178.out | refine below_set ?_ GE185.out) | exact HB.out))
        rintro e w47 ⟨rfl, hi, hb, hk⟩
        refine ⟨_, rfl, ?_⟩
        have n0_ := Aside0.mk (KeepBut.blk hk (g' := gb178) (o := .cells #[.int .u8 0, .int .u64 0, .int .u32 0, .int .u32 0, .string (⟨#[]⟩ : ByteArray), .string (⟨#[]⟩ : ByteArray)] 27 (0, 0)) (by (with_reducible repeat (first | refine blk_drewN ?_ _ | refine blk_drew ?_ | refine blk_alloc ?_ _)); exact BK178.out) NB178_0.out (by simp))
        have n1_ := Aside0.mk (KeepBut.blk hk (g' := gb185) (o := .cells #[.int .u8 ((t198) % 256), .int .u64 t204, .int .u32 ((t210) % 4294967296), .int .u32 ((t216) % 4294967296), .string t240, .string t247] 27 (0, 0)) (by (with_reducible repeat (first | refine blk_drewN ?_ _ | refine blk_drew ?_ | refine blk_alloc ?_ _)); exact BK185.out) NB185_0.out (by simp))
        have n2_ := Aside0.mk (KeepBut.trans (by repeat (first | (with_reducible first | exact HK.out | apply KeepBut.set_ | apply keep_drewN | apply keep_drew | apply keep_alloc | refine keep_far ?_ GW178.out _ | refine keep_far ?_ GW185.out _) | exact HK.out)) hk (.inl rfl))
        have n3_ := Aside0.mk (hb)
        have n4_ := Aside0.mk (hi)
        clear BK178
        clear BK185
        clear HK
        clear HB
        clear HI0
        have BK178 := n0_
        have BK185 := n1_
        have HK := n2_
        have HB := n3_
        have HI0 := n4_
        clear n0_ n1_ n2_ n3_ n4_
        (try clear hb)
        (try clear hb2)
        (try clear hk)
        (try clear hi)
        refine hK.out _ _ trivial (fun hHeld => ?_)
        clear hK K
        refine norm_ (a' := ?_) ?_ ?_
        rotate_left
        · show Act.put _ (some 51) _ = _
          simp only [Act.put, List.setIfInBounds_toArray, List.set_cons_zero, List.set_cons_succ, i64_w, i32_w]
          rfl
        refine one_ (i := 2) (N := some 52) #[true, true, true, false, false, false, false, false, false, false, false, false, false, false, false] rfl rfl (one_of HT_.out (by kernel_rfl)) (by decide) (fun K hK => ?_)
        refine goes_ Try.func12 (by kernel_rfl) rfl #[.agg #[.int .i64 t253, .int .i64 t254]] (by rfl) rfl rfl (by (try simp only [List.map_toArray, List.map_cons, List.map_nil]); first | done | rfl | (simp only [List.length_drop, List.length_take]; rfl)) ?_
        with_reducible refine (api_Fault_Bad.calls t253 t254 true _ A43.out).mono ?_
        rintro e w48 ⟨rfl, hb⟩
        refine ⟨_, rfl, ?_⟩
        have n0_ := Aside0.mk (IsS81.below (by repeat (first | (with_reducible first | exact HI0.out | apply IsS81.alloc | apply IsS81.drewN | apply IsS81.drew | apply IsS81.set_0 | apply IsS81.set_1 | apply IsS81.set_2 | apply IsS81.set_3 | apply IsS81.set_4 | refine IsS81.far ?_ NB0_178.out _ | apply IsS81.far (hne := NB0_178.out) | refine IsS81.far ?_ NB0_185.out _ | apply IsS81.far (hne := NB0_185.out)) | exact HI0.out)) hb)
        have n1_ := Aside0.mk (blk_below (g := gb178) (o := .cells #[.int .u8 0, .int .u64 0, .int .u32 0, .int .u32 0, .string (⟨#[]⟩ : ByteArray), .string (⟨#[]⟩ : ByteArray)] 27 (0, 0)) (by (with_reducible repeat (first | refine blk_drewN ?_ _ | refine blk_drew ?_ | refine blk_alloc ?_ _)); exact BK178.out) hb)
        have n2_ := Aside0.mk (blk_below (g := gb185) (o := .cells #[.int .u8 ((t198) % 256), .int .u64 t204, .int .u32 ((t210) % 4294967296), .int .u32 ((t216) % 4294967296), .string t240, .string t247] 27 (0, 0)) (by (with_reducible repeat (first | refine blk_drewN ?_ _ | refine blk_drew ?_ | refine blk_alloc ?_ _)); exact BK185.out) hb)
        have n3_ := Aside0.mk (KeepBut.trans (by repeat (first | (with_reducible first | exact HK.out | apply KeepBut.set_ | apply keep_drewN | apply keep_drew | apply keep_alloc | refine keep_far ?_ GW178.out _ | refine keep_far ?_ GW185.out _) | exact HK.out)) (KeepBut.of_below hb g none) (.inl rfl))
        have n4_ := Aside0.mk (below_step (by repeat (first | (with_reducible first | exact HB.out | apply below_alloc | apply pw_below_drewN | apply below_drew1 | refine below_set ?_ (IsS81.ge HI0.out) | refine below_set ?_ GE178.out | refine below_set ?_ GE185.out) | exact HB.out)) hb)
        clear HI0
        clear BK178
        clear BK185
        clear HK
        clear HB
        have HI0 := n0_
        have BK178 := n1_
        have BK185 := n2_
        have HK := n3_
        have HB := n4_
        clear n0_ n1_ n2_ n3_ n4_
        (try clear hb)
        (try clear hb2)
        (try clear hk)
        (try clear hi)
        refine hK.out _ _ trivial (fun hHeld => ?_)
        clear hK K
        refine norm_ (a' := ?_) ?_ ?_
        rotate_left
        · show Act.put _ (some 52) _ = _
          simp only [Act.put, List.setIfInBounds_toArray, List.set_cons_zero, List.set_cons_succ, i64_w, i32_w]
          rfl
        refine pure_ (i := 3) (N := some 53) (v := ?_) (a' := ?_) #[true, true, true, true, false, false, false, false, false, false, false, false, false, false, false] rfl rfl (any_of HT_.out (by kernel_rfl)) (fun _ _ _ h => h) (Or.inl ⟨by rfl, ?_⟩) ?_ ?_
        rotate_left
        · intro w'
          go_simp
          with_reducible rfl
        rotate_left
        · simp only [Act.put, List.setIfInBounds_toArray, List.set_cons_zero, List.set_cons_succ, i64_w, i32_w]
          rfl
        refine pure_ (i := 4) (N := some 54) (v := ?_) (a' := ?_) #[true, true, true, true, true, false, false, false, false, false, false, false, false, false, false] rfl rfl (any_of HT_.out (by kernel_rfl)) (fun _ _ _ h => h) (Or.inl ⟨by rfl, ?_⟩) ?_ ?_
        rotate_left
        · intro w'
          go_simp
          with_reducible rfl
        rotate_left
        · simp only [Act.put, List.setIfInBounds_toArray, List.set_cons_zero, List.set_cons_succ, i64_w, i32_w]
          rfl
        refine pure_ (i := 5) (N := some 55) (v := undef) (a' := ?_) #[true, true, true, true, true, true, false, false, false, false, false, false, false, false, false] rfl rfl (any_of HT_.out (by kernel_rfl)) (fun _ _ _ h => h) (Or.inr ⟨by rfl, rfl⟩) ?_ ?_
        rotate_left
        · simp only [Act.put, List.setIfInBounds_toArray, List.set_cons_zero, List.set_cons_succ, i64_w, i32_w]
          rfl
        refine pure_ (i := 6) (N := some 56) (v := undef) (a' := ?_) #[true, true, true, true, true, true, true, false, false, false, false, false, false, false, false] rfl rfl (any_of HT_.out (by kernel_rfl)) (fun _ _ _ h => h) (Or.inr ⟨by rfl, rfl⟩) ?_ ?_
        rotate_left
        · simp only [Act.put, List.setIfInBounds_toArray, List.set_cons_zero, List.set_cons_succ, i64_w, i32_w]
          rfl
        refine pure_ (i := 7) (N := some 57) (v := undef) (a' := ?_) #[true, true, true, true, true, true, true, true, false, false, false, false, false, false, false] rfl rfl (any_of HT_.out (by kernel_rfl)) (fun _ _ _ h => h) (Or.inr ⟨by rfl, rfl⟩) ?_ ?_
        rotate_left
        · simp only [Act.put, List.setIfInBounds_toArray, List.set_cons_zero, List.set_cons_succ, i64_w, i32_w]
          rfl
        refine pure_ (i := 8) (N := some 58) (v := undef) (a' := ?_) #[true, true, true, true, true, true, true, true, true, false, false, false, false, false, false] rfl rfl (any_of HT_.out (by kernel_rfl)) (fun _ _ _ h => h) (Or.inr ⟨by rfl, rfl⟩) ?_ ?_
        rotate_left
        · simp only [Act.put, List.setIfInBounds_toArray, List.set_cons_zero, List.set_cons_succ, i64_w, i32_w]
          rfl
        refine pure_ (i := 9) (N := some 59) (v := undef) (a' := ?_) #[true, true, true, true, true, true, true, true, true, true, false, false, false, false, false] rfl rfl (any_of HT_.out (by kernel_rfl)) (fun _ _ _ h => h) (Or.inr ⟨by rfl, rfl⟩) ?_ ?_
        rotate_left
        · simp only [Act.put, List.setIfInBounds_toArray, List.set_cons_zero, List.set_cons_succ, i64_w, i32_w]
          rfl
        refine pure_ (i := 10) (N := some 60) (v := undef) (a' := ?_) #[true, true, true, true, true, true, true, true, true, true, true, false, false, false, false] rfl rfl (any_of HT_.out (by kernel_rfl)) (fun _ _ _ h => h) (Or.inr ⟨by rfl, rfl⟩) ?_ ?_
        rotate_left
        · simp only [Act.put, List.setIfInBounds_toArray, List.set_cons_zero, List.set_cons_succ, i64_w, i32_w]
          rfl
        refine pure_ (i := 11) (N := some 61) (v := undef) (a' := ?_) #[true, true, true, true, true, true, true, true, true, true, true, true, false, false, false] rfl rfl (any_of HT_.out (by kernel_rfl)) (fun _ _ _ h => h) (Or.inr ⟨by rfl, rfl⟩) ?_ ?_
        rotate_left
        · simp only [Act.put, List.setIfInBounds_toArray, List.set_cons_zero, List.set_cons_succ, i64_w, i32_w]
          rfl
        refine pure_ (i := 12) (N := some 62) (v := undef) (a' := ?_) #[true, true, true, true, true, true, true, true, true, true, true, true, true, false, false] rfl rfl (any_of HT_.out (by kernel_rfl)) (fun _ _ _ h => h) (Or.inr ⟨by rfl, rfl⟩) ?_ ?_
        rotate_left
        · simp only [Act.put, List.setIfInBounds_toArray, List.set_cons_zero, List.set_cons_succ, i64_w, i32_w]
          rfl
        refine pure_ (i := 13) (N := some 63) (v := undef) (a' := ?_) #[true, true, true, true, true, true, true, true, true, true, true, true, true, true, false] rfl rfl (any_of HT_.out (by kernel_rfl)) (fun _ _ _ h => h) (Or.inr ⟨by rfl, rfl⟩) ?_ ?_
        rotate_left
        · simp only [Act.put, List.setIfInBounds_toArray, List.set_cons_zero, List.set_cons_succ, i64_w, i32_w]
          rfl
        refine pure_ (i := 14) (N := some 64) (v := ?_) (a' := ?_) #[true, true, true, true, true, true, true, true, true, true, true, true, true, true, true] rfl rfl (any_of HT_.out (by kernel_rfl)) (fun _ _ _ h => h) (Or.inl ⟨by rfl, ?_⟩) ?_ ?_
        rotate_left
        · intro w'
          go_simp
          with_reducible rfl
        rotate_left
        · simp only [Act.put, List.setIfInBounds_toArray, List.set_cons_zero, List.set_cons_succ, i64_w, i32_w]
          rfl
        refine done_ (done_of HT_.out (by kernel_rfl)) ?_
        try go_wp2
        go_meet
        case rel => exact ⟨_, (false), (t255), (t256), (t257), (t258), (t259), (by first | rfl | (simp; done) | (simp [*]; done) | (simp [beq_nil_isEmpty, bne_nil_isEmpty]; done)), H', ⟨by first | omega | exact Nat.le_refl _⟩, ⟨by (with_reducible repeat (first | refine blk_drewN ?_ _ | refine blk_drew ?_ | refine blk_alloc ?_ _)); exact BK178.out⟩, ⟨by (with_reducible repeat (first | refine blk_drewN ?_ _ | refine blk_drew ?_ | refine blk_alloc ?_ _)); exact BK185.out⟩, ⟨by repeat (first | (with_reducible first | exact HI0.out | apply IsS81.alloc | apply IsS81.drewN | apply IsS81.drew | apply IsS81.set_0 | apply IsS81.set_1 | apply IsS81.set_2 | apply IsS81.set_3 | apply IsS81.set_4 | refine IsS81.far ?_ NB0_178.out _ | apply IsS81.far (hne := NB0_178.out) | refine IsS81.far ?_ NB0_185.out _ | apply IsS81.far (hne := NB0_185.out)) | exact HI0.out)⟩, ⟨by repeat (first | (with_reducible first | exact HK.out | apply KeepBut.set_ | apply keep_drewN | apply keep_drew | apply keep_alloc | refine keep_far ?_ GW178.out _ | refine keep_far ?_ GW185.out _) | exact HK.out)⟩, ⟨by repeat (first | (with_reducible first | exact HB.out | apply below_alloc | apply pw_below_drewN | apply below_drew1 | refine below_set ?_ (IsS81.ge HI0.out) | refine below_set ?_ GE178.out | refine below_set ?_ GE185.out) | exact HB.out)⟩⟩
      · replace c44 := Bool.eq_false_iff.mpr c44
        subst c44
        have H1 : ((page_Page_front.f k ((t198) % 256) t204 ((t210) % 4294967296) ((t216) % 4294967296) t240 t247).bind fun t261 => ((page_Page_back.f k ((t198) % 256) t204 ((t210) % 4294967296) ((t216) % 4294967296) t240 t247).bind fun t262 => ((sum_Of.f k (([t261, (⟨#[0, 0, 0, 0]⟩ : ByteArray), t262] : List ByteArray))).bind fun t266 => ((sum_Sum_Bytes.f k t266).bind fun t267 => (page_Parse.j0 k t222 (t267.toList != t228.toList) t255 t256 t257 t258 t259 ((t198) % 256) t204 ((t210) % 4294967296) ((t216) % 4294967296) t240 t247))))) = some (r1, r2, r3, r4, r5, r6, r7, r8, r9, r10, r11, r12) := by rw [if_neg (show ¬ (false = true) by decide)] at H; exact H
        clear H
        have H := H1
        clear H1
        replace H := Option.bind_eq_some_iff.mp H
        obtain ⟨t261, A490, H⟩ := H
        replace H : ((page_Page_back.f k ((t198) % 256) t204 ((t210) % 4294967296) ((t216) % 4294967296) t240 t247).bind fun t262 => ((sum_Of.f k (([t261, (⟨#[0, 0, 0, 0]⟩ : ByteArray), t262] : List ByteArray))).bind fun t266 => ((sum_Sum_Bytes.f k t266).bind fun t267 => (page_Parse.j0 k t222 (t267.toList != t228.toList) t255 t256 t257 t258 t259 ((t198) % 256) t204 ((t210) % 4294967296) ((t216) % 4294967296) t240 t247)))) = some (r1, r2, r3, r4, r5, r6, r7, r8, r9, r10, r11, r12) := H
        have A49 := Aside0.mk A490
        clear A490
        replace H := Option.bind_eq_some_iff.mp H
        obtain ⟨t262, A500, H⟩ := H
        replace H : ((sum_Of.f k (([t261, (⟨#[0, 0, 0, 0]⟩ : ByteArray), t262] : List ByteArray))).bind fun t266 => ((sum_Sum_Bytes.f k t266).bind fun t267 => (page_Parse.j0 k t222 (t267.toList != t228.toList) t255 t256 t257 t258 t259 ((t198) % 256) t204 ((t210) % 4294967296) ((t216) % 4294967296) t240 t247))) = some (r1, r2, r3, r4, r5, r6, r7, r8, r9, r10, r11, r12) := H
        have A50 := Aside0.mk A500
        clear A500
        obtain ⟨y263, hy263⟩ : ∃ y_ : List ByteArray, y_ = (([t261, (⟨#[0, 0, 0, 0]⟩ : ByteArray), t262] : List ByteArray)) := ⟨_, rfl⟩
        replace H : ((sum_Of.f k y263).bind fun t266 => ((sum_Sum_Bytes.f k t266).bind fun t267 => (page_Parse.j0 k t222 (t267.toList != t228.toList) t255 t256 t257 t258 t259 ((t198) % 256) t204 ((t210) % 4294967296) ((t216) % 4294967296) t240 t247))) = some (r1, r2, r3, r4, r5, r6, r7, r8, r9, r10, r11, r12) := by first | (rw [hy263]; with_reducible exact H) | (have H2_ := (Option.bind_some _ _).symm.trans H; rw [hy263]; with_reducible exact H2_) | (have H2_ := (Option.bind_some _ _).symm.trans H; with_reducible exact H2_) | with_reducible exact H | (rw [hy263]; exact H) | exact H
        have Ny263 := Aside0.mk hy263
        clear hy263
        replace H := Option.bind_eq_some_iff.mp H
        obtain ⟨t266, A510, H⟩ := H
        replace H : ((sum_Sum_Bytes.f k t266).bind fun t267 => (page_Parse.j0 k t222 (t267.toList != t228.toList) t255 t256 t257 t258 t259 ((t198) % 256) t204 ((t210) % 4294967296) ((t216) % 4294967296) t240 t247)) = some (r1, r2, r3, r4, r5, r6, r7, r8, r9, r10, r11, r12) := H
        have A51 := Aside0.mk A510
        clear A510
        replace H := Option.bind_eq_some_iff.mp H
        obtain ⟨t267, A520, H⟩ := H
        replace H : (page_Parse.j0 k t222 (t267.toList != t228.toList) t255 t256 t257 t258 t259 ((t198) % 256) t204 ((t210) % 4294967296) ((t216) % 4294967296) t240 t247) = some (r1, r2, r3, r4, r5, r6, r7, r8, r9, r10, r11, r12) := H
        have A52 := Aside0.mk A520
        clear A520
        have H' := Aside0.mk H
        clear H
        try go_wp2
        have n0_ : Aside0 ((w40.setCell ⟨gb185, 5, none⟩ (.string t247)).heap[gb178]? = some (.cells #[.int .u8 0, .int .u64 0, .int .u32 0, .int .u32 0, .string (⟨#[]⟩ : ByteArray), .string (⟨#[]⟩ : ByteArray)] 27 (0, 0))) := ⟨by (with_reducible repeat (first | refine blk_drewN ?_ _ | refine blk_drew ?_ | refine blk_alloc ?_ _)); refine blk_far ?_ NB178_185.out _; (with_reducible repeat (first | refine blk_drewN ?_ _ | refine blk_drew ?_ | refine blk_alloc ?_ _)); exact BK178.out⟩
        have n1_ : Aside0 ((w40.setCell ⟨gb185, 5, none⟩ (.string t247)).heap[gb185]? = some (.cells #[.int .u8 ((t198) % 256), .int .u64 t204, .int .u32 ((t210) % 4294967296), .int .u32 ((t216) % 4294967296), .string t240, .string t247] 27 (0, 0))) := ⟨by (with_reducible repeat (first | refine blk_drewN ?_ _ | refine blk_drew ?_ | refine blk_alloc ?_ _)); refine blk_put (cs := #[.int .u8 ((t198) % 256), .int .u64 t204, .int .u32 ((t210) % 4294967296), .int .u32 ((t216) % 4294967296), .string t240, .string (⟨#[]⟩ : ByteArray)]) ?_ 5 _ rfl; (with_reducible repeat (first | refine blk_drewN ?_ _ | refine blk_drew ?_ | refine blk_alloc ?_ _)); exact BK185.out⟩
        have n2_ : Aside0 (IsS81 w0 (w40.setCell ⟨gb185, 5, none⟩ (.string t247)) g t248 t249 t250 t251 t252) := ⟨by repeat (first | (with_reducible first | exact HI0.out | apply IsS81.alloc | apply IsS81.drewN | apply IsS81.drew | apply IsS81.set_0 | apply IsS81.set_1 | apply IsS81.set_2 | apply IsS81.set_3 | apply IsS81.set_4 | refine IsS81.far ?_ NB0_178.out _ | apply IsS81.far (hne := NB0_178.out) | refine IsS81.far ?_ NB0_185.out _ | apply IsS81.far (hne := NB0_185.out)) | exact HI0.out)⟩
        have n3_ : Aside0 (KeepBut w (w40.setCell ⟨gb185, 5, none⟩ (.string t247)) g none) := ⟨by repeat (first | (with_reducible first | exact HK.out | apply KeepBut.set_ | apply keep_drewN | apply keep_drew | apply keep_alloc | refine keep_far ?_ GW178.out _ | refine keep_far ?_ GW185.out _) | exact HK.out)⟩
        have n4_ : Aside0 (Below w0.heap.size w0 (w40.setCell ⟨gb185, 5, none⟩ (.string t247))) := ⟨by repeat (first | (with_reducible first | exact HB.out | apply below_alloc | apply pw_below_drewN | apply below_drew1 | refine below_set ?_ (IsS81.ge HI0.out) | refine below_set ?_ GE178.out | refine below_set ?_ GE185.out) | exact HB.out)⟩
        (try clear BK178)
        (try clear BK185)
        (try clear HI0)
        (try clear HK)
        (try clear HB)
        generalize (w40.setCell ⟨gb185, 5, none⟩ (.string t247)) = w53 at n0_ n1_ n2_ n3_ n4_ ⊢
        have BK178 := n0_
        have BK185 := n1_
        have HI0 := n2_
        have HK := n3_
        have HB := n4_
        clear n0_ n1_ n2_ n3_ n4_
        have n0_ := Aside0.mk (blk_drew BK178.out)
        have n1_ := Aside0.mk (blk_drew BK185.out)
        have n2_ := Aside0.mk (IsS81.drew HI0.out)
        have n3_ := Aside0.mk (keep_drew HK.out)
        have n4_ := Aside0.mk (below_drew1 HB.out)
        clear BK178
        clear BK185
        clear HI0
        clear HK
        clear HB
        have BK178 := n0_
        have BK185 := n1_
        have HI0 := n2_
        have HK := n3_
        have HB := n4_
        clear n0_ n1_ n2_ n3_ n4_
        refine start_ (n := 15) (S := fun w' => w'.cell? ⟨gb185, 0, none⟩ = some (.int .u8 ((t198) % 256)) ∧ w'.cell? ⟨gb185, 1, none⟩ = some (.int .u64 t204) ∧ w'.cell? ⟨gb185, 2, none⟩ = some (.int .u32 ((t210) % 4294967296)) ∧ w'.cell? ⟨gb185, 3, none⟩ = some (.int .u32 ((t216) % 4294967296)) ∧ w'.cell? ⟨gb185, 4, none⟩ = some (.string t240) ∧ w'.cell? ⟨gb185, 5, none⟩ = some (.string t247)) (ds := []) #[false, false, false, false, false, false, false, false, false, false, false, false, false, false, false] (by kernel_rfl) rfl rfl ⟨(blk_cell BK185.out 0).trans rfl, (blk_cell BK185.out 1).trans rfl, (blk_cell BK185.out 2).trans rfl, (blk_cell BK185.out 3).trans rfl, (blk_cell BK185.out 4).trans rfl, (blk_cell BK185.out 5).trans rfl⟩ (fun hHeld => ?_); refine with_tabW page_Parse.tab13 page_Parse.bits13 (fun HT_ HW_ => ?_)
        generalize w53.drew = w54 at BK178 BK185 HI0 HK HB hHeld ⊢
        refine pure_ (i := 0) (N := some 50) (v := ?_) (a' := ?_) #[true, false, false, false, false, false, false, false, false, false, false, false, false, false, false] rfl rfl (any_of HT_.out (by kernel_rfl)) (fun _ _ _ h => h) (Or.inl ⟨by rfl, ?_⟩) ?_ ?_
        rotate_left
        · intro w'
          go_simp
          with_reducible rfl
        rotate_left
        · simp only [Act.put, List.setIfInBounds_toArray, List.set_cons_zero, List.set_cons_succ, i64_w, i32_w]
          rfl
        refine one_ (i := 1) (N := some 51) #[true, true, false, false, false, false, false, false, false, false, false, false, false, false, false] rfl rfl (one_of HT_.out (by kernel_rfl)) (by decide) (fun K hK => ?_)
        refine goes_ Try.func47 (by kernel_rfl) rfl #[.pointer (some ⟨g, 0, none⟩)] (by rfl) rfl rfl (by (try simp only [List.map_toArray, List.map_cons, List.map_nil]); first | done | rfl | (simp only [List.length_drop, List.length_take]; rfl)) ?_
        with_reducible refine (octet_In_Fault.calls g t248 t249 t250 t251 t252 t253 t254 t255 t256 t257 t258 t259 w0 _ ?side1 ?side2 A42.out).mono ?_
        (case side1 => repeat (first | (with_reducible first | exact HI0.out | apply IsS81.alloc | apply IsS81.drewN | apply IsS81.drew | apply IsS81.set_0 | apply IsS81.set_1 | apply IsS81.set_2 | apply IsS81.set_3 | apply IsS81.set_4 | refine IsS81.far ?_ NB0_178.out _ | apply IsS81.far (hne := NB0_178.out) | refine IsS81.far ?_ NB0_185.out _ | apply IsS81.far (hne := NB0_185.out)) | exact HI0.out))
        (case side2 => repeat (first | (with_reducible first | exact HB.out | apply below_alloc | apply pw_below_drewN | apply below_drew1 | refine below_set ?_ (IsS81.ge HI0.out) | refine below_set ?_ GE178.out | refine below_set ?_ GE185.out) | exact HB.out))
        rintro e w55 ⟨rfl, hi, hb, hk⟩
        refine ⟨_, rfl, ?_⟩
        have n0_ := Aside0.mk (KeepBut.blk hk (g' := gb178) (o := .cells #[.int .u8 0, .int .u64 0, .int .u32 0, .int .u32 0, .string (⟨#[]⟩ : ByteArray), .string (⟨#[]⟩ : ByteArray)] 27 (0, 0)) (by (with_reducible repeat (first | refine blk_drewN ?_ _ | refine blk_drew ?_ | refine blk_alloc ?_ _)); exact BK178.out) NB178_0.out (by simp))
        have n1_ := Aside0.mk (KeepBut.blk hk (g' := gb185) (o := .cells #[.int .u8 ((t198) % 256), .int .u64 t204, .int .u32 ((t210) % 4294967296), .int .u32 ((t216) % 4294967296), .string t240, .string t247] 27 (0, 0)) (by (with_reducible repeat (first | refine blk_drewN ?_ _ | refine blk_drew ?_ | refine blk_alloc ?_ _)); exact BK185.out) NB185_0.out (by simp))
        have n2_ := Aside0.mk (KeepBut.trans (by repeat (first | (with_reducible first | exact HK.out | apply KeepBut.set_ | apply keep_drewN | apply keep_drew | apply keep_alloc | refine keep_far ?_ GW178.out _ | refine keep_far ?_ GW185.out _) | exact HK.out)) hk (.inl rfl))
        have n3_ := Aside0.mk (hb)
        have n4_ := Aside0.mk (hi)
        clear BK178
        clear BK185
        clear HK
        clear HB
        clear HI0
        have BK178 := n0_
        have BK185 := n1_
        have HK := n2_
        have HB := n3_
        have HI0 := n4_
        clear n0_ n1_ n2_ n3_ n4_
        (try clear hb)
        (try clear hb2)
        (try clear hk)
        (try clear hi)
        refine hK.out _ _ ⟨(blk_cell BK185.out 0).trans rfl, (blk_cell BK185.out 1).trans rfl, (blk_cell BK185.out 2).trans rfl, (blk_cell BK185.out 3).trans rfl, (blk_cell BK185.out 4).trans rfl, (blk_cell BK185.out 5).trans rfl⟩ (fun hHeld => ?_)
        clear hK K
        refine norm_ (a' := ?_) ?_ ?_
        rotate_left
        · show Act.put _ (some 51) _ = _
          simp only [Act.put, List.setIfInBounds_toArray, List.set_cons_zero, List.set_cons_succ, i64_w, i32_w]
          rfl
        refine one_ (i := 2) (N := some 52) #[true, true, true, false, false, false, false, false, false, false, false, false, false, false, false] rfl rfl (one_of HT_.out (by kernel_rfl)) (by decide) (fun K hK => ?_)
        refine goes_ Try.func12 (by kernel_rfl) rfl #[.agg #[.int .i64 t253, .int .i64 t254]] (by rfl) rfl rfl (by (try simp only [List.map_toArray, List.map_cons, List.map_nil]); first | done | rfl | (simp only [List.length_drop, List.length_take]; rfl)) ?_
        with_reducible refine (api_Fault_Bad.calls t253 t254 false _ A43.out).mono ?_
        rintro e w56 ⟨rfl, hb⟩
        refine ⟨_, rfl, ?_⟩
        have n0_ := Aside0.mk (IsS81.below (by repeat (first | (with_reducible first | exact HI0.out | apply IsS81.alloc | apply IsS81.drewN | apply IsS81.drew | apply IsS81.set_0 | apply IsS81.set_1 | apply IsS81.set_2 | apply IsS81.set_3 | apply IsS81.set_4 | refine IsS81.far ?_ NB0_178.out _ | apply IsS81.far (hne := NB0_178.out) | refine IsS81.far ?_ NB0_185.out _ | apply IsS81.far (hne := NB0_185.out)) | exact HI0.out)) hb)
        have n1_ := Aside0.mk (blk_below (g := gb178) (o := .cells #[.int .u8 0, .int .u64 0, .int .u32 0, .int .u32 0, .string (⟨#[]⟩ : ByteArray), .string (⟨#[]⟩ : ByteArray)] 27 (0, 0)) (by (with_reducible repeat (first | refine blk_drewN ?_ _ | refine blk_drew ?_ | refine blk_alloc ?_ _)); exact BK178.out) hb)
        have n2_ := Aside0.mk (blk_below (g := gb185) (o := .cells #[.int .u8 ((t198) % 256), .int .u64 t204, .int .u32 ((t210) % 4294967296), .int .u32 ((t216) % 4294967296), .string t240, .string t247] 27 (0, 0)) (by (with_reducible repeat (first | refine blk_drewN ?_ _ | refine blk_drew ?_ | refine blk_alloc ?_ _)); exact BK185.out) hb)
        have n3_ := Aside0.mk (KeepBut.trans (by repeat (first | (with_reducible first | exact HK.out | apply KeepBut.set_ | apply keep_drewN | apply keep_drew | apply keep_alloc | refine keep_far ?_ GW178.out _ | refine keep_far ?_ GW185.out _) | exact HK.out)) (KeepBut.of_below hb g none) (.inl rfl))
        have n4_ := Aside0.mk (below_step (by repeat (first | (with_reducible first | exact HB.out | apply below_alloc | apply pw_below_drewN | apply below_drew1 | refine below_set ?_ (IsS81.ge HI0.out) | refine below_set ?_ GE178.out | refine below_set ?_ GE185.out) | exact HB.out)) hb)
        clear HI0
        clear BK178
        clear BK185
        clear HK
        clear HB
        have HI0 := n0_
        have BK178 := n1_
        have BK185 := n2_
        have HK := n3_
        have HB := n4_
        clear n0_ n1_ n2_ n3_ n4_
        (try clear hb)
        (try clear hb2)
        (try clear hk)
        (try clear hi)
        refine hK.out _ _ ⟨(blk_cell BK185.out 0).trans rfl, (blk_cell BK185.out 1).trans rfl, (blk_cell BK185.out 2).trans rfl, (blk_cell BK185.out 3).trans rfl, (blk_cell BK185.out 4).trans rfl, (blk_cell BK185.out 5).trans rfl⟩ (fun hHeld => ?_)
        clear hK K
        refine norm_ (a' := ?_) ?_ ?_
        rotate_left
        · show Act.put _ (some 52) _ = _
          simp only [Act.put, List.setIfInBounds_toArray, List.set_cons_zero, List.set_cons_succ, i64_w, i32_w]
          rfl
        refine pure_ (i := 3) (N := some 53) (v := ?_) (a' := ?_) #[true, true, true, true, false, false, false, false, false, false, false, false, false, false, false] rfl rfl (any_of HT_.out (by kernel_rfl)) (fun _ _ _ h => h) (Or.inl ⟨by rfl, ?_⟩) ?_ ?_
        rotate_left
        · intro w'
          go_simp
          with_reducible rfl
        rotate_left
        · simp only [Act.put, List.setIfInBounds_toArray, List.set_cons_zero, List.set_cons_succ, i64_w, i32_w]
          rfl
        refine pure_ (i := 4) (N := some 54) (v := ?_) (a' := ?_) #[true, true, true, true, true, false, false, false, false, false, false, false, false, false, false] rfl rfl (any_of HT_.out (by kernel_rfl)) (fun _ _ _ h => h) (Or.inl ⟨by rfl, ?_⟩) ?_ ?_
        rotate_left
        · intro w'
          go_simp
          with_reducible rfl
        rotate_left
        · simp only [Act.put, List.setIfInBounds_toArray, List.set_cons_zero, List.set_cons_succ, i64_w, i32_w]
          rfl
        refine pure_ (i := 12) (N := some 62) (v := ?_) (a' := ?_) #[true, true, true, true, true, false, false, false, false, false, false, false, true, false, false] rfl rfl (any_of HT_.out (by kernel_rfl)) (fun _ _ _ h => h) (Or.inl ⟨by rfl, ?_⟩) ?_ ?_
        rotate_left
        · intro w'
          go_simp
          with_reducible rfl
        rotate_left
        · simp only [Act.put, List.setIfInBounds_toArray, List.set_cons_zero, List.set_cons_succ, i64_w, i32_w]
          rfl
        refine take_ (i := 5) (N := some 55) (v := ?_) (a' := ?_) #[true, true, true, true, true, true, false, false, false, false, false, false, true, false, false] rfl rfl (take_ofW HT_.out HW_.out (by kernel_rfl)) (fun _ _ _ h => h) (Or.inl ⟨by rfl, ?_⟩) hHeld ?_ ?_
        rotate_left
        · rintro w' ⟨s0, s1, s2, s3, s4, s5⟩
          go_simp
          with_reducible rfl
        rotate_left
        · simp only [Act.put, List.setIfInBounds_toArray, List.set_cons_zero, List.set_cons_succ, i64_w, i32_w]
          rfl
        refine take_ (i := 7) (N := some 57) (v := ?_) (a' := ?_) #[true, true, true, true, true, true, false, true, false, false, false, false, true, false, false] rfl rfl (take_ofW HT_.out HW_.out (by kernel_rfl)) (fun _ _ _ h => h) (Or.inl ⟨by rfl, ?_⟩) hHeld ?_ ?_
        rotate_left
        · rintro w' ⟨s0, s1, s2, s3, s4, s5⟩
          go_simp
          with_reducible rfl
        rotate_left
        · simp only [Act.put, List.setIfInBounds_toArray, List.set_cons_zero, List.set_cons_succ, i64_w, i32_w]
          rfl
        refine one_ (i := 6) (N := some 56) #[true, true, true, true, true, true, true, true, false, false, false, false, true, false, false] rfl rfl (one_of HT_.out (by kernel_rfl)) (by decide) (fun K hK => ?_)
        refine goes_ Try.func36 (by kernel_rfl) rfl #[.agg #[.int .u8 ((t198) % 256), .int .u64 t204, .int .u32 ((t210) % 4294967296), .int .u32 ((t216) % 4294967296), .string t240, .string t247]] (by rfl) rfl rfl (by (try simp only [List.map_toArray, List.map_cons, List.map_nil]); first | done | rfl | (simp only [List.length_drop, List.length_take]; rfl)) ?_
        with_reducible refine (page_Page_front.calls k ((t198) % 256) t204 ((t210) % 4294967296) ((t216) % 4294967296) t240 t247 t261 _ A49.out).mono ?_
        rintro e w57 ⟨rfl, hb⟩
        refine ⟨_, rfl, ?_⟩
        have n0_ := Aside0.mk (IsS81.below (by repeat (first | (with_reducible first | exact HI0.out | apply IsS81.alloc | apply IsS81.drewN | apply IsS81.drew | apply IsS81.set_0 | apply IsS81.set_1 | apply IsS81.set_2 | apply IsS81.set_3 | apply IsS81.set_4 | refine IsS81.far ?_ NB0_178.out _ | apply IsS81.far (hne := NB0_178.out) | refine IsS81.far ?_ NB0_185.out _ | apply IsS81.far (hne := NB0_185.out)) | exact HI0.out)) hb)
        have n1_ := Aside0.mk (blk_below (g := gb178) (o := .cells #[.int .u8 0, .int .u64 0, .int .u32 0, .int .u32 0, .string (⟨#[]⟩ : ByteArray), .string (⟨#[]⟩ : ByteArray)] 27 (0, 0)) (by (with_reducible repeat (first | refine blk_drewN ?_ _ | refine blk_drew ?_ | refine blk_alloc ?_ _)); exact BK178.out) hb)
        have n2_ := Aside0.mk (blk_below (g := gb185) (o := .cells #[.int .u8 ((t198) % 256), .int .u64 t204, .int .u32 ((t210) % 4294967296), .int .u32 ((t216) % 4294967296), .string t240, .string t247] 27 (0, 0)) (by (with_reducible repeat (first | refine blk_drewN ?_ _ | refine blk_drew ?_ | refine blk_alloc ?_ _)); exact BK185.out) hb)
        have n3_ := Aside0.mk (KeepBut.trans (by repeat (first | (with_reducible first | exact HK.out | apply KeepBut.set_ | apply keep_drewN | apply keep_drew | apply keep_alloc | refine keep_far ?_ GW178.out _ | refine keep_far ?_ GW185.out _) | exact HK.out)) (KeepBut.of_below hb g none) (.inl rfl))
        have n4_ := Aside0.mk (below_step (by repeat (first | (with_reducible first | exact HB.out | apply below_alloc | apply pw_below_drewN | apply below_drew1 | refine below_set ?_ (IsS81.ge HI0.out) | refine below_set ?_ GE178.out | refine below_set ?_ GE185.out) | exact HB.out)) hb)
        clear HI0
        clear BK178
        clear BK185
        clear HK
        clear HB
        have HI0 := n0_
        have BK178 := n1_
        have BK185 := n2_
        have HK := n3_
        have HB := n4_
        clear n0_ n1_ n2_ n3_ n4_
        (try clear hb)
        (try clear hb2)
        (try clear hk)
        (try clear hi)
        refine hK.out _ _ ⟨(blk_cell BK185.out 0).trans rfl, (blk_cell BK185.out 1).trans rfl, (blk_cell BK185.out 2).trans rfl, (blk_cell BK185.out 3).trans rfl, (blk_cell BK185.out 4).trans rfl, (blk_cell BK185.out 5).trans rfl⟩ (fun hHeld => ?_)
        clear hK K
        refine norm_ (a' := ?_) ?_ ?_
        rotate_left
        · show Act.put _ (some 56) _ = _
          simp only [Act.put, List.setIfInBounds_toArray, List.set_cons_zero, List.set_cons_succ, i64_w, i32_w]
          rfl
        refine one_ (i := 8) (N := some 58) #[true, true, true, true, true, true, true, true, true, false, false, false, true, false, false] rfl rfl (one_of HT_.out (by kernel_rfl)) (by decide) (fun K hK => ?_)
        refine goes_ Try.func37 (by kernel_rfl) rfl #[.agg #[.int .u8 ((t198) % 256), .int .u64 t204, .int .u32 ((t210) % 4294967296), .int .u32 ((t216) % 4294967296), .string t240, .string t247]] (by rfl) rfl rfl (by (try simp only [List.map_toArray, List.map_cons, List.map_nil]); first | done | rfl | (simp only [List.length_drop, List.length_take]; rfl)) ?_
        with_reducible refine (page_Page_back.calls k ((t198) % 256) t204 ((t210) % 4294967296) ((t216) % 4294967296) t240 t247 t262 _ A50.out).mono ?_
        rintro e w58 ⟨rfl, hb⟩
        refine ⟨_, rfl, ?_⟩
        have n0_ := Aside0.mk (IsS81.below (by repeat (first | (with_reducible first | exact HI0.out | apply IsS81.alloc | apply IsS81.drewN | apply IsS81.drew | apply IsS81.set_0 | apply IsS81.set_1 | apply IsS81.set_2 | apply IsS81.set_3 | apply IsS81.set_4 | refine IsS81.far ?_ NB0_178.out _ | apply IsS81.far (hne := NB0_178.out) | refine IsS81.far ?_ NB0_185.out _ | apply IsS81.far (hne := NB0_185.out)) | exact HI0.out)) hb)
        have n1_ := Aside0.mk (blk_below (g := gb178) (o := .cells #[.int .u8 0, .int .u64 0, .int .u32 0, .int .u32 0, .string (⟨#[]⟩ : ByteArray), .string (⟨#[]⟩ : ByteArray)] 27 (0, 0)) (by (with_reducible repeat (first | refine blk_drewN ?_ _ | refine blk_drew ?_ | refine blk_alloc ?_ _)); exact BK178.out) hb)
        have n2_ := Aside0.mk (blk_below (g := gb185) (o := .cells #[.int .u8 ((t198) % 256), .int .u64 t204, .int .u32 ((t210) % 4294967296), .int .u32 ((t216) % 4294967296), .string t240, .string t247] 27 (0, 0)) (by (with_reducible repeat (first | refine blk_drewN ?_ _ | refine blk_drew ?_ | refine blk_alloc ?_ _)); exact BK185.out) hb)
        have n3_ := Aside0.mk (KeepBut.trans (by repeat (first | (with_reducible first | exact HK.out | apply KeepBut.set_ | apply keep_drewN | apply keep_drew | apply keep_alloc | refine keep_far ?_ GW178.out _ | refine keep_far ?_ GW185.out _) | exact HK.out)) (KeepBut.of_below hb g none) (.inl rfl))
        have n4_ := Aside0.mk (below_step (by repeat (first | (with_reducible first | exact HB.out | apply below_alloc | apply pw_below_drewN | apply below_drew1 | refine below_set ?_ (IsS81.ge HI0.out) | refine below_set ?_ GE178.out | refine below_set ?_ GE185.out) | exact HB.out)) hb)
        clear HI0
        clear BK178
        clear BK185
        clear HK
        clear HB
        have HI0 := n0_
        have BK178 := n1_
        have BK185 := n2_
        have HK := n3_
        have HB := n4_
        clear n0_ n1_ n2_ n3_ n4_
        (try clear hb)
        (try clear hb2)
        (try clear hk)
        (try clear hi)
        refine hK.out _ _ ⟨(blk_cell BK185.out 0).trans rfl, (blk_cell BK185.out 1).trans rfl, (blk_cell BK185.out 2).trans rfl, (blk_cell BK185.out 3).trans rfl, (blk_cell BK185.out 4).trans rfl, (blk_cell BK185.out 5).trans rfl⟩ (fun hHeld => ?_)
        clear hK K
        refine norm_ (a' := ?_) ?_ ?_
        rotate_left
        · show Act.put _ (some 58) _ = _
          simp only [Act.put, List.setIfInBounds_toArray, List.set_cons_zero, List.set_cons_succ, i64_w, i32_w]
          rfl
        refine one_ (i := 9) (N := some 59) #[true, true, true, true, true, true, true, true, true, true, false, false, true, false, false] rfl rfl (one_of HT_.out (by kernel_rfl)) (by decide) (fun K hK => ?_)
        refine Kd.R_lit_step Kd.string _ 9 ?hg (N := 59) ?hd (xs := ([t261, (⟨#[0, 0, 0, 0]⟩ : ByteArray), t262] : List ByteArray)) (inner := [.string t261, .string (⟨#[0, 0, 0, 0]⟩ : ByteArray), .string t262]) (ok := fun _ => True) (okp := fun _ => True) ?hr ?hp (fun _ hk => hk) trivial (Below.refl _ _) (Nat.le_refl _) (by simp) ?_; (case hd => rfl); (case hg => rfl); (case hr => first | (go_simp; done) | (go_simp; rfl)); (case hp => exact (Reps.one (show Kd.M Kd.string _ _ _ t261 [.string t261] from rfl) (Reps.one (show Kd.M Kd.string _ _ _ (⟨#[0, 0, 0, 0]⟩ : ByteArray) [.string (⟨#[0, 0, 0, 0]⟩ : ByteArray)] from rfl) (Reps.one (show Kd.M Kd.string _ _ _ t262 [.string t262] from rfl) (Reps.none _ _)))))
        intro v264 w59 ho60 hb hg_ hnew_
        clear hg_ hnew_
        (first | rw [← Ny263.out] at ho60 | (simp only [Int.reduceToNat] at ho60; rw [← Ny263.out] at ho60))
        have n0_ := Aside0.mk (Kd.R_lower ho60 (keep_size (w := w) (g := g) (row := none) (by repeat (first | (with_reducible first | exact HK.out | apply KeepBut.set_ | apply keep_drewN | apply keep_drew | apply keep_alloc | refine keep_far ?_ GW178.out _ | refine keep_far ?_ GW185.out _) | exact HK.out))))
        have n1_ := Aside0.mk (IsS81.below (by repeat (first | (with_reducible first | exact HI0.out | apply IsS81.alloc | apply IsS81.drewN | apply IsS81.drew | apply IsS81.set_0 | apply IsS81.set_1 | apply IsS81.set_2 | apply IsS81.set_3 | apply IsS81.set_4 | refine IsS81.far ?_ NB0_178.out _ | apply IsS81.far (hne := NB0_178.out) | refine IsS81.far ?_ NB0_185.out _ | apply IsS81.far (hne := NB0_185.out)) | exact HI0.out)) hb)
        have n2_ := Aside0.mk (blk_below (g := gb178) (o := .cells #[.int .u8 0, .int .u64 0, .int .u32 0, .int .u32 0, .string (⟨#[]⟩ : ByteArray), .string (⟨#[]⟩ : ByteArray)] 27 (0, 0)) (by (with_reducible repeat (first | refine blk_drewN ?_ _ | refine blk_drew ?_ | refine blk_alloc ?_ _)); exact BK178.out) hb)
        have n3_ := Aside0.mk (blk_below (g := gb185) (o := .cells #[.int .u8 ((t198) % 256), .int .u64 t204, .int .u32 ((t210) % 4294967296), .int .u32 ((t216) % 4294967296), .string t240, .string t247] 27 (0, 0)) (by (with_reducible repeat (first | refine blk_drewN ?_ _ | refine blk_drew ?_ | refine blk_alloc ?_ _)); exact BK185.out) hb)
        have n4_ := Aside0.mk (KeepBut.trans (by repeat (first | (with_reducible first | exact HK.out | apply KeepBut.set_ | apply keep_drewN | apply keep_drew | apply keep_alloc | refine keep_far ?_ GW178.out _ | refine keep_far ?_ GW185.out _) | exact HK.out)) (KeepBut.of_below hb g none) (.inl rfl))
        have n5_ := Aside0.mk (below_step (by repeat (first | (with_reducible first | exact HB.out | apply below_alloc | apply pw_below_drewN | apply below_drew1 | refine below_set ?_ (IsS81.ge HI0.out) | refine below_set ?_ GE178.out | refine below_set ?_ GE185.out) | exact HB.out)) hb)
        clear HI0
        clear BK178
        clear BK185
        clear HK
        clear HB
        have HO265 := n0_
        have HI0 := n1_
        have BK178 := n2_
        have BK185 := n3_
        have HK := n4_
        have HB := n5_
        clear n0_ n1_ n2_ n3_ n4_ n5_
        clear hb ho60
        obtain ⟨Ao61, co61, eo61⟩ := Kd.R_slice HO265.out
        (first | subst eo61 | (injection eo61 with f1_ f2_ f3_; have f4_ := f1_.symm; have f5_ := f3_.symm; clear f1_ f2_ f3_; subst f4_; subst f5_))
        refine hK.out _ _ ⟨(blk_cell BK185.out 0).trans rfl, (blk_cell BK185.out 1).trans rfl, (blk_cell BK185.out 2).trans rfl, (blk_cell BK185.out 3).trans rfl, (blk_cell BK185.out 4).trans rfl, (blk_cell BK185.out 5).trans rfl⟩ (fun hHeld => ?_)
        clear hK K
        refine norm_ (a' := ?_) ?_ ?_
        rotate_left
        · show Act.put _ (some 59) _ = _
          simp only [Act.put, List.setIfInBounds_toArray, List.set_cons_zero, List.set_cons_succ, i64_w, i32_w]
          rfl
        refine one_ (i := 10) (N := some 60) #[true, true, true, true, true, true, true, true, true, true, true, false, true, false, false] rfl rfl (one_of HT_.out (by kernel_rfl)) (by decide) (fun K hK => ?_)
        refine goes_ Try.func35 (by kernel_rfl) rfl #[.slice Ao61 y263.length co61] (by rfl) rfl rfl (by (try simp only [List.map_toArray, List.map_cons, List.map_nil]); first | done | rfl | (simp only [List.length_drop, List.length_take]; rfl)) ?_
        with_reducible refine (sum_Of.calls k _ _ y263 t266 _ ?side1 ?side2 A51.out).mono ?_
        (case side1 => repeat (first | exact (Kd.R_reads' HO265.out).2.2 | (with_reducible refine Kd.C_alloc ?_ _) | (with_reducible refine Kd.C_drewN ?_ _) | (with_reducible refine Kd.C_drew ?_)))
        (case side2 => exact (Kd.R_reads' HO265.out).2.1)
        rintro e w' ⟨rfl, ⟨nd, rfl⟩⟩
        refine ⟨_, rfl, ?_⟩
        refine hK.out _ _ ⟨(blk_cell BK185.out 0).trans rfl, (blk_cell BK185.out 1).trans rfl, (blk_cell BK185.out 2).trans rfl, (blk_cell BK185.out 3).trans rfl, (blk_cell BK185.out 4).trans rfl, (blk_cell BK185.out 5).trans rfl⟩ (fun hHeld => ?_)
        clear hK K
        refine norm_ (a' := ?_) ?_ ?_
        rotate_left
        · show Act.put _ (some 60) _ = _
          simp only [Act.put, List.setIfInBounds_toArray, List.set_cons_zero, List.set_cons_succ, i64_w, i32_w]
          rfl
        refine one_ (i := 11) (N := some 61) #[true, true, true, true, true, true, true, true, true, true, true, true, true, false, false] rfl rfl (one_of HT_.out (by kernel_rfl)) (by decide) (fun K hK => ?_)
        refine goes_ Try.func39 (by kernel_rfl) rfl #[.int .u32 t266] (by rfl) rfl rfl (by (try simp only [List.map_toArray, List.map_cons, List.map_nil]); first | done | rfl | (simp only [List.length_drop, List.length_take]; rfl)) ?_
        with_reducible refine (sum_Sum_Bytes.calls k t266 t267 _ A52.out).mono ?_
        rintro e w62 ⟨rfl, hb⟩
        refine ⟨_, rfl, ?_⟩
        have n0_ := Aside0.mk (Kd.R_below (by (with_reducible repeat (first | apply Kd.R_alloc | apply Kd.R_drewN | apply Kd.R_drew)); exact HO265.out) hb)
        have n1_ := Aside0.mk (IsS81.below (by repeat (first | (with_reducible first | exact HI0.out | apply IsS81.alloc | apply IsS81.drewN | apply IsS81.drew | apply IsS81.set_0 | apply IsS81.set_1 | apply IsS81.set_2 | apply IsS81.set_3 | apply IsS81.set_4 | refine IsS81.far ?_ NB0_178.out _ | apply IsS81.far (hne := NB0_178.out) | refine IsS81.far ?_ NB0_185.out _ | apply IsS81.far (hne := NB0_185.out)) | exact HI0.out)) hb)
        have n2_ := Aside0.mk (blk_below (g := gb178) (o := .cells #[.int .u8 0, .int .u64 0, .int .u32 0, .int .u32 0, .string (⟨#[]⟩ : ByteArray), .string (⟨#[]⟩ : ByteArray)] 27 (0, 0)) (by (with_reducible repeat (first | refine blk_drewN ?_ _ | refine blk_drew ?_ | refine blk_alloc ?_ _)); exact BK178.out) hb)
        have n3_ := Aside0.mk (blk_below (g := gb185) (o := .cells #[.int .u8 ((t198) % 256), .int .u64 t204, .int .u32 ((t210) % 4294967296), .int .u32 ((t216) % 4294967296), .string t240, .string t247] 27 (0, 0)) (by (with_reducible repeat (first | refine blk_drewN ?_ _ | refine blk_drew ?_ | refine blk_alloc ?_ _)); exact BK185.out) hb)
        have n4_ := Aside0.mk (KeepBut.trans (by repeat (first | (with_reducible first | exact HK.out | apply KeepBut.set_ | apply keep_drewN | apply keep_drew | apply keep_alloc | refine keep_far ?_ GW178.out _ | refine keep_far ?_ GW185.out _) | exact HK.out)) (KeepBut.of_below hb g none) (.inl rfl))
        have n5_ := Aside0.mk (below_step (by repeat (first | (with_reducible first | exact HB.out | apply below_alloc | apply pw_below_drewN | apply below_drew1 | refine below_set ?_ (IsS81.ge HI0.out) | refine below_set ?_ GE178.out | refine below_set ?_ GE185.out) | exact HB.out)) hb)
        clear HO265
        clear HI0
        clear BK178
        clear BK185
        clear HK
        clear HB
        have HO265 := n0_
        have HI0 := n1_
        have BK178 := n2_
        have BK185 := n3_
        have HK := n4_
        have HB := n5_
        clear n0_ n1_ n2_ n3_ n4_ n5_
        (try clear hb)
        (try clear hb2)
        (try clear hk)
        (try clear hi)
        refine hK.out _ _ ⟨(blk_cell BK185.out 0).trans rfl, (blk_cell BK185.out 1).trans rfl, (blk_cell BK185.out 2).trans rfl, (blk_cell BK185.out 3).trans rfl, (blk_cell BK185.out 4).trans rfl, (blk_cell BK185.out 5).trans rfl⟩ (fun hHeld => ?_)
        clear hK K
        refine norm_ (a' := ?_) ?_ ?_
        rotate_left
        · show Act.put _ (some 61) _ = _
          simp only [Act.put, List.setIfInBounds_toArray, List.set_cons_zero, List.set_cons_succ, i64_w, i32_w]
          rfl
        refine pure_ (i := 13) (N := some 63) (v := ?_) (a' := ?_) #[true, true, true, true, true, true, true, true, true, true, true, true, true, true, false] rfl rfl (any_of HT_.out (by kernel_rfl)) (fun _ _ _ h => h) (Or.inl ⟨by rfl, ?_⟩) ?_ ?_
        rotate_left
        · intro w'
          go_simp
          with_reducible rfl
        rotate_left
        · simp only [Act.put, List.setIfInBounds_toArray, List.set_cons_zero, List.set_cons_succ, i64_w, i32_w]
          rfl
        refine pure_ (i := 14) (N := some 64) (v := ?_) (a' := ?_) #[true, true, true, true, true, true, true, true, true, true, true, true, true, true, true] rfl rfl (any_of HT_.out (by kernel_rfl)) (fun _ _ _ h => h) (Or.inl ⟨by rfl, ?_⟩) ?_ ?_
        rotate_left
        · intro w'
          go_simp
          with_reducible rfl
        rotate_left
        · simp only [Act.put, List.setIfInBounds_toArray, List.set_cons_zero, List.set_cons_succ, i64_w, i32_w]
          rfl
        refine done_ (done_of HT_.out (by kernel_rfl)) ?_
        try go_wp2
        go_meet
        case rel => exact ⟨_, ((t267.toList != t228.toList)), (t255), (t256), (t257), (t258), (t259), (by first | rfl | (simp; done) | (simp [*]; done) | (simp [beq_nil_isEmpty, bne_nil_isEmpty]; done)), H', ⟨by first | omega | exact Nat.le_refl _⟩, ⟨by (with_reducible repeat (first | refine blk_drewN ?_ _ | refine blk_drew ?_ | refine blk_alloc ?_ _)); exact BK178.out⟩, ⟨by (with_reducible repeat (first | refine blk_drewN ?_ _ | refine blk_drew ?_ | refine blk_alloc ?_ _)); exact BK185.out⟩, ⟨by repeat (first | (with_reducible first | exact HI0.out | apply IsS81.alloc | apply IsS81.drewN | apply IsS81.drew | apply IsS81.set_0 | apply IsS81.set_1 | apply IsS81.set_2 | apply IsS81.set_3 | apply IsS81.set_4 | refine IsS81.far ?_ NB0_178.out _ | apply IsS81.far (hne := NB0_178.out) | refine IsS81.far ?_ NB0_185.out _ | apply IsS81.far (hne := NB0_185.out)) | exact HI0.out)⟩, ⟨by repeat (first | (with_reducible first | exact HK.out | apply KeepBut.set_ | apply keep_drewN | apply keep_drew | apply keep_alloc | refine keep_far ?_ GW178.out _ | refine keep_far ?_ GW185.out _) | exact HK.out)⟩, ⟨by repeat (first | (with_reducible first | exact HB.out | apply below_alloc | apply pw_below_drewN | apply below_drew1 | refine below_set ?_ (IsS81.ge HI0.out) | refine below_set ?_ GE178.out | refine below_set ?_ GE185.out) | exact HB.out)⟩⟩
    case rest =>
      clear HC20
      try clear c1
      try clear c2
      try clear p2
      try clear c3
      try clear c4
      try clear p6
      try clear c12
      try clear c13
      try clear c27
      try clear c28
      try clear c35
      try clear c36
      try clear c37
      try clear c39
      try clear c40
      try clear c41
      try clear c42
      try clear c43
      try clear c44
      try clear c45
      try clear c46
      try clear c47
      try clear hcz29_0
      try clear hcz29_1
      try clear hcz29_2
      try clear hcz29_3
      try clear hcz29_4
      try clear hcz29_5
      try clear hcz31_0
      try clear hcz31_1
      try clear hcz31_2
      try clear hcz31_3
      try clear hcz31_4
      try clear hcz31_5
      try clear hcz34_0
      try clear hcz34_1
      try clear hcz34_2
      try clear hcz34_3
      try clear hcz34_4
      try clear hcz34_5
      try clear hcz39_0
      try clear hcz39_1
      try clear hcz39_2
      try clear hcz39_3
      try clear hcz39_4
      try clear hcz39_5
      try clear hcz41_0
      try clear hcz41_1
      try clear hcz41_2
      try clear hcz41_3
      try clear hcz41_4
      try clear hcz41_5
      try clear hfz29_0
      try clear hfz29_1
      try clear hfz29_2
      try clear hfz29_3
      try clear hfz29_4
      try clear hfz29_5
      try clear hfz31_0
      try clear hfz31_1
      try clear hfz31_2
      try clear hfz31_3
      try clear hfz31_4
      try clear hfz31_5
      try clear hfz34_0
      try clear hfz34_1
      try clear hfz34_2
      try clear hfz34_3
      try clear hfz34_4
      try clear hfz34_5
      try clear hfz39_0
      try clear hfz39_1
      try clear hfz39_2
      try clear hfz39_3
      try clear hfz39_4
      try clear hfz39_5
      try clear hfz41_0
      try clear hfz41_1
      try clear hfz41_2
      try clear hfz41_3
      try clear hfz41_4
      try clear hfz41_5
      obtain ⟨kq, x64_19, x1000_19, x1001_19, x1002_19, x1003_19, x1004_19, rfl, HA, HJ19, BK178, BK185, HI0, HK, HB⟩ := hcut
      cases kq with
      | zero => exact absurd HA.out (by simp [page_Parse.j0])
      | succ kj19 =>
        have H := HA.out
        clear HA
        simp only [page_Parse.j0] at H
        have HC63 := Aside0.mk H
        clear H
        go_upto_if 64 with (fail)
        go_cut [] (fun wc => ∃ (kq : Nat) (x1000_62 : ByteArray) (x1001_62 : Int) (x1002_62 : Int) (x1003_62 : Int) (x1004_62 : Int), Aside0 (page_Parse.j1 kq x1000_62 x1001_62 x1002_62 x1003_62 x1004_62 ((t198) % 256) t204 ((t210) % 4294967296) ((t216) % 4294967296) t240 t247 = some (r1, r2, r3, r4, r5, r6, r7, r8, r9, r10, r11, r12)) ∧ Aside0 (kq ≤ kj19) ∧ Aside0 (wc.heap[gb178]? = some (.cells #[.int .u8 0, .int .u64 0, .int .u32 0, .int .u32 0, .string (⟨#[]⟩ : ByteArray), .string (⟨#[]⟩ : ByteArray)] 27 (0, 0))) ∧ Aside0 (wc.heap[gb185]? = some (.cells #[.int .u8 ((t198) % 256), .int .u64 t204, .int .u32 ((t210) % 4294967296), .int .u32 ((t216) % 4294967296), .string t240, .string t247] 27 (0, 0))) ∧ Aside0 (IsS81 w0 wc g x1000_62 x1001_62 x1002_62 x1003_62 x1004_62) ∧ Aside0 (KeepBut w wc g none) ∧ Aside0 (Below w0.heap.size w0 wc))
        case first =>
          have H := HC63.out
          clear HC63
          by_cases c64 : x64_19 = true
          · subst c64
            have H1 : ((octet_In_Fail.f x1000_19 x1001_19 x1002_19 x1003_19 x1004_19 1 t222).bind fun bt268 => (page_Parse.j1 kj19 bt268.1 bt268.2.1 bt268.2.2.1 bt268.2.2.2.1 bt268.2.2.2.2 ((t198) % 256) t204 ((t210) % 4294967296) ((t216) % 4294967296) t240 t247)) = some (r1, r2, r3, r4, r5, r6, r7, r8, r9, r10, r11, r12) := by rw [if_pos rfl] at H; exact H
            clear H
            have H := H1
            clear H1
            replace H := Option.bind_eq_some_iff.mp H
            obtain ⟨⟨t268, t269, t270, t271, t272⟩, A650, H⟩ := H
            replace H : (page_Parse.j1 kj19 t268 t269 t270 t271 t272 ((t198) % 256) t204 ((t210) % 4294967296) ((t216) % 4294967296) t240 t247) = some (r1, r2, r3, r4, r5, r6, r7, r8, r9, r10, r11, r12) := H
            have A65 := Aside0.mk A650
            clear A650
            have H' := Aside0.mk H
            clear H
            go_wp2_with (first | ((with_reducible refine gate_callee (f := 48) rfl ?_); refine goesL_ (some 67) rfl rfl Try.func48 (by kernel_rfl) rfl #[.pointer (some ⟨g, 0, none⟩), .int .i64 1, .int .i64 t222] rfl (by (try simp only [List.map_toArray, List.map_cons, List.map_nil]); first | done | rfl | (simp only [List.length_drop, List.length_take]; rfl)) ?_; (with_reducible refine (octet_In_Fail.calls g x1000_19 x1001_19 x1002_19 x1003_19 x1004_19 1 t222 t268 t269 t270 t271 t272 w0 _ ?side1 ?side2 A65.out).mono ?_); (case side1 => repeat (first | (with_reducible first | exact HI0.out | apply IsS81.alloc | apply IsS81.drewN | apply IsS81.drew | apply IsS81.set_0 | apply IsS81.set_1 | apply IsS81.set_2 | apply IsS81.set_3 | apply IsS81.set_4 | refine IsS81.far ?_ NB0_178.out _ | apply IsS81.far (hne := NB0_178.out) | refine IsS81.far ?_ NB0_185.out _ | apply IsS81.far (hne := NB0_185.out)) | exact HI0.out)); (case side2 => repeat (first | (with_reducible first | exact HB.out | apply below_alloc | apply pw_below_drewN | apply below_drew1 | refine below_set ?_ (IsS81.ge HI0.out) | refine below_set ?_ GE178.out | refine below_set ?_ GE185.out) | exact HB.out)); rintro e w66 ⟨rfl, hi, hb, hk⟩; refine ⟨_, rfl, ?_⟩; have n0_ := Aside0.mk (KeepBut.blk hk (g' := gb178) (o := .cells #[.int .u8 0, .int .u64 0, .int .u32 0, .int .u32 0, .string (⟨#[]⟩ : ByteArray), .string (⟨#[]⟩ : ByteArray)] 27 (0, 0)) (by (with_reducible repeat (first | refine blk_drewN ?_ _ | refine blk_drew ?_ | refine blk_alloc ?_ _)); exact BK178.out) NB178_0.out (by simp)); have n1_ := Aside0.mk (KeepBut.blk hk (g' := gb185) (o := .cells #[.int .u8 ((t198) % 256), .int .u64 t204, .int .u32 ((t210) % 4294967296), .int .u32 ((t216) % 4294967296), .string t240, .string t247] 27 (0, 0)) (by (with_reducible repeat (first | refine blk_drewN ?_ _ | refine blk_drew ?_ | refine blk_alloc ?_ _)); exact BK185.out) NB185_0.out (by simp)); have n2_ := Aside0.mk (KeepBut.trans (by repeat (first | (with_reducible first | exact HK.out | apply KeepBut.set_ | apply keep_drewN | apply keep_drew | apply keep_alloc | refine keep_far ?_ GW178.out _ | refine keep_far ?_ GW185.out _) | exact HK.out)) hk (.inl rfl)); have n3_ := Aside0.mk (hb); have n4_ := Aside0.mk (hi); clear BK178; clear BK185; clear HK; clear HB; clear HI0; have BK178 := n0_; have BK185 := n1_; have HK := n2_; have HB := n3_; have HI0 := n4_; clear n0_ n1_ n2_ n3_ n4_; (try clear hb); (try clear hb2); (try clear hk); (try clear hi)))
            go_meet
            case rel => exact ⟨_, (t268), (t269), (t270), (t271), (t272), H', ⟨by have := HJ19.out; first | omega | exact Nat.le_refl _⟩, ⟨by (with_reducible repeat (first | refine blk_drewN ?_ _ | refine blk_drew ?_ | refine blk_alloc ?_ _)); exact BK178.out⟩, ⟨by (with_reducible repeat (first | refine blk_drewN ?_ _ | refine blk_drew ?_ | refine blk_alloc ?_ _)); exact BK185.out⟩, ⟨by repeat (first | (with_reducible first | exact HI0.out | apply IsS81.alloc | apply IsS81.drewN | apply IsS81.drew | apply IsS81.set_0 | apply IsS81.set_1 | apply IsS81.set_2 | apply IsS81.set_3 | apply IsS81.set_4 | refine IsS81.far ?_ NB0_178.out _ | apply IsS81.far (hne := NB0_178.out) | refine IsS81.far ?_ NB0_185.out _ | apply IsS81.far (hne := NB0_185.out)) | exact HI0.out)⟩, ⟨by repeat (first | (with_reducible first | exact HK.out | apply KeepBut.set_ | apply keep_drewN | apply keep_drew | apply keep_alloc | refine keep_far ?_ GW178.out _ | refine keep_far ?_ GW185.out _) | exact HK.out)⟩, ⟨by repeat (first | (with_reducible first | exact HB.out | apply below_alloc | apply pw_below_drewN | apply below_drew1 | refine below_set ?_ (IsS81.ge HI0.out) | refine below_set ?_ GE178.out | refine below_set ?_ GE185.out) | exact HB.out)⟩⟩
          · replace c64 := Bool.eq_false_iff.mpr c64
            subst c64
            have H1 : (page_Parse.j1 kj19 x1000_19 x1001_19 x1002_19 x1003_19 x1004_19 ((t198) % 256) t204 ((t210) % 4294967296) ((t216) % 4294967296) t240 t247) = some (r1, r2, r3, r4, r5, r6, r7, r8, r9, r10, r11, r12) := by rw [if_neg (show ¬ (false = true) by decide)] at H; exact H
            clear H
            have H := H1
            clear H1
            have H' := Aside0.mk H
            clear H
            go_wp2
            go_meet
            case rel => exact ⟨_, (x1000_19), (x1001_19), (x1002_19), (x1003_19), (x1004_19), H', ⟨by have := HJ19.out; first | omega | exact Nat.le_refl _⟩, ⟨by (with_reducible repeat (first | refine blk_drewN ?_ _ | refine blk_drew ?_ | refine blk_alloc ?_ _)); exact BK178.out⟩, ⟨by (with_reducible repeat (first | refine blk_drewN ?_ _ | refine blk_drew ?_ | refine blk_alloc ?_ _)); exact BK185.out⟩, ⟨by repeat (first | (with_reducible first | exact HI0.out | apply IsS81.alloc | apply IsS81.drewN | apply IsS81.drew | apply IsS81.set_0 | apply IsS81.set_1 | apply IsS81.set_2 | apply IsS81.set_3 | apply IsS81.set_4 | refine IsS81.far ?_ NB0_178.out _ | apply IsS81.far (hne := NB0_178.out) | refine IsS81.far ?_ NB0_185.out _ | apply IsS81.far (hne := NB0_185.out)) | exact HI0.out)⟩, ⟨by repeat (first | (with_reducible first | exact HK.out | apply KeepBut.set_ | apply keep_drewN | apply keep_drew | apply keep_alloc | refine keep_far ?_ GW178.out _ | refine keep_far ?_ GW185.out _) | exact HK.out)⟩, ⟨by repeat (first | (with_reducible first | exact HB.out | apply below_alloc | apply pw_below_drewN | apply below_drew1 | refine below_set ?_ (IsS81.ge HI0.out) | refine below_set ?_ GE178.out | refine below_set ?_ GE185.out) | exact HB.out)⟩⟩
        case rest =>
          clear HC63
          try clear c1
          try clear c2
          try clear p2
          try clear c3
          try clear c4
          try clear c6
          try clear p6
          try clear c12
          try clear c13
          try clear c27
          try clear c28
          try clear c35
          try clear c36
          try clear c37
          try clear c39
          try clear c40
          try clear c41
          try clear c42
          try clear c43
          try clear c44
          try clear c45
          try clear c46
          try clear c47
          try clear c48
          try clear c64
          try clear hcz29_0
          try clear hcz29_1
          try clear hcz29_2
          try clear hcz29_3
          try clear hcz29_4
          try clear hcz29_5
          try clear hcz31_0
          try clear hcz31_1
          try clear hcz31_2
          try clear hcz31_3
          try clear hcz31_4
          try clear hcz31_5
          try clear hcz34_0
          try clear hcz34_1
          try clear hcz34_2
          try clear hcz34_3
          try clear hcz34_4
          try clear hcz34_5
          try clear hcz39_0
          try clear hcz39_1
          try clear hcz39_2
          try clear hcz39_3
          try clear hcz39_4
          try clear hcz39_5
          try clear hcz41_0
          try clear hcz41_1
          try clear hcz41_2
          try clear hcz41_3
          try clear hcz41_4
          try clear hcz41_5
          try clear hfz29_0
          try clear hfz29_1
          try clear hfz29_2
          try clear hfz29_3
          try clear hfz29_4
          try clear hfz29_5
          try clear hfz31_0
          try clear hfz31_1
          try clear hfz31_2
          try clear hfz31_3
          try clear hfz31_4
          try clear hfz31_5
          try clear hfz34_0
          try clear hfz34_1
          try clear hfz34_2
          try clear hfz34_3
          try clear hfz34_4
          try clear hfz34_5
          try clear hfz39_0
          try clear hfz39_1
          try clear hfz39_2
          try clear hfz39_3
          try clear hfz39_4
          try clear hfz39_5
          try clear hfz41_0
          try clear hfz41_1
          try clear hfz41_2
          try clear hfz41_3
          try clear hfz41_4
          try clear hfz41_5
          try clear p2
          try clear p6
          obtain ⟨kq, x1000_62, x1001_62, x1002_62, x1003_62, x1004_62, HA, HJ62, BK178, BK185, HI0, HK, HB⟩ := hcut
          cases kq with
          | zero => exact absurd HA.out (by simp [page_Parse.j1])
          | succ kj62 =>
            have H := HA.out
            clear HA
            simp only [page_Parse.j1] at H
            replace H := Option.bind_eq_some_iff.mp H
            obtain ⟨⟨t273, t274, t275, t276, t277, t278, t279⟩, A670, H⟩ := H
            replace H : ((api_Fault_Bad.f t273 t274).bind fun t280 => (if t280 = true then (some (0, 0, 0, 0, (⟨#[]⟩ : ByteArray), (⟨#[]⟩ : ByteArray), false, t275, t276, t277, t278, t279)) else (some (((t198) % 256), t204, ((t210) % 4294967296), ((t216) % 4294967296), t240, t247, true, t275, t276, t277, t278, t279)))) = some (r1, r2, r3, r4, r5, r6, r7, r8, r9, r10, r11, r12) := H
            have A67 := Aside0.mk A670
            clear A670
            replace H := Option.bind_eq_some_iff.mp H
            obtain ⟨t280, A680, H⟩ := H
            replace H : (if t280 = true then (some (0, 0, 0, 0, (⟨#[]⟩ : ByteArray), (⟨#[]⟩ : ByteArray), false, t275, t276, t277, t278, t279)) else (some (((t198) % 256), t204, ((t210) % 4294967296), ((t216) % 4294967296), t240, t247, true, t275, t276, t277, t278, t279))) = some (r1, r2, r3, r4, r5, r6, r7, r8, r9, r10, r11, r12) := H
            have A68 := Aside0.mk A680
            clear A680
            by_cases c69 : t280 = true
            · subst c69
              have H1 : (some (0, 0, 0, 0, (⟨#[]⟩ : ByteArray), (⟨#[]⟩ : ByteArray), false, t275, t276, t277, t278, t279)) = some (r1, r2, r3, r4, r5, r6, r7, r8, r9, r10, r11, r12) := by rw [if_pos rfl] at H; exact H
              clear H
              have H := H1
              clear H1
              simp only [Option.some.injEq, Prod.mk.injEq] at H
              obtain ⟨rfl, rfl, rfl, rfl, rfl, rfl, rfl, rfl, rfl, rfl, rfl, rfl⟩ := H
              go_wp2_with (first | ((with_reducible refine gate_callee (f := 47) rfl ?_); refine goesL_ (some 69) rfl rfl Try.func47 (by kernel_rfl) rfl #[.pointer (some ⟨g, 0, none⟩)] rfl (by (try simp only [List.map_toArray, List.map_cons, List.map_nil]); first | done | rfl | (simp only [List.length_drop, List.length_take]; rfl)) ?_; (with_reducible refine (octet_In_Fault.calls g x1000_62 x1001_62 x1002_62 x1003_62 x1004_62 t273 t274 t275 t276 t277 t278 t279 w0 _ ?side1 ?side2 A67.out).mono ?_); (case side1 => repeat (first | (with_reducible first | exact HI0.out | apply IsS81.alloc | apply IsS81.drewN | apply IsS81.drew | apply IsS81.set_0 | apply IsS81.set_1 | apply IsS81.set_2 | apply IsS81.set_3 | apply IsS81.set_4 | refine IsS81.far ?_ NB0_178.out _ | apply IsS81.far (hne := NB0_178.out) | refine IsS81.far ?_ NB0_185.out _ | apply IsS81.far (hne := NB0_185.out)) | exact HI0.out)); (case side2 => repeat (first | (with_reducible first | exact HB.out | apply below_alloc | apply pw_below_drewN | apply below_drew1 | refine below_set ?_ (IsS81.ge HI0.out) | refine below_set ?_ GE178.out | refine below_set ?_ GE185.out) | exact HB.out)); rintro e w70 ⟨rfl, hi, hb, hk⟩; refine ⟨_, rfl, ?_⟩; have n0_ := Aside0.mk (KeepBut.blk hk (g' := gb178) (o := .cells #[.int .u8 0, .int .u64 0, .int .u32 0, .int .u32 0, .string (⟨#[]⟩ : ByteArray), .string (⟨#[]⟩ : ByteArray)] 27 (0, 0)) (by (with_reducible repeat (first | refine blk_drewN ?_ _ | refine blk_drew ?_ | refine blk_alloc ?_ _)); exact BK178.out) NB178_0.out (by simp)); have n1_ := Aside0.mk (KeepBut.blk hk (g' := gb185) (o := .cells #[.int .u8 ((t198) % 256), .int .u64 t204, .int .u32 ((t210) % 4294967296), .int .u32 ((t216) % 4294967296), .string t240, .string t247] 27 (0, 0)) (by (with_reducible repeat (first | refine blk_drewN ?_ _ | refine blk_drew ?_ | refine blk_alloc ?_ _)); exact BK185.out) NB185_0.out (by simp)); have n2_ := Aside0.mk (KeepBut.trans (by repeat (first | (with_reducible first | exact HK.out | apply KeepBut.set_ | apply keep_drewN | apply keep_drew | apply keep_alloc | refine keep_far ?_ GW178.out _ | refine keep_far ?_ GW185.out _) | exact HK.out)) hk (.inl rfl)); have n3_ := Aside0.mk (hb); have n4_ := Aside0.mk (hi); clear BK178; clear BK185; clear HK; clear HB; clear HI0; have BK178 := n0_; have BK185 := n1_; have HK := n2_; have HB := n3_; have HI0 := n4_; clear n0_ n1_ n2_ n3_ n4_; (try clear hb); (try clear hb2); (try clear hk); (try clear hi)) | ((with_reducible refine gate_callee (f := 12) rfl ?_); refine goesL_ (some 70) rfl rfl Try.func12 (by kernel_rfl) rfl #[.agg #[.int .i64 t273, .int .i64 t274]] rfl (by (try simp only [List.map_toArray, List.map_cons, List.map_nil]); first | done | rfl | (simp only [List.length_drop, List.length_take]; rfl)) ?_; (with_reducible refine (api_Fault_Bad.calls t273 t274 true _ A68.out).mono ?_); rintro e w71 ⟨rfl, hb⟩; refine ⟨_, rfl, ?_⟩; have n0_ := Aside0.mk (blk_below (g := gb178) (o := .cells #[.int .u8 0, .int .u64 0, .int .u32 0, .int .u32 0, .string (⟨#[]⟩ : ByteArray), .string (⟨#[]⟩ : ByteArray)] 27 (0, 0)) (by (with_reducible repeat (first | refine blk_drewN ?_ _ | refine blk_drew ?_ | refine blk_alloc ?_ _)); exact BK178.out) hb); have n1_ := Aside0.mk (blk_below (g := gb185) (o := .cells #[.int .u8 ((t198) % 256), .int .u64 t204, .int .u32 ((t210) % 4294967296), .int .u32 ((t216) % 4294967296), .string t240, .string t247] 27 (0, 0)) (by (with_reducible repeat (first | refine blk_drewN ?_ _ | refine blk_drew ?_ | refine blk_alloc ?_ _)); exact BK185.out) hb); have n2_ := Aside0.mk (IsS81.below (by repeat (first | (with_reducible first | exact HI0.out | apply IsS81.alloc | apply IsS81.drewN | apply IsS81.drew | apply IsS81.set_0 | apply IsS81.set_1 | apply IsS81.set_2 | apply IsS81.set_3 | apply IsS81.set_4 | refine IsS81.far ?_ NB0_178.out _ | apply IsS81.far (hne := NB0_178.out) | refine IsS81.far ?_ NB0_185.out _ | apply IsS81.far (hne := NB0_185.out)) | exact HI0.out)) hb); have n3_ := Aside0.mk (KeepBut.trans (by repeat (first | (with_reducible first | exact HK.out | apply KeepBut.set_ | apply keep_drewN | apply keep_drew | apply keep_alloc | refine keep_far ?_ GW178.out _ | refine keep_far ?_ GW185.out _) | exact HK.out)) (KeepBut.of_below hb g none) (.inl rfl)); have n4_ := Aside0.mk (below_step (by repeat (first | (with_reducible first | exact HB.out | apply below_alloc | apply pw_below_drewN | apply below_drew1 | refine below_set ?_ (IsS81.ge HI0.out) | refine below_set ?_ GE178.out | refine below_set ?_ GE185.out) | exact HB.out)) hb); clear BK178; clear BK185; clear HI0; clear HK; clear HB; have BK178 := n0_; have BK185 := n1_; have HI0 := n2_; have HK := n3_; have HB := n4_; clear n0_ n1_ n2_ n3_ n4_; (try clear hb); (try clear hb2); (try clear hk); (try clear hi); have hnb72 := NB178_185.out; have hnc72 := NB185_178.out; have hnb73 := NB178_0.out; have hnc73 := NB0_178.out; have hcz74_0 : w71.cell? ⟨gb178, 0, none⟩ = some (.int .u8 0) := (blk_cell BK178.out 0).trans rfl; have hcz74_1 : w71.cell? ⟨gb178, 1, none⟩ = some (.int .u64 0) := (blk_cell BK178.out 1).trans rfl; have hcz74_2 : w71.cell? ⟨gb178, 2, none⟩ = some (.int .u32 0) := (blk_cell BK178.out 2).trans rfl; have hcz74_3 : w71.cell? ⟨gb178, 3, none⟩ = some (.int .u32 0) := (blk_cell BK178.out 3).trans rfl; have hcz74_4 : w71.cell? ⟨gb178, 4, none⟩ = some (.string (⟨#[]⟩ : ByteArray)) := (blk_cell BK178.out 4).trans rfl; have hcz74_5 : w71.cell? ⟨gb178, 5, none⟩ = some (.string (⟨#[]⟩ : ByteArray)) := (blk_cell BK178.out 5).trans rfl; have hfz74_0 := blk_frozen BK178.out 0; have hfz74_1 := blk_frozen BK178.out 1; have hfz74_2 := blk_frozen BK178.out 2; have hfz74_3 := blk_frozen BK178.out 3; have hfz74_4 := blk_frozen BK178.out 4; have hfz74_5 := blk_frozen BK178.out 5))
              refine bodyPost_ret (results_ct rfl _ _ gb178 27 #[.int .u8 0, .int .u64 0, .int .u32 0, .int .u32 0, .string (⟨#[]⟩ : ByteArray), .string (⟨#[]⟩ : ByteArray)] (0, 0) _ rfl (by (with_reducible repeat (first | refine blk_drewN ?_ _ | refine blk_drew ?_ | refine blk_alloc ?_ _)); refine blk_put (cs := #[.int .u8 0, .int .u64 0, .int .u32 0, .int .u32 0, .string (⟨#[]⟩ : ByteArray), .string (⟨#[]⟩ : ByteArray)]) ?_ 5 _ rfl; (with_reducible repeat (first | refine blk_drewN ?_ _ | refine blk_drew ?_ | refine blk_alloc ?_ _)); refine blk_put (cs := #[.int .u8 0, .int .u64 0, .int .u32 0, .int .u32 0, .string (⟨#[]⟩ : ByteArray), .string (⟨#[]⟩ : ByteArray)]) ?_ 4 _ rfl; (with_reducible repeat (first | refine blk_drewN ?_ _ | refine blk_drew ?_ | refine blk_alloc ?_ _)); refine blk_put (cs := #[.int .u8 0, .int .u64 0, .int .u32 0, .int .u32 0, .string (⟨#[]⟩ : ByteArray), .string (⟨#[]⟩ : ByteArray)]) ?_ 3 _ rfl; (with_reducible repeat (first | refine blk_drewN ?_ _ | refine blk_drew ?_ | refine blk_alloc ?_ _)); refine blk_put (cs := #[.int .u8 0, .int .u64 0, .int .u32 0, .int .u32 0, .string (⟨#[]⟩ : ByteArray), .string (⟨#[]⟩ : ByteArray)]) ?_ 2 _ rfl; (with_reducible repeat (first | refine blk_drewN ?_ _ | refine blk_drew ?_ | refine blk_alloc ?_ _)); refine blk_put (cs := #[.int .u8 0, .int .u64 0, .int .u32 0, .int .u32 0, .string (⟨#[]⟩ : ByteArray), .string (⟨#[]⟩ : ByteArray)]) ?_ 1 _ rfl; (with_reducible repeat (first | refine blk_drewN ?_ _ | refine blk_drew ?_ | refine blk_alloc ?_ _)); refine blk_put (cs := #[.int .u8 0, .int .u64 0, .int .u32 0, .int .u32 0, .string (⟨#[]⟩ : ByteArray), .string (⟨#[]⟩ : ByteArray)]) ?_ 0 _ rfl; (with_reducible repeat (first | refine blk_drewN ?_ _ | refine blk_drew ?_ | refine blk_alloc ?_ _)); exact BK178.out) Try.underlying27 rfl (by kernel_rfl)) rfl ?_
              exact ⟨by first | rfl | (simp [errW_none, errW_some] <;> rfl) | (simp [*, errW_none, errW_some] <;> rfl), by repeat (first | (with_reducible first | exact HI0.out | apply IsS81.alloc | apply IsS81.drewN | apply IsS81.drew | apply IsS81.set_0 | apply IsS81.set_1 | apply IsS81.set_2 | apply IsS81.set_3 | apply IsS81.set_4 | refine IsS81.far ?_ NB0_178.out _ | apply IsS81.far (hne := NB0_178.out) | refine IsS81.far ?_ NB0_185.out _ | apply IsS81.far (hne := NB0_185.out)) | exact HI0.out), by repeat (first | (with_reducible first | exact HB.out | apply below_alloc | apply pw_below_drewN | apply below_drew1 | refine below_set ?_ (IsS81.ge HI0.out) | refine below_set ?_ GE178.out | refine below_set ?_ GE185.out) | exact HB.out), by repeat (first | (with_reducible first | exact HK.out | apply KeepBut.set_ | apply keep_drewN | apply keep_drew | apply keep_alloc | refine keep_far ?_ GW178.out _ | refine keep_far ?_ GW185.out _) | exact HK.out)⟩
            · replace c69 := Bool.eq_false_iff.mpr c69
              subst c69
              have H1 : (some (((t198) % 256), t204, ((t210) % 4294967296), ((t216) % 4294967296), t240, t247, true, t275, t276, t277, t278, t279)) = some (r1, r2, r3, r4, r5, r6, r7, r8, r9, r10, r11, r12) := by rw [if_neg (show ¬ (false = true) by decide)] at H; exact H
              clear H
              have H := H1
              clear H1
              simp only [Option.some.injEq, Prod.mk.injEq] at H
              obtain ⟨rfl, rfl, rfl, rfl, rfl, rfl, rfl, rfl, rfl, rfl, rfl, rfl⟩ := H
              go_wp2_with (first | ((with_reducible refine gate_callee (f := 47) rfl ?_); refine goesL_ (some 69) rfl rfl Try.func47 (by kernel_rfl) rfl #[.pointer (some ⟨g, 0, none⟩)] rfl (by (try simp only [List.map_toArray, List.map_cons, List.map_nil]); first | done | rfl | (simp only [List.length_drop, List.length_take]; rfl)) ?_; (with_reducible refine (octet_In_Fault.calls g x1000_62 x1001_62 x1002_62 x1003_62 x1004_62 t273 t274 t275 t276 t277 t278 t279 w0 _ ?side1 ?side2 A67.out).mono ?_); (case side1 => repeat (first | (with_reducible first | exact HI0.out | apply IsS81.alloc | apply IsS81.drewN | apply IsS81.drew | apply IsS81.set_0 | apply IsS81.set_1 | apply IsS81.set_2 | apply IsS81.set_3 | apply IsS81.set_4 | refine IsS81.far ?_ NB0_178.out _ | apply IsS81.far (hne := NB0_178.out) | refine IsS81.far ?_ NB0_185.out _ | apply IsS81.far (hne := NB0_185.out)) | exact HI0.out)); (case side2 => repeat (first | (with_reducible first | exact HB.out | apply below_alloc | apply pw_below_drewN | apply below_drew1 | refine below_set ?_ (IsS81.ge HI0.out) | refine below_set ?_ GE178.out | refine below_set ?_ GE185.out) | exact HB.out)); rintro e w75 ⟨rfl, hi, hb, hk⟩; refine ⟨_, rfl, ?_⟩; have n0_ := Aside0.mk (KeepBut.blk hk (g' := gb178) (o := .cells #[.int .u8 0, .int .u64 0, .int .u32 0, .int .u32 0, .string (⟨#[]⟩ : ByteArray), .string (⟨#[]⟩ : ByteArray)] 27 (0, 0)) (by (with_reducible repeat (first | refine blk_drewN ?_ _ | refine blk_drew ?_ | refine blk_alloc ?_ _)); exact BK178.out) NB178_0.out (by simp)); have n1_ := Aside0.mk (KeepBut.blk hk (g' := gb185) (o := .cells #[.int .u8 ((t198) % 256), .int .u64 t204, .int .u32 ((t210) % 4294967296), .int .u32 ((t216) % 4294967296), .string t240, .string t247] 27 (0, 0)) (by (with_reducible repeat (first | refine blk_drewN ?_ _ | refine blk_drew ?_ | refine blk_alloc ?_ _)); exact BK185.out) NB185_0.out (by simp)); have n2_ := Aside0.mk (KeepBut.trans (by repeat (first | (with_reducible first | exact HK.out | apply KeepBut.set_ | apply keep_drewN | apply keep_drew | apply keep_alloc | refine keep_far ?_ GW178.out _ | refine keep_far ?_ GW185.out _) | exact HK.out)) hk (.inl rfl)); have n3_ := Aside0.mk (hb); have n4_ := Aside0.mk (hi); clear BK178; clear BK185; clear HK; clear HB; clear HI0; have BK178 := n0_; have BK185 := n1_; have HK := n2_; have HB := n3_; have HI0 := n4_; clear n0_ n1_ n2_ n3_ n4_; (try clear hb); (try clear hb2); (try clear hk); (try clear hi)) | ((with_reducible refine gate_callee (f := 12) rfl ?_); refine goesL_ (some 70) rfl rfl Try.func12 (by kernel_rfl) rfl #[.agg #[.int .i64 t273, .int .i64 t274]] rfl (by (try simp only [List.map_toArray, List.map_cons, List.map_nil]); first | done | rfl | (simp only [List.length_drop, List.length_take]; rfl)) ?_; (with_reducible refine (api_Fault_Bad.calls t273 t274 false _ A68.out).mono ?_); rintro e w76 ⟨rfl, hb⟩; refine ⟨_, rfl, ?_⟩; have n0_ := Aside0.mk (blk_below (g := gb178) (o := .cells #[.int .u8 0, .int .u64 0, .int .u32 0, .int .u32 0, .string (⟨#[]⟩ : ByteArray), .string (⟨#[]⟩ : ByteArray)] 27 (0, 0)) (by (with_reducible repeat (first | refine blk_drewN ?_ _ | refine blk_drew ?_ | refine blk_alloc ?_ _)); exact BK178.out) hb); have n1_ := Aside0.mk (blk_below (g := gb185) (o := .cells #[.int .u8 ((t198) % 256), .int .u64 t204, .int .u32 ((t210) % 4294967296), .int .u32 ((t216) % 4294967296), .string t240, .string t247] 27 (0, 0)) (by (with_reducible repeat (first | refine blk_drewN ?_ _ | refine blk_drew ?_ | refine blk_alloc ?_ _)); exact BK185.out) hb); have n2_ := Aside0.mk (IsS81.below (by repeat (first | (with_reducible first | exact HI0.out | apply IsS81.alloc | apply IsS81.drewN | apply IsS81.drew | apply IsS81.set_0 | apply IsS81.set_1 | apply IsS81.set_2 | apply IsS81.set_3 | apply IsS81.set_4 | refine IsS81.far ?_ NB0_178.out _ | apply IsS81.far (hne := NB0_178.out) | refine IsS81.far ?_ NB0_185.out _ | apply IsS81.far (hne := NB0_185.out)) | exact HI0.out)) hb); have n3_ := Aside0.mk (KeepBut.trans (by repeat (first | (with_reducible first | exact HK.out | apply KeepBut.set_ | apply keep_drewN | apply keep_drew | apply keep_alloc | refine keep_far ?_ GW178.out _ | refine keep_far ?_ GW185.out _) | exact HK.out)) (KeepBut.of_below hb g none) (.inl rfl)); have n4_ := Aside0.mk (below_step (by repeat (first | (with_reducible first | exact HB.out | apply below_alloc | apply pw_below_drewN | apply below_drew1 | refine below_set ?_ (IsS81.ge HI0.out) | refine below_set ?_ GE178.out | refine below_set ?_ GE185.out) | exact HB.out)) hb); clear BK178; clear BK185; clear HI0; clear HK; clear HB; have BK178 := n0_; have BK185 := n1_; have HI0 := n2_; have HK := n3_; have HB := n4_; clear n0_ n1_ n2_ n3_ n4_; (try clear hb); (try clear hb2); (try clear hk); (try clear hi); have hnb77 := NB185_178.out; have hnc77 := NB178_185.out; have hnb78 := NB185_0.out; have hnc78 := NB0_185.out; have hcz79_0 : w76.cell? ⟨gb185, 0, none⟩ = some (.int .u8 ((t198) % 256)) := (blk_cell BK185.out 0).trans rfl; have hcz79_1 : w76.cell? ⟨gb185, 1, none⟩ = some (.int .u64 t204) := (blk_cell BK185.out 1).trans rfl; have hcz79_2 : w76.cell? ⟨gb185, 2, none⟩ = some (.int .u32 ((t210) % 4294967296)) := (blk_cell BK185.out 2).trans rfl; have hcz79_3 : w76.cell? ⟨gb185, 3, none⟩ = some (.int .u32 ((t216) % 4294967296)) := (blk_cell BK185.out 3).trans rfl; have hcz79_4 : w76.cell? ⟨gb185, 4, none⟩ = some (.string t240) := (blk_cell BK185.out 4).trans rfl; have hcz79_5 : w76.cell? ⟨gb185, 5, none⟩ = some (.string t247) := (blk_cell BK185.out 5).trans rfl; have hfz79_0 := blk_frozen BK185.out 0; have hfz79_1 := blk_frozen BK185.out 1; have hfz79_2 := blk_frozen BK185.out 2; have hfz79_3 := blk_frozen BK185.out 3; have hfz79_4 := blk_frozen BK185.out 4; have hfz79_5 := blk_frozen BK185.out 5; have hnb80 := NB178_0.out; have hnc80 := NB0_178.out; have hcz81_0 : w76.cell? ⟨gb178, 0, none⟩ = some (.int .u8 0) := (blk_cell BK178.out 0).trans rfl; have hcz81_1 : w76.cell? ⟨gb178, 1, none⟩ = some (.int .u64 0) := (blk_cell BK178.out 1).trans rfl; have hcz81_2 : w76.cell? ⟨gb178, 2, none⟩ = some (.int .u32 0) := (blk_cell BK178.out 2).trans rfl; have hcz81_3 : w76.cell? ⟨gb178, 3, none⟩ = some (.int .u32 0) := (blk_cell BK178.out 3).trans rfl; have hcz81_4 : w76.cell? ⟨gb178, 4, none⟩ = some (.string (⟨#[]⟩ : ByteArray)) := (blk_cell BK178.out 4).trans rfl; have hcz81_5 : w76.cell? ⟨gb178, 5, none⟩ = some (.string (⟨#[]⟩ : ByteArray)) := (blk_cell BK178.out 5).trans rfl; have hfz81_0 := blk_frozen BK178.out 0; have hfz81_1 := blk_frozen BK178.out 1; have hfz81_2 := blk_frozen BK178.out 2; have hfz81_3 := blk_frozen BK178.out 3; have hfz81_4 := blk_frozen BK178.out 4; have hfz81_5 := blk_frozen BK178.out 5))
              refine bodyPost_ret (results_ct rfl _ _ gb178 27 #[.int .u8 ((t198) % 256), .int .u64 t204, .int .u32 ((t210) % 4294967296), .int .u32 ((t216) % 4294967296), .string t240, .string t247] (0, 0) _ rfl (by (with_reducible repeat (first | refine blk_drewN ?_ _ | refine blk_drew ?_ | refine blk_alloc ?_ _)); refine blk_put (cs := #[.int .u8 ((t198) % 256), .int .u64 t204, .int .u32 ((t210) % 4294967296), .int .u32 ((t216) % 4294967296), .string t240, .string (⟨#[]⟩ : ByteArray)]) ?_ 5 _ rfl; (with_reducible repeat (first | refine blk_drewN ?_ _ | refine blk_drew ?_ | refine blk_alloc ?_ _)); refine blk_put (cs := #[.int .u8 ((t198) % 256), .int .u64 t204, .int .u32 ((t210) % 4294967296), .int .u32 ((t216) % 4294967296), .string (⟨#[]⟩ : ByteArray), .string (⟨#[]⟩ : ByteArray)]) ?_ 4 _ rfl; (with_reducible repeat (first | refine blk_drewN ?_ _ | refine blk_drew ?_ | refine blk_alloc ?_ _)); refine blk_put (cs := #[.int .u8 ((t198) % 256), .int .u64 t204, .int .u32 ((t210) % 4294967296), .int .u32 0, .string (⟨#[]⟩ : ByteArray), .string (⟨#[]⟩ : ByteArray)]) ?_ 3 _ rfl; (with_reducible repeat (first | refine blk_drewN ?_ _ | refine blk_drew ?_ | refine blk_alloc ?_ _)); refine blk_put (cs := #[.int .u8 ((t198) % 256), .int .u64 t204, .int .u32 0, .int .u32 0, .string (⟨#[]⟩ : ByteArray), .string (⟨#[]⟩ : ByteArray)]) ?_ 2 _ rfl; (with_reducible repeat (first | refine blk_drewN ?_ _ | refine blk_drew ?_ | refine blk_alloc ?_ _)); refine blk_put (cs := #[.int .u8 ((t198) % 256), .int .u64 0, .int .u32 0, .int .u32 0, .string (⟨#[]⟩ : ByteArray), .string (⟨#[]⟩ : ByteArray)]) ?_ 1 _ rfl; (with_reducible repeat (first | refine blk_drewN ?_ _ | refine blk_drew ?_ | refine blk_alloc ?_ _)); refine blk_put (cs := #[.int .u8 0, .int .u64 0, .int .u32 0, .int .u32 0, .string (⟨#[]⟩ : ByteArray), .string (⟨#[]⟩ : ByteArray)]) ?_ 0 _ rfl; (with_reducible repeat (first | refine blk_drewN ?_ _ | refine blk_drew ?_ | refine blk_alloc ?_ _)); exact BK178.out) Try.underlying27 rfl (by kernel_rfl)) rfl ?_
              exact ⟨by first | rfl | (simp [errW_none, errW_some] <;> rfl) | (simp [*, errW_none, errW_some] <;> rfl), by repeat (first | (with_reducible first | exact HI0.out | apply IsS81.alloc | apply IsS81.drewN | apply IsS81.drew | apply IsS81.set_0 | apply IsS81.set_1 | apply IsS81.set_2 | apply IsS81.set_3 | apply IsS81.set_4 | refine IsS81.far ?_ NB0_178.out _ | apply IsS81.far (hne := NB0_178.out) | refine IsS81.far ?_ NB0_185.out _ | apply IsS81.far (hne := NB0_185.out)) | exact HI0.out), by repeat (first | (with_reducible first | exact HB.out | apply below_alloc | apply pw_below_drewN | apply below_drew1 | refine below_set ?_ (IsS81.ge HI0.out) | refine below_set ?_ GE178.out | refine below_set ?_ GE185.out) | exact HB.out), by repeat (first | (with_reducible first | exact HK.out | apply KeepBut.set_ | apply keep_drewN | apply keep_drew | apply keep_alloc | refine keep_far ?_ GW178.out _ | refine keep_far ?_ GW185.out _) | exact HK.out)⟩

end Go.Proofs.Ytmfamkkikiglmaa.PAll
