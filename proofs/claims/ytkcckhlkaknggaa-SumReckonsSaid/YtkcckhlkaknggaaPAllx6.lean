-- Written by a program of this session
import Derived.Test.YtkcckhlkaknggaaPAllx0
import Derived.Test.YtkcckhlkaknggaaPAllx2
import Derived.Test.YtkcckhlkaknggaaPAllx3
namespace Go.Proofs.Ytkcckhlkaknggaa.PAll
open Go.RowKit Go.Proofs.YtkcckhlkaknggaaW.PrintWords Go.Proofs.YtkcckhlkaknggaaW.PrintLast Go.Proofs.YtkcckhlkaknggaaW.PrintMore
attribute [local go_sem] max2_int min2_int max_two min_two max_three min_three max_four min_four   -- for this text's walks alone
set_option linter.unusedVariables false
set_option linter.unusedSimpArgs false

/-! ### diacriticref01_Power: function 27 -/
def diacriticref01_Power.l0 : Nat → Int → Int → Int → Option (Int)
  | 0, _, _, _ => none
  | k + 1, x0, x3, x4 => if x4 < x0 then (diacriticref01_Power.l0 k x0 (IntKind.u64.wrap (x3 * 256)) (wrap64 (x4 + 1))) else (some x3)
def diacriticref01_Power.f (k : Nat) (a0 : Int) : Option (Int) := diacriticref01_Power.l0 k a0 1 0
theorem diacriticref01_Power.mono_l : ∀ k, (∀ y0 y1 y2, LeO (diacriticref01_Power.l0 k y0 y1 y2) (diacriticref01_Power.l0 (k + 1) y0 y1 y2))
  | 0 => fun _ _ _ r h => by simp [diacriticref01_Power.l0] at h
  | k + 1 => by
    have ih0 := diacriticref01_Power.mono_l k
    · intro y0 y1 y2
      unfold diacriticref01_Power.l0
      repeat' first
      | (with_reducible exact ih0 _ _ _)
      | (with_reducible exact LeO.refl _)
      | (with_reducible exact LeO.none _)
      | (with_reducible refine LeO.ite ?_ ?_)
      | (with_reducible refine LeO.bind ?_ (fun _ => ?_))
      | exact ih0 _ _ _
      | exact LeO.none _
      | refine LeO.ite ?_ ?_
      | refine LeO.bind ?_ (fun _ => ?_)
theorem diacriticref01_Power.mono : ∀ a0 k, LeO (diacriticref01_Power.f k a0) (diacriticref01_Power.f (k + 1) a0) := by
  intro a0 k
  have ih0 := diacriticref01_Power.mono_l k
  unfold diacriticref01_Power.f
  repeat' first
      | (with_reducible exact ih0 _ _ _)
      | (with_reducible exact LeO.refl _)
      | (with_reducible exact LeO.none _)
      | (with_reducible refine LeO.ite ?_ ?_)
      | (with_reducible refine LeO.bind ?_ (fun _ => ?_))
      | exact ih0 _ _ _
      | exact LeO.none _
      | refine LeO.ite ?_ ?_
      | refine LeO.bind ?_ (fun _ => ?_)
set_option maxHeartbeats 8000000 in
set_option maxRecDepth 100000 in
theorem diacriticref01_Power.calls (k : Nat) (a0 : Int) (r : Int) (w : World) (h : diacriticref01_Power.f k a0 = some r) :
    Calls Try.prog 27 #[.int .i64 a0] w fun e w' => e = .returned (.int .u64 r) ∧ Drawn0 w w' := by
  have H : (diacriticref01_Power.l0 k a0 1 0) = some r := h
  clear h
  have H' := Aside0.mk H
  clear H
  go_enter Try.func27, Try.ntmps27
  go_wp2
  go_loopg [3, 4] k (fun kq v3 v4 w' => ∃ (x3_1 : Int) (x4_1 : Int), v3 = .int .u64 x3_1 ∧ v4 = .int .i64 x4_1 ∧ Aside0 (diacriticref01_Power.l0 kq a0 x3_1 x4_1 = some r) ∧ Aside0 (kq ≤ k) ∧ Drawn0 w w')
  case atStart => exact ⟨(1), (0), (by first | rfl | (simp; done) | (simp [*]; done)), (by first | rfl | (simp; done) | (simp [*]; done)), H', ⟨Nat.le_refl _⟩, by repeat (first | exact Drawn0.refl _ | apply Drawn0.step)⟩
  case round =>
    clear H'
    obtain ⟨x3_1, x4_1, rfl, rfl, HA, HK1, ⟨m1, rfl⟩⟩ := hrel
    cases gk with
    | zero => exact absurd HA.out (by simp [diacriticref01_Power.l0])
    | succ k1 =>
      have H := HA.out
      clear HA
      simp only [diacriticref01_Power.l0] at H
      by_cases c2 : x4_1 < a0
      · rw [if_pos c2] at H
        have c2b0 : decide (x4_1 < a0) = true := decide_eq_true c2
        clear c2
        have H' := Aside0.mk H
        clear H
        go_wp2
        go_roundg k1
        case measure => have := HK1.out; omega
        case rel => exact ⟨(IntKind.u64.wrap (x3_1 * 256)), (wrap64 (x4_1 + 1)), (by first | rfl | (simp; done) | (simp [*]; done)), (by first | rfl | (simp; done) | (simp [*]; done)), H', ⟨by have := HK1.out; omega⟩, by repeat (first | exact Drawn0.refl _ | apply Drawn0.step)⟩
      · rw [if_neg c2] at H
        have c2b0 : decide (x4_1 < a0) = false := decide_eq_false c2
        clear c2
        obtain rfl := Option.some.inj H
        go_wp2
        go_ret
        exact ⟨by first | rfl | (simp; done) | (simp [*]; done), by repeat (first | exact Drawn0.refl _ | apply Drawn0.step)⟩

/-! ### octet_In_Big: function 28 -/
/-- What a number is, with one byte more behind it. -/
def bigStep (n c : Int) : Int := Go.bits .or .u64 (IntKind.u64.wrap (n * 256)) c
def bigOf (l : List Int) : Int := l.foldl bigStep 0
theorem bigOf_snoc (l : List Int) (c : Int) : bigOf (l ++ [c]) = bigStep (bigOf l) c := by simp [bigOf]
theorem byte_getD (s : ByteArray) (k : Nat) : 0 ≤ (bytesOf s).getD k 0 ∧ (bytesOf s).getD k 0 ≤ 255 := by
  have h := rd_bytesOf s (k : Int)
  unfold rd at h
  rw [Int.toNat_natCast] at h
  rw [h]
  exact bt_range _ _
theorem u64_byte (c : Int) (h : 0 ≤ c ∧ c ≤ 255) : IntKind.u64.wrap c = c := by
  simp [IntKind.wrap, IntKind.bits, IntKind.signed]; omega
theorem take_snoc_rd (l : List Int) (k : Nat) (h : k < l.length) : l.take (k + 1) = l.take k ++ [l.getD k 0] := by
  rw [List.take_succ_eq_append_getElem h, List.getD_eq_getElem?_getD, List.getElem?_eq_getElem h]; rfl
def octet_In_Big.f (s0_0 : ByteArray) (s0_1 : Int) (s0_2 : Int) (s0_3 : Int) (s0_4 : Int) (a1 : Int) : Option (Int × ByteArray × Int × Int × Int × Int) :=
  (octet_In_Take.f s0_0 s0_1 s0_2 s0_3 s0_4 (mn (mx a1 0) 8)).bind fun t => if t.1.size ≤ 140737488355328 then some (bigOf (bytesOf t.1), t.2) else none
set_option maxHeartbeats 8000000 in
set_option maxRecDepth 100000 in
theorem octet_In_Big.calls (g : Nat) (s0_0 : ByteArray) (s0_1 : Int) (s0_2 : Int) (s0_3 : Int) (s0_4 : Int) (a1 : Int) (r1 : Int) (r2 : ByteArray) (r3 : Int) (r4 : Int) (r5 : Int) (r6 : Int) (w0 w : World) (hI : IsS68 w0 w g s0_0 s0_1 s0_2 s0_3 s0_4) (hB : Below w0.heap.size w0 w) (h : octet_In_Big.f s0_0 s0_1 s0_2 s0_3 s0_4 a1 = some (r1, r2, r3, r4, r5, r6)) :
    Calls Try.prog 28 #[.pointer (some ⟨g, 0, none⟩), .int .i64 a1] w fun e w' => e = .returned (.int .u64 r1) ∧ IsS68 w0 w' g r2 r3 r4 r5 r6 ∧ Below w0.heap.size w0 w' ∧ KeepBut w w' g none := by
  have h' := h
  unfold octet_In_Big.f at h'
  replace h' := Option.bind_eq_some_iff.mp h'
  obtain ⟨⟨s, s2, s3, s4, s5, s6⟩, ht, h'⟩ := h'
  dsimp only at h'
  by_cases hsz0 : s.size ≤ 140737488355328
  case neg => rw [if_neg hsz0] at h'; exact absurd h' (by simp)
  rw [if_pos hsz0] at h'
  simp only [Option.some.injEq, Prod.mk.injEq] at h'
  obtain ⟨rfl, rfl, rfl, rfl, rfl, rfl⟩ := h'
  clear h
  have hsz : s.size ≤ 9223372036854775807 := by omega
  obtain ⟨ji3, hji3⟩ : ∃ j_ : Int, (mx a1 0) = j_ := ⟨_, rfl⟩
  rw [hji3] at ht
  have hji3_ : (if a1 < 0 then 0 else a1) = ji3 := hji3
  obtain ⟨ji4, hji4⟩ : ∃ j_ : Int, (mn ji3 8) = j_ := ⟨_, rfl⟩
  rw [hji4] at ht
  have hji4_ : (if 8 < ji3 then 8 else ji3) = ji4 := hji4
  clear hji3 hji4
  have A_TAKE := Aside0.mk ht
  clear ht
  have hu := Try.underlying32
  have HI0 := Aside0.mk hI
  have HK := Aside0.mk (KeepBut.refl w g none)
  clear hI
  have HB := Aside0.mk hB
  clear hB
  have kb := fun W => print_bytes (P := Try.prog) 9 49 5 Try.underlying9 Try.underlying49 Try.underlying5 s W
  go_enter Try.func28, Try.ntmps28
  go_wp2_with (first | (go_at_call 38; (with_reducible refine (octet_In_Take.calls g _ _ _ _ _ _ _ _ _ _ _ _ w0 _ (by repeat (first | (with_reducible first | exact HI0.out | apply IsS68.alloc | apply IsS68.drewN | apply IsS68.drew | apply IsS68.set_0 | apply IsS68.set_1 | apply IsS68.set_2 | apply IsS68.set_3 | apply IsS68.set_4) | exact HI0.out)) (by repeat (first | (with_reducible first | exact HB.out | apply below_alloc | apply pw_below_drewN | apply below_drew1 | refine below_set ?_ (IsS68.ge HI0.out)) | exact HB.out)) A_TAKE.out).mono ?_); rintro e w8 ⟨rfl, hi, hb, hk⟩; have n0_ := Aside0.mk hi; have n1_ := Aside0.mk (KeepBut.trans (by repeat (first | (with_reducible first | exact HK.out | apply KeepBut.set_ | apply keep_drewN | apply keep_drew | apply keep_alloc) | exact HK.out)) hk (.inl rfl)); have n2_ := Aside0.mk hb; clear HI0 HK HB; have HI0 := n0_; have HK := n1_; have HB := n2_; clear n0_ n1_ n2_ hi hb hk; (try clear hc0); (try clear hc1); (try clear hc2); (try clear hc3); (try clear hc4); (try clear hf0); (try clear hf1); (try clear hf2); (try clear hf3); (try clear hf4)))
  have hbl : (bytesOf s).length = s.size := bytesOf_length s
  have HBL := Aside0.mk hbl
  clear hbl
  have HSZ := Aside0.mk hsz0
  go_loop [5, 7, 15] (fun n c i => ∃ k : Nat, k ≤ s.size ∧ i = .int .i64 k ∧ n = .int .u64 (bigOf ((bytesOf s).take k))) (fun _ _ i => s.size - (intOf i).toNat)
  case atStart => exact ⟨0, Nat.zero_le _, rfl, rfl⟩
  case round =>
    obtain ⟨k, hk, rfl, rfl⟩ := hrel
    by_cases hlt : k < s.size
    · have hcell : (Lib.bytesWorld w8 5 s).cell? ⟨w8.heap.size, k, none⟩ = some (.int .u8 ((bytesOf s).getD k 0)) := by
        rw [Lib.bytesWorld_cell _ _ _ _ hlt]
        have h' : k < s.data.toList.length := by rw [data_length]; exact hlt
        simp [bytesOf, List.getD_eq_getElem?_getD, List.getElem?_eq_getElem h']
      have HCB := Aside0.mk (u64_byte _ (byte_getD s k))
      generalize hc : (bytesOf s).getD k 0 = c at hcell HCB
      have hsn : bigOf ((bytesOf s).take (k + 1)) = Go.bits .or .u64 (IntKind.u64.wrap (bigOf ((bytesOf s).take k) * 256)) c := by
        rw [take_snoc_rd _ _ (by rw [HBL.out]; exact hlt), bigOf_snoc, hc]; rfl
      have HSN := Aside0.mk hsn
      clear hsn hc
      generalize bigOf ((bytesOf s).take k) = n0 at HSN ⊢
      go_wp2
      go_round
      case rel => exact ⟨k + 1, by omega, by go_num, by rw [HSN.out, HCB.out]⟩
      case measure => simp [intOf]; omega
    · have hk' : k = s.size := by omega
      rw [List.take_of_length_le (by rw [HBL.out]; omega)]
      go_wp2
      go_ret
      have HI1 := Aside0.mk (IsS68.below HI0.out (bytes_below (Below.refl _ _) (Nat.le_refl _) 5 s))
      have HK1 := Aside0.mk (KeepBut.trans HK.out (KeepBut.of_below (bytes_below (Below.refl _ _) (Nat.le_refl _) 5 s) g none) (.inl rfl))
      have HB1 := Aside0.mk (bytes_below HB.out HB.out.size 5 s)
      exact ⟨rfl, HI1.out, HB1.out, HK1.out⟩


/-! ### octet_In_Small: function 29 -/
/-- A number of bytes, the lowest first, as the program reckons it: of the first k. -/
def smallOf (l : List Int) : Nat → Int
  | 0 => 0
  | k + 1 => Go.bits .or .u64 (smallOf l k) (IntKind.u64.wrap (l.getD k 0 * 2 ^ (8 * k)))
def octet_In_Small.f (s0_0 : ByteArray) (s0_1 : Int) (s0_2 : Int) (s0_3 : Int) (s0_4 : Int) (a1 : Int) : Option (Int × ByteArray × Int × Int × Int × Int) :=
  (octet_In_Take.f s0_0 s0_1 s0_2 s0_3 s0_4 (mn (mx a1 0) 8)).bind fun t => if t.1.size ≤ 8 then some (smallOf (bytesOf t.1) t.1.size, t.2) else none
set_option maxHeartbeats 8000000 in
set_option maxRecDepth 100000 in
theorem octet_In_Small.calls (g : Nat) (s0_0 : ByteArray) (s0_1 : Int) (s0_2 : Int) (s0_3 : Int) (s0_4 : Int) (a1 : Int) (r1 : Int) (r2 : ByteArray) (r3 : Int) (r4 : Int) (r5 : Int) (r6 : Int) (w0 w : World) (hI : IsS68 w0 w g s0_0 s0_1 s0_2 s0_3 s0_4) (hB : Below w0.heap.size w0 w) (h : octet_In_Small.f s0_0 s0_1 s0_2 s0_3 s0_4 a1 = some (r1, r2, r3, r4, r5, r6)) :
    Calls Try.prog 29 #[.pointer (some ⟨g, 0, none⟩), .int .i64 a1] w fun e w' => e = .returned (.int .u64 r1) ∧ IsS68 w0 w' g r2 r3 r4 r5 r6 ∧ Below w0.heap.size w0 w' ∧ KeepBut w w' g none := by
  have h' := h
  unfold octet_In_Small.f at h'
  replace h' := Option.bind_eq_some_iff.mp h'
  obtain ⟨⟨s, s2, s3, s4, s5, s6⟩, ht, h'⟩ := h'
  dsimp only at h'
  by_cases hsz0 : s.size ≤ 8
  case neg => rw [if_neg hsz0] at h'; exact absurd h' (by simp)
  rw [if_pos hsz0] at h'
  simp only [Option.some.injEq, Prod.mk.injEq] at h'
  obtain ⟨rfl, rfl, rfl, rfl, rfl, rfl⟩ := h'
  clear h
  have hsz : s.size ≤ 9223372036854775807 := by omega
  obtain ⟨ji3, hji3⟩ : ∃ j_ : Int, (mx a1 0) = j_ := ⟨_, rfl⟩
  rw [hji3] at ht
  have hji3_ : (if a1 < 0 then 0 else a1) = ji3 := hji3
  obtain ⟨ji4, hji4⟩ : ∃ j_ : Int, (mn ji3 8) = j_ := ⟨_, rfl⟩
  rw [hji4] at ht
  have hji4_ : (if 8 < ji3 then 8 else ji3) = ji4 := hji4
  clear hji3 hji4
  have A_TAKE := Aside0.mk ht
  clear ht
  have hu := Try.underlying32
  have HI0 := Aside0.mk hI
  have HK := Aside0.mk (KeepBut.refl w g none)
  clear hI
  have HB := Aside0.mk hB
  clear hB
  have kb := fun W => print_bytes (P := Try.prog) 9 49 5 Try.underlying9 Try.underlying49 Try.underlying5 s W
  go_enter Try.func29, Try.ntmps29
  go_wp2_with (first | (go_at_call 38; (with_reducible refine (octet_In_Take.calls g _ _ _ _ _ _ _ _ _ _ _ _ w0 _ (by repeat (first | (with_reducible first | exact HI0.out | apply IsS68.alloc | apply IsS68.drewN | apply IsS68.drew | apply IsS68.set_0 | apply IsS68.set_1 | apply IsS68.set_2 | apply IsS68.set_3 | apply IsS68.set_4) | exact HI0.out)) (by repeat (first | (with_reducible first | exact HB.out | apply below_alloc | apply pw_below_drewN | apply below_drew1 | refine below_set ?_ (IsS68.ge HI0.out)) | exact HB.out)) A_TAKE.out).mono ?_); rintro e w8 ⟨rfl, hi, hb, hk⟩; have n0_ := Aside0.mk hi; have n1_ := Aside0.mk (KeepBut.trans (by repeat (first | (with_reducible first | exact HK.out | apply KeepBut.set_ | apply keep_drewN | apply keep_drew | apply keep_alloc) | exact HK.out)) hk (.inl rfl)); have n2_ := Aside0.mk hb; clear HI0 HK HB; have HI0 := n0_; have HK := n1_; have HB := n2_; clear n0_ n1_ n2_ hi hb hk; (try clear hc0); (try clear hc1); (try clear hc2); (try clear hc3); (try clear hc4); (try clear hf0); (try clear hf1); (try clear hf2); (try clear hf3); (try clear hf4)))
  have hbl : (bytesOf s).length = s.size := bytesOf_length s
  have HBL := Aside0.mk hbl
  clear hbl
  have HSZ := Aside0.mk hsz0
  go_loop [5, 6, 7, 15] (fun n i0 c i => ∃ k : Nat, k ≤ s.size ∧ i = .int .i64 k ∧ n = .int .u64 (smallOf (bytesOf s) k)) (fun _ _ _ i => s.size - (intOf i).toNat)
  case atStart => exact ⟨0, Nat.zero_le _, rfl, rfl⟩
  case round =>
    obtain ⟨k, hk, rfl, rfl⟩ := hrel
    by_cases hlt : k < s.size
    · have hk8 : 8 * (k : Int) ≤ 56 := by have := HSZ.out; omega
      have hcell : (Lib.bytesWorld w8 5 s).cell? ⟨w8.heap.size, k, none⟩ = some (.int .u8 ((bytesOf s).getD k 0)) := by
        rw [Lib.bytesWorld_cell _ _ _ _ hlt]
        have h' : k < s.data.toList.length := by rw [data_length]; exact hlt
        simp [bytesOf, List.getD_eq_getElem?_getD, List.getElem?_eq_getElem h']
      have HCB := Aside0.mk (u64_byte _ (byte_getD s k))
      generalize hc : (bytesOf s).getD k 0 = c at hcell HCB
      have hsn : smallOf (bytesOf s) (k + 1) = Go.bits .or .u64 (smallOf (bytesOf s) k) (IntKind.u64.wrap (c * 2 ^ (8 * k))) := by
        rw [smallOf, hc]
      have HSN := Aside0.mk hsn
      clear hsn hc
      generalize smallOf (bytesOf s) k = n0 at HSN ⊢
      have hce : IntKind.u64.wrap c = c := HCB.out
      go_wp2
      go_round
      case rel => exact ⟨k + 1, by omega, by go_num, by rw [HSN.out]⟩
      case measure => simp [intOf]; omega
    · have hk' : k = s.size := by omega
      subst hk'
      go_wp2
      go_ret
      have HI1 := Aside0.mk (IsS68.below HI0.out (bytes_below (Below.refl _ _) (Nat.le_refl _) 5 s))
      have HK1 := Aside0.mk (KeepBut.trans HK.out (KeepBut.of_below (bytes_below (Below.refl _ _) (Nat.le_refl _) 5 s) g none) (.inl rfl))
      have HB1 := Aside0.mk (bytes_below HB.out HB.out.size 5 s)
      exact ⟨rfl, HI1.out, HB1.out, HK1.out⟩


-- NOT PRINTED: function 5 (diacriticlaw01_OctetNumbers)

/-! ### diacriticref16_Step: function 47 -/
mutual
def diacriticref16_Step.l0 : Nat → Int → Int → Int → Option (Int)
  | 0, _, _, _ => none
  | k + 1, x0, x1, x5 => if x5 ≥ 0 then (diacriticref16_Step.l1 k x0 x1 x5 (IntKind.u64.wrap (x1)) 0) else (some x0)
def diacriticref16_Step.l1 : Nat → Int → Int → Int → Int → Int → Option (Int)
  | 0, _, _, _, _, _ => none
  | k + 1, x0, x1, x5, x6, x7 => if x7 < x5 then (diacriticref16_Step.l1 k x0 x1 x5 (IntKind.u64.wrap (Int.tdiv x6 2)) (wrap64 (x7 + 1))) else (if (Int.tmod (IntKind.u64.wrap ((IntKind.u64.wrap (Int.tdiv x0 2147483648)) + x6)) 2) = 1 then (diacriticref16_Step.l0 k (Go.bits .xor .u64 (Int.tmod (IntKind.u64.wrap (x0 * 2)) 4294967296) 79764919) x1 (wrap64 (x5 - 1))) else (diacriticref16_Step.l0 k (Int.tmod (IntKind.u64.wrap (x0 * 2)) 4294967296) x1 (wrap64 (x5 - 1))))
end
def diacriticref16_Step.f (k : Nat) (a0 : Int) (a1 : Int) : Option (Int) := diacriticref16_Step.l0 k a0 a1 7
theorem diacriticref16_Step.mono_l : ∀ k, (∀ y0 y1 y2, LeO (diacriticref16_Step.l0 k y0 y1 y2) (diacriticref16_Step.l0 (k + 1) y0 y1 y2)) ∧ (∀ y0 y1 y2 y3 y4, LeO (diacriticref16_Step.l1 k y0 y1 y2 y3 y4) (diacriticref16_Step.l1 (k + 1) y0 y1 y2 y3 y4))
  | 0 => ⟨fun _ _ _ r h => by simp [diacriticref16_Step.l0] at h, fun _ _ _ _ _ r h => by simp [diacriticref16_Step.l1] at h⟩
  | k + 1 => by
    obtain ⟨ih0, ih1⟩ := diacriticref16_Step.mono_l k
    refine ⟨?_, ?_⟩
    · intro y0 y1 y2
      unfold diacriticref16_Step.l0
      repeat' first
      | (with_reducible exact ih0 _ _ _)
      | (with_reducible exact ih1 _ _ _ _ _)
      | (with_reducible exact LeO.refl _)
      | (with_reducible exact LeO.none _)
      | (with_reducible refine LeO.ite ?_ ?_)
      | (with_reducible refine LeO.bind ?_ (fun _ => ?_))
      | exact ih0 _ _ _
      | exact ih1 _ _ _ _ _
      | exact LeO.none _
      | refine LeO.ite ?_ ?_
      | refine LeO.bind ?_ (fun _ => ?_)
    · intro y0 y1 y2 y3 y4
      unfold diacriticref16_Step.l1
      repeat' first
      | (with_reducible exact ih0 _ _ _)
      | (with_reducible exact ih1 _ _ _ _ _)
      | (with_reducible exact LeO.refl _)
      | (with_reducible exact LeO.none _)
      | (with_reducible refine LeO.ite ?_ ?_)
      | (with_reducible refine LeO.bind ?_ (fun _ => ?_))
      | exact ih0 _ _ _
      | exact ih1 _ _ _ _ _
      | exact LeO.none _
      | refine LeO.ite ?_ ?_
      | refine LeO.bind ?_ (fun _ => ?_)
theorem diacriticref16_Step.mono : ∀ a0 a1 k, LeO (diacriticref16_Step.f k a0 a1) (diacriticref16_Step.f (k + 1) a0 a1) := by
  intro a0 a1 k
  obtain ⟨ih0, ih1⟩ := diacriticref16_Step.mono_l k
  unfold diacriticref16_Step.f
  repeat' first
      | (with_reducible exact ih0 _ _ _)
      | (with_reducible exact ih1 _ _ _ _ _)
      | (with_reducible exact LeO.refl _)
      | (with_reducible exact LeO.none _)
      | (with_reducible refine LeO.ite ?_ ?_)
      | (with_reducible refine LeO.bind ?_ (fun _ => ?_))
      | exact ih0 _ _ _
      | exact ih1 _ _ _ _ _
      | exact LeO.none _
      | refine LeO.ite ?_ ?_
      | refine LeO.bind ?_ (fun _ => ?_)
set_option maxHeartbeats 8000000 in
set_option maxRecDepth 100000 in
theorem diacriticref16_Step.calls (k : Nat) (a0 : Int) (a1 : Int) (r : Int) (w : World) (h : diacriticref16_Step.f k a0 a1 = some r) :
    Calls Try.prog 47 #[.int .u64 a0, .int .u8 a1] w fun e w' => e = .returned (.int .u64 r) ∧ Drawn0 w w' := by
  have H : (diacriticref16_Step.l0 k a0 a1 7) = some r := h
  clear h
  have H' := Aside0.mk H
  clear H
  go_enter Try.func47, Try.ntmps47
  go_wp2
  go_loopg [0, 5] k (fun kq v0 v5 w' => ∃ (x0_1 : Int) (x5_1 : Int), v0 = .int .u64 x0_1 ∧ v5 = .int .i64 x5_1 ∧ Aside0 (diacriticref16_Step.l0 kq x0_1 a1 x5_1 = some r) ∧ Aside0 (kq ≤ k) ∧ Drawn0 w w')
  case atStart => exact ⟨(a0), (7), (by first | rfl | (simp; done) | (simp [*]; done)), (by first | rfl | (simp; done) | (simp [*]; done)), H', ⟨Nat.le_refl _⟩, by repeat (first | exact Drawn0.refl _ | apply Drawn0.step)⟩
  case round =>
    clear H'
    try clear p2
    obtain ⟨x0_1, x5_1, rfl, rfl, HA, HK1, ⟨m1, rfl⟩⟩ := hrel
    cases gk with
    | zero => exact absurd HA.out (by simp [diacriticref16_Step.l0])
    | succ k1 =>
      have H := HA.out
      clear HA
      simp only [diacriticref16_Step.l0] at H
      by_cases c3 : x5_1 ≥ 0
      · rw [if_pos c3] at H
        have c3b0 : decide (0 ≤ x5_1) = true := decide_eq_true c3
        clear c3
        have H' := Aside0.mk H
        clear H
        go_wp2
        go_loopg [6, 7] k1 (fun kq v6 v7 w' => ∃ (x6_2 : Int) (x7_2 : Int), v6 = .int .u64 x6_2 ∧ v7 = .int .i64 x7_2 ∧ Aside0 (diacriticref16_Step.l1 kq x0_1 a1 x5_1 x6_2 x7_2 = some r) ∧ Aside0 (kq ≤ k1) ∧ Drawn0 w w')
        case atStart => exact ⟨(IntKind.u64.wrap (a1)), (0), (by first | rfl | (simp; done) | (simp [*]; done)), (by first | rfl | (simp; done) | (simp [*]; done)), H', ⟨Nat.le_refl _⟩, by repeat (first | exact Drawn0.refl _ | apply Drawn0.step)⟩
        case round =>
          clear H'
          try clear p2
          try clear c3
          try clear c3b0
          try clear p2
          obtain ⟨x6_2, x7_2, rfl, rfl, HA, HK2, ⟨m2, rfl⟩⟩ := hrel
          cases gk with
          | zero => exact absurd HA.out (by simp [diacriticref16_Step.l1])
          | succ k2 =>
            have H := HA.out
            clear HA
            simp only [diacriticref16_Step.l1] at H
            by_cases c4 : x7_2 < x5_1
            · rw [if_pos c4] at H
              have c4b0 : decide (x7_2 < x5_1) = true := decide_eq_true c4
              clear c4
              have H' := Aside0.mk H
              clear H
              go_wp2
              go_roundg k2
              case measure => have := HK1.out; have := HK2.out; omega
              case rel => exact ⟨(IntKind.u64.wrap (Int.tdiv x6_2 2)), (wrap64 (x7_2 + 1)), (by first | rfl | (simp; done) | (simp [*]; done)), (by first | rfl | (simp; done) | (simp [*]; done)), H', ⟨by have := HK1.out; have := HK2.out; omega⟩, by repeat (first | exact Drawn0.refl _ | apply Drawn0.step)⟩
            · rw [if_neg c4] at H
              have c4b0 : decide (x7_2 < x5_1) = false := decide_eq_false c4
              clear c4
              by_cases c5 : (Int.tmod (IntKind.u64.wrap ((IntKind.u64.wrap (Int.tdiv x0_1 2147483648)) + x6_2)) 2) = 1
              · rw [if_pos c5] at H
                have c5b0 : ((Int.tmod (IntKind.u64.wrap ((IntKind.u64.wrap (Int.tdiv x0_1 2147483648)) + x6_2)) 2) == 1) = true := beq_iff_eq.mpr c5
                have c5b1 : ((Int.tmod (IntKind.u64.wrap ((IntKind.u64.wrap (Int.tdiv x0_1 2147483648)) + x6_2)) 2) != 1) = false := bne_eq_false_iff_eq.mpr c5
                clear c5
                have H' := Aside0.mk H
                clear H
                go_wp2
                go_roundg k2
                case measure => have := HK1.out; have := HK2.out; omega
                case rel => exact ⟨(Go.bits .xor .u64 (Int.tmod (IntKind.u64.wrap (x0_1 * 2)) 4294967296) 79764919), (wrap64 (x5_1 - 1)), (by first | rfl | (simp; done) | (simp [*]; done)), (by first | rfl | (simp; done) | (simp [*]; done)), H', ⟨by have := HK1.out; have := HK2.out; omega⟩, by repeat (first | exact Drawn0.refl _ | apply Drawn0.step)⟩
              · rw [if_neg c5] at H
                have c5b0 : ((Int.tmod (IntKind.u64.wrap ((IntKind.u64.wrap (Int.tdiv x0_1 2147483648)) + x6_2)) 2) == 1) = false := beq_eq_false_iff_ne.mpr c5
                have c5b1 : ((Int.tmod (IntKind.u64.wrap ((IntKind.u64.wrap (Int.tdiv x0_1 2147483648)) + x6_2)) 2) != 1) = true := bne_iff_ne.mpr c5
                have H' := Aside0.mk H
                clear H
                go_wp2
                go_roundg k2
                case measure => have := HK1.out; have := HK2.out; omega
                case rel => exact ⟨(Int.tmod (IntKind.u64.wrap (x0_1 * 2)) 4294967296), (wrap64 (x5_1 - 1)), (by first | rfl | (simp; done) | (simp [*]; done)), (by first | rfl | (simp; done) | (simp [*]; done)), H', ⟨by have := HK1.out; have := HK2.out; omega⟩, by repeat (first | exact Drawn0.refl _ | apply Drawn0.step)⟩
      · rw [if_neg c3] at H
        have c3b0 : decide (0 ≤ x5_1) = false := decide_eq_false c3
        clear c3
        obtain rfl := Option.some.inj H
        go_wp2
        go_ret
        exact ⟨by first | rfl | (simp; done) | (simp [*]; done), by repeat (first | exact Drawn0.refl _ | apply Drawn0.step)⟩

/-! ### diacriticref16_Of: function 31 -/
def diacriticref16_Of.l0 : Nat → Int → ByteArray → Int → Option (Int)
  | 0, _, _, _ => none
  | k + 1, x0, x1, x5 => if x5 < (x1.size : Int) then (if 0 ≤ x5 then ((diacriticref16_Step.f k x0 (bt x1 x5)).bind fun t236 => (diacriticref16_Of.l0 k t236 x1 (wrap64 (x5 + 1)))) else (none)) else (some x0)
def diacriticref16_Of.f (k : Nat) (a0 : Int) (a1 : ByteArray) : Option (Int) := diacriticref16_Of.l0 k a0 a1 0
theorem diacriticref16_Of.mono_l : ∀ k, (∀ y0 y1 y2, LeO (diacriticref16_Of.l0 k y0 y1 y2) (diacriticref16_Of.l0 (k + 1) y0 y1 y2))
  | 0 => fun _ _ _ r h => by simp [diacriticref16_Of.l0] at h
  | k + 1 => by
    have ih0 := diacriticref16_Of.mono_l k
    · intro y0 y1 y2
      unfold diacriticref16_Of.l0
      repeat' first
      | (with_reducible exact ih0 _ _ _)
      | (with_reducible exact diacriticref16_Step.mono _ _ _)
      | (with_reducible exact LeO.refl _)
      | (with_reducible exact LeO.none _)
      | (with_reducible refine LeO.ite ?_ ?_)
      | (with_reducible refine LeO.bind ?_ (fun _ => ?_))
      | exact ih0 _ _ _
      | exact diacriticref16_Step.mono _ _ _
      | exact LeO.none _
      | refine LeO.ite ?_ ?_
      | refine LeO.bind ?_ (fun _ => ?_)
theorem diacriticref16_Of.mono : ∀ a0 a1 k, LeO (diacriticref16_Of.f k a0 a1) (diacriticref16_Of.f (k + 1) a0 a1) := by
  intro a0 a1 k
  have ih0 := diacriticref16_Of.mono_l k
  unfold diacriticref16_Of.f
  repeat' first
      | (with_reducible exact ih0 _ _ _)
      | (with_reducible exact diacriticref16_Step.mono _ _ _)
      | (with_reducible exact LeO.refl _)
      | (with_reducible exact LeO.none _)
      | (with_reducible refine LeO.ite ?_ ?_)
      | (with_reducible refine LeO.bind ?_ (fun _ => ?_))
      | exact ih0 _ _ _
      | exact diacriticref16_Step.mono _ _ _
      | exact LeO.none _
      | refine LeO.ite ?_ ?_
      | refine LeO.bind ?_ (fun _ => ?_)
set_option maxHeartbeats 8000000 in
set_option maxRecDepth 100000 in
theorem diacriticref16_Of.calls (k : Nat) (a0 : Int) (a1 : ByteArray) (r : Int) (w : World) (h : diacriticref16_Of.f k a0 a1 = some r) :
    Calls Try.prog 31 #[.int .u64 a0, .string a1] w fun e w' => e = .returned (.int .u64 r) ∧ Drawn0 w w' := by
  have H : (diacriticref16_Of.l0 k a0 a1 0) = some r := h
  clear h
  have H' := Aside0.mk H
  clear H
  go_enter Try.func31, Try.ntmps31
  go_wp2
  go_loopg [0, 5] k (fun kq v0 v5 w' => ∃ (x0_1 : Int) (x5_1 : Int), v0 = .int .u64 x0_1 ∧ v5 = .int .i64 x5_1 ∧ Aside0 (diacriticref16_Of.l0 kq x0_1 a1 x5_1 = some r) ∧ Aside0 (kq ≤ k) ∧ Drawn0 w w')
  case atStart => exact ⟨(a0), (0), (by first | rfl | (simp; done) | (simp [*]; done)), (by first | rfl | (simp; done) | (simp [*]; done)), H', ⟨Nat.le_refl _⟩, by repeat (first | exact Drawn0.refl _ | apply Drawn0.step)⟩
  case round =>
    clear H'
    try clear p2
    obtain ⟨x0_1, x5_1, rfl, rfl, HA, HK1, ⟨m1, rfl⟩⟩ := hrel
    cases gk with
    | zero => exact absurd HA.out (by simp [diacriticref16_Of.l0])
    | succ k1 =>
      have H := HA.out
      clear HA
      simp only [diacriticref16_Of.l0] at H
      by_cases c3 : x5_1 < (a1.size : Int)
      · rw [if_pos c3] at H
        have c3b0 : decide (x5_1 < (a1.size : Int)) = true := decide_eq_true c3
        clear c3
        by_cases c4 : 0 ≤ x5_1
        · rw [if_pos c4] at H
          have c4b0 : decide (0 ≤ x5_1) = true := decide_eq_true c4
          clear c4
          replace H := Option.bind_eq_some_iff.mp H
          obtain ⟨t236, A60, H⟩ := H
          replace H : (diacriticref16_Of.l0 k1 t236 a1 (wrap64 (x5_1 + 1))) = some r := H
          have A6 := Aside0.mk A60
          clear A60
          have H' := Aside0.mk H
          clear H
          have p5 : 0 ≤ (x5_1 : Int) := of_decide_eq_true (by first | (with_reducible assumption) | assumption)
          have q5 : x5_1 < (a1.size : Int) := of_decide_eq_true (by first | (with_reducible assumption) | assumption)
          have hx5 := bt_at a1 x5_1
          replace p5 := eq_true p5
          replace q5 := eq_true q5
          go_wp2_with (first | ((with_reducible refine gate_callee (f := 47) rfl ?_); refine goesL_ (some 16) rfl rfl Try.func47 (by kernel_rfl) rfl #[.int .u64 x0_1, .int .u8 (bt a1 x5_1)] rfl (by (try simp only [List.map_toArray, List.map_cons, List.map_nil]); first | done | rfl | (simp only [List.length_drop, List.length_take]; rfl)) ?_; (with_reducible refine (diacriticref16_Step.calls k1 x0_1 (bt a1 x5_1) t236 _ A6.out).mono ?_); rintro e w' ⟨rfl, ⟨nd, rfl⟩⟩; refine ⟨_, rfl, ?_⟩))
          go_roundg k1
          case measure => have := HK1.out; omega
          case rel => exact ⟨(t236), (wrap64 (x5_1 + 1)), (by first | rfl | (simp; done) | (simp [*]; done)), (by first | rfl | (simp; done) | (simp [*]; done)), H', ⟨by have := HK1.out; omega⟩, by repeat (first | exact Drawn0.refl _ | apply Drawn0.step)⟩
        · rw [if_neg c4] at H
          exact absurd H (by simp)
      · rw [if_neg c3] at H
        have c3b0 : decide (x5_1 < (a1.size : Int)) = false := decide_eq_false c3
        clear c3
        obtain rfl := Option.some.inj H
        go_wp2
        go_ret
        exact ⟨by first | rfl | (simp; done) | (simp [*]; done), by repeat (first | exact Drawn0.refl _ | apply Drawn0.step)⟩

end Go.Proofs.Ytkcckhlkaknggaa.PAll
