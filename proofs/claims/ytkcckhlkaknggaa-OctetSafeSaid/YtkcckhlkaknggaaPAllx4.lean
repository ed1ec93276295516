/- Written by a program of this session: functions of the Go program as Lean functions, and the walks that tie them to it. -/
import Derived.Test.YtkcckhlkaknggaaPAllx0
import Derived.Test.YtkcckhlkaknggaaPAllx2
import Derived.Test.YtkcckhlkaknggaaPAllx3
namespace Go.Proofs.Ytkcckhlkaknggaa.PAll
open Go.RowKit Go.Proofs.YtkcckhlkaknggaaW.PrintWords Go.Proofs.YtkcckhlkaknggaaW.PrintLast Go.Proofs.YtkcckhlkaknggaaW.PrintMore
attribute [local go_sem] max2_int min2_int max_two min_two max_three min_three max_four min_four   -- for this text's walks alone
set_option linter.unusedVariables false
set_option linter.unusedSimpArgs false

/-! ### octet_In_Safe: function 15 -/
/-- Where the first byte of 128 or more stands. -/
def badAt : List Int → Nat → Option Nat
  | [], _ => none
  | c :: l, i => if 128 ≤ c then some i else badAt l (i + 1)
def safeStep (n c : Int) : Int := Go.bits .or .i64 (wrap64 (n * 128)) c
def safeOf (l : List Int) : Int := l.foldl safeStep 0
theorem safeOf_snoc (l : List Int) (c : Int) : safeOf (l ++ [c]) = safeStep (safeOf l) c := by simp [safeOf]
theorem badAt_none : ∀ (l : List Int) (i : Nat), (∀ j, j < l.length → l.getD j 0 < 128) → badAt l i = none
  | [], _, _ => rfl
  | c :: l, i, h => by
    have h0 := h 0 (by simp)
    simp only [List.getD_cons_zero] at h0
    rw [badAt, if_neg (by omega)]
    exact badAt_none l (i + 1) (fun j hj => by have := h (j + 1) (by simp; omega); simpa using this)
theorem badAt_some : ∀ (l : List Int) (i k : Nat), (∀ j, j < k → l.getD j 0 < 128) → k < l.length → 128 ≤ l.getD k 0 → badAt l i = some (i + k)
  | [], _, _, _, h, _ => by simp at h
  | c :: l, i, 0, _, _, h => by
    simp only [List.getD_cons_zero] at h
    rw [badAt, if_pos h]; rfl
  | c :: l, i, k + 1, h, hk, hc => by
    have h0 := h 0 (by omega)
    simp only [List.getD_cons_zero] at h0
    rw [badAt, if_neg (by omega), badAt_some l (i + 1) k (fun j hj => by have := h (j + 1) (by omega); simpa using this) (by simpa using hk) (by simpa using hc)]
    congr 1; omega
def octet_In_Safe.f (s0_0 : ByteArray) (s0_1 : Int) (s0_2 : Int) (s0_3 : Int) (s0_4 : Int) : Option (Int × ByteArray × Int × Int × Int × Int) :=
  (octet_In_Take.f s0_0 s0_1 s0_2 s0_3 s0_4 4).bind fun t =>
    if t.1.size ≤ 4 ∧ 0 ≤ s0_1 ∧ s0_1 ≤ 140737488355328 ∧ 0 ≤ s0_2 ∧ s0_2 ≤ 140737488355328 then
      (match badAt (bytesOf t.1) 0 with
      | none => some (safeOf (bytesOf t.1), t.2)
      | some i => (octet_In_Fail.f t.2.1 t.2.2.1 t.2.2.2.1 t.2.2.2.2.1 t.2.2.2.2.2 1 (s0_2 + s0_1 + i)).bind fun u => some (0, u))
    else none
set_option maxHeartbeats 8000000 in
set_option maxRecDepth 100000 in
theorem octet_In_Safe.calls (g : Nat) (s0_0 : ByteArray) (s0_1 : Int) (s0_2 : Int) (s0_3 : Int) (s0_4 : Int) (r1 : Int) (r2 : ByteArray) (r3 : Int) (r4 : Int) (r5 : Int) (r6 : Int) (w0 w : World) (hI : IsS68 w0 w g s0_0 s0_1 s0_2 s0_3 s0_4) (hB : Below w0.heap.size w0 w) (h : octet_In_Safe.f s0_0 s0_1 s0_2 s0_3 s0_4 = some (r1, r2, r3, r4, r5, r6)) :
    Calls Try.prog 15 #[.pointer (some ⟨g, 0, none⟩)] w fun e w' => e = .returned (.int .i64 r1) ∧ IsS68 w0 w' g r2 r3 r4 r5 r6 ∧ Below w0.heap.size w0 w' ∧ KeepBut w w' g none := by
  unfold octet_In_Safe.f at h
  replace h := Option.bind_eq_some_iff.mp h
  obtain ⟨⟨s, s2, s3, s4, s5, s6⟩, ht, h⟩ := h
  dsimp only at h
  by_cases hg : s.size ≤ 4 ∧ 0 ≤ s0_1 ∧ s0_1 ≤ 140737488355328 ∧ 0 ≤ s0_2 ∧ s0_2 ≤ 140737488355328
  case neg => rw [if_neg hg] at h; exact absurd h (by simp)
  rw [if_pos hg] at h
  obtain ⟨hsz0, g1, g2, g3, g4⟩ := hg
  have H := Aside0.mk h
  clear h
  have hsz : s.size ≤ 9223372036854775807 := by omega
  have A_TAKE := Aside0.mk ht
  clear ht
  have A_AT : Aside0 (octet_In_At.f s0_0 s0_1 s0_2 s0_3 s0_4 = some (s0_2 + s0_1, s0_0, s0_1, s0_2, s0_3, s0_4)) := ⟨by
    unfold octet_In_At.f
    rw [show wrap64 (s0_2 + s0_1) = s0_2 + s0_1 by unfold wrap64; omega]⟩
  have hu := Try.underlying32
  have HI0 := Aside0.mk hI
  have HK := Aside0.mk (KeepBut.refl w g none)
  clear hI
  have HB := Aside0.mk hB
  clear hB
  have kb := fun W => print_bytes (P := Try.prog) 9 49 5 Try.underlying9 Try.underlying49 Try.underlying5 s W
  go_enter Try.func15, Try.ntmps15
  go_wp2_with (first | (go_at_call 36; (with_reducible refine (octet_In_At.calls g _ _ _ _ _ _ _ _ _ _ _ w0 _ (by repeat (first | (with_reducible first | exact HI0.out | apply IsS68.alloc | apply IsS68.drewN | apply IsS68.drew | apply IsS68.set_0 | apply IsS68.set_1 | apply IsS68.set_2 | apply IsS68.set_3 | apply IsS68.set_4) | exact HI0.out)) (by repeat (first | (with_reducible first | exact HB.out | apply below_alloc | apply pw_below_drewN | apply below_drew1 | refine below_set ?_ (IsS68.ge HI0.out)) | exact HB.out)) A_AT.out).mono ?_); rintro e w6 ⟨rfl, hi, hb, hk⟩; have n0_ := Aside0.mk hi; have n1_ := Aside0.mk (KeepBut.trans (by repeat (first | (with_reducible first | exact HK.out | apply KeepBut.set_ | apply keep_drewN | apply keep_drew | apply keep_alloc) | exact HK.out)) hk (.inl rfl)); have n2_ := Aside0.mk hb; clear HI0 HK HB; have HI0 := n0_; have HK := n1_; have HB := n2_; clear n0_ n1_ n2_ hi hb hk) | (go_at_call 38; (with_reducible refine (octet_In_Take.calls g _ _ _ _ _ _ _ _ _ _ _ _ w0 _ (by repeat (first | (with_reducible first | exact HI0.out | apply IsS68.alloc | apply IsS68.drewN | apply IsS68.drew | apply IsS68.set_0 | apply IsS68.set_1 | apply IsS68.set_2 | apply IsS68.set_3 | apply IsS68.set_4) | exact HI0.out)) (by repeat (first | (with_reducible first | exact HB.out | apply below_alloc | apply pw_below_drewN | apply below_drew1 | refine below_set ?_ (IsS68.ge HI0.out)) | exact HB.out)) A_TAKE.out).mono ?_); rintro e w8 ⟨rfl, hi, hb, hk⟩; have n0_ := Aside0.mk hi; have n1_ := Aside0.mk (KeepBut.trans (by repeat (first | (with_reducible first | exact HK.out | apply KeepBut.set_ | apply keep_drewN | apply keep_drew | apply keep_alloc) | exact HK.out)) hk (.inl rfl)); have n2_ := Aside0.mk hb; clear HI0 HK HB; have HI0 := n0_; have HK := n1_; have HB := n2_; clear n0_ n1_ n2_ hi hb hk; (try clear hc0); (try clear hc1); (try clear hc2); (try clear hc3); (try clear hc4); (try clear hf0); (try clear hf1); (try clear hf2); (try clear hf3); (try clear hf4)))
  have hbl : (bytesOf s).length = s.size := bytesOf_length s
  have HBL := Aside0.mk hbl
  clear hbl
  have HSZ := Aside0.mk hsz0
  go_loop [4, 5, 6, 13] (fun n i0 c i => ∃ k : Nat, k ≤ s.size ∧ i = .int .i64 k ∧ n = .int .i64 (safeOf ((bytesOf s).take k)) ∧ Aside0 (∀ j, j < k → (bytesOf s).getD j 0 < 128)) (fun _ _ _ i => s.size - (intOf i).toNat)
  case atStart => exact ⟨0, Nat.zero_le _, rfl, rfl, ⟨fun j hj => by omega⟩⟩
  case round =>
    obtain ⟨k, hk, rfl, rfl, HJ⟩ := hrel
    by_cases hlt : k < s.size
    · have hcell : (Lib.bytesWorld w8 5 s).cell? ⟨w8.heap.size, k, none⟩ = some (.int .u8 ((bytesOf s).getD k 0)) := by
        rw [Lib.bytesWorld_cell _ _ _ _ hlt]
        have h' : k < s.data.toList.length := by rw [data_length]; exact hlt
        simp [bytesOf, List.getD_eq_getElem?_getD, List.getElem?_eq_getElem h']
      obtain ⟨hc0, hc1⟩ := byte_getD s k
      by_cases h128 : 128 ≤ (bytesOf s).getD k 0
      · have HB1 := Aside0.mk (badAt_some (bytesOf s) 0 k HJ.out (by rw [HBL.out]; exact hlt) h128)
        have hu' := H.out
        rw [HB1.out, Nat.zero_add] at hu'
        dsimp only at hu'
        clear H HB1 HJ HBL
        replace hu' := Option.bind_eq_some_iff.mp hu'
        obtain ⟨⟨u2, u3, u4, u5, u6⟩, hf, hu'⟩ := hu'
        simp only [Option.some.injEq, Prod.mk.injEq] at hu'
        obtain ⟨rfl, rfl, rfl, rfl, rfl, rfl⟩ := hu'
        have A_FAIL := Aside0.mk hf
        clear hf
        have HI1 := Aside0.mk (IsS68.below HI0.out (bytes_below (Below.refl _ _) (Nat.le_refl _) 5 s))
        have HK1 := Aside0.mk (KeepBut.trans HK.out (KeepBut.of_below (bytes_below (Below.refl _ _) (Nat.le_refl _) 5 s) g none) (.inl rfl))
        have HB1 := Aside0.mk (bytes_below HB.out HB.out.size 5 s)
        clear HI0 HK HB
        have HI0 := HI1
        have HK := HK1
        have HB := HB1
        clear HI1 HK1 HB1
        generalize hc : (bytesOf s).getD k 0 = c at *
        clear hc
        generalize safeOf ((bytesOf s).take k) = n0 at *
        go_wp2_with (first | (go_at_call 37; (with_reducible refine (octet_In_Fail.calls g _ _ _ _ _ _ _ _ _ _ _ _ w0 _ (by repeat (first | (with_reducible first | exact HI0.out | apply IsS68.alloc | apply IsS68.drewN | apply IsS68.drew | apply IsS68.set_0 | apply IsS68.set_1 | apply IsS68.set_2 | apply IsS68.set_3 | apply IsS68.set_4) | exact HI0.out)) (by repeat (first | (with_reducible first | exact HB.out | apply below_alloc | apply pw_below_drewN | apply below_drew1 | refine below_set ?_ (IsS68.ge HI0.out)) | exact HB.out)) A_FAIL.out).mono ?_); rintro e w7 ⟨rfl, hi, hb, hk⟩; have n0_ := Aside0.mk hi; have n1_ := Aside0.mk (KeepBut.trans (by repeat (first | (with_reducible first | exact HK.out | apply KeepBut.set_ | apply keep_drewN | apply keep_drew | apply keep_alloc) | exact HK.out)) hk (.inl rfl)); have n2_ := Aside0.mk hb; clear HI0 HK HB; have HI0 := n0_; have HK := n1_; have HB := n2_; clear n0_ n1_ n2_ hi hb hk; (try clear hc0); (try clear hc1); (try clear hc2); (try clear hc3); (try clear hc4); (try clear hf0); (try clear hf1); (try clear hf2); (try clear hf3); (try clear hf4); obtain ⟨HG_, hg_⟩ := HI0.out; have hc0 := cellS68_0 HG_; have hc1 := cellS68_1 HG_; have hc2 := cellS68_2 HG_; have hc3 := cellS68_3 HG_; have hc4 := cellS68_4 HG_; have hf0 := blk_frozen HG_ 0; have hf1 := blk_frozen HG_ 1; have hf2 := blk_frozen HG_ 2; have hf3 := blk_frozen HG_ 3; have hf4 := blk_frozen HG_ 4; clear HG_ hg_))
        go_ret
        exact ⟨rfl, by repeat (first | (with_reducible first | exact HI0.out | apply IsS68.alloc | apply IsS68.drewN | apply IsS68.drew | apply IsS68.set_0 | apply IsS68.set_1 | apply IsS68.set_2 | apply IsS68.set_3 | apply IsS68.set_4) | exact HI0.out), by repeat (first | (with_reducible first | exact HB.out | apply below_alloc | apply pw_below_drewN | apply below_drew1 | refine below_set ?_ (IsS68.ge HI0.out)) | exact HB.out), by repeat (first | (with_reducible first | exact HK.out | apply KeepBut.set_ | apply keep_drewN | apply keep_drew | apply keep_alloc) | exact HK.out)⟩
      · have hc2 : (bytesOf s).getD k 0 < 128 := by omega
        have HJ2 : Aside0 (∀ j, j < k + 1 → (bytesOf s).getD j 0 < 128) := ⟨fun j hj => by
          rcases Nat.lt_or_eq_of_le (Nat.le_of_lt_succ hj) with h1 | h1
          · exact HJ.out j h1
          · rw [h1]; exact hc2⟩
        have HCB := Aside0.mk (show IntKind.i64.wrap ((bytesOf s).getD k 0) = (bytesOf s).getD k 0 from IntWalk.i64_in _ (by omega))
        generalize hc : (bytesOf s).getD k 0 = c at hcell HCB hc0 hc1 hc2 h128
        have hsn : safeOf ((bytesOf s).take (k + 1)) = Go.bits .or .i64 (wrap64 (safeOf ((bytesOf s).take k) * 128)) c := by
          rw [take_snoc_rd _ _ (by rw [HBL.out]; exact hlt), safeOf_snoc, hc]; rfl
        have HSN := Aside0.mk hsn
        clear hsn hc
        generalize safeOf ((bytesOf s).take k) = n0 at HSN ⊢
        go_wp2
        go_round
        case rel => exact ⟨k + 1, by omega, by go_num, by rw [HSN.out], HJ2⟩
        case measure => simp [intOf]; omega
    · have hk' : k = s.size := by omega
      have HB1 := Aside0.mk (badAt_none (bytesOf s) 0 (fun j hj => HJ.out j (by rw [HBL.out] at hj; omega)))
      have hu' := H.out
      rw [HB1.out] at hu'
      simp only [Option.some.injEq, Prod.mk.injEq] at hu'
      obtain ⟨rfl, rfl, rfl, rfl, rfl, rfl⟩ := hu'
      clear H HB1 HJ
      rw [List.take_of_length_le (by rw [HBL.out]; omega)]
      go_wp2
      go_ret
      have HI1 := Aside0.mk (IsS68.below HI0.out (bytes_below (Below.refl _ _) (Nat.le_refl _) 5 s))
      have HK1 := Aside0.mk (KeepBut.trans HK.out (KeepBut.of_below (bytes_below (Below.refl _ _) (Nat.le_refl _) 5 s) g none) (.inl rfl))
      have HB1 := Aside0.mk (bytes_below HB.out HB.out.size 5 s)
      exact ⟨rfl, HI1.out, HB1.out, HK1.out⟩


/-! ### diacriticlaw01_OctetSafe: function 3 -/
mutual
def diacriticlaw01_OctetSafe.j0 : Nat → Int → ByteArray → Bool → Option (Bool)
  | 0, _, _, _ => none
  | k + 1, x0, x3, x35 => if x35 = true then (some false) else (diacriticlaw01_OctetSafe.l0 k x0 x3 0)
def diacriticlaw01_OctetSafe.l0 : Nat → Int → ByteArray → Int → Option (Bool)
  | 0, _, _, _ => none
  | k + 1, x0, x3, x36 => if x36 < 4 then (if 0 ≤ x36 then (if x36 < (x3.size : Int) then (if (bt x3 x36) ≥ 128 then (some false) else (diacriticlaw01_OctetSafe.l0 k x0 x3 (wrap64 (x36 + 1)))) else (none)) else (none)) else ((octet_Read.f x3).bind fun bt143 => ((diacriticlaw01_awake.f k).bind fun t149 => (if t149 = true then ((octet_In_Safe.f bt143.1 bt143.2.1 bt143.2.2.1 bt143.2.2.2.1 bt143.2.2.2.2).bind fun bt150 => (if (IntKind.u64.wrap (bt150.1)) = x0 then ((octet_In_Fault.f bt150.2.1 bt150.2.2.1 bt150.2.2.2.1 bt150.2.2.2.2.1 bt150.2.2.2.2.2).bind fun bt156 => ((api_Fault_Bad.f bt156.1 bt156.2.1).bind fun t163 => (some (!t163)))) else (some false))) else (some false))))
end
def diacriticlaw01_OctetSafe.f (k : Nat) (a0 : Int) : Option (Bool) := (octet_Safe.f a0).bind fun bt139 => (if a0 > 268435455 then ((diacriticlaw01_awake.f k).bind fun t141 => (if t141 = true then (if bt139.2 = true then (some false) else (some (bt139.1.toList == ([] : List UInt8)))) else (some false))) else (if bt139.2 = true then ((diacriticref01_Safe.f a0).bind fun t142 => (if bt139.1.toList = t142.toList then (diacriticlaw01_OctetSafe.j0 k a0 bt139.1 ((bt139.1.size : Int) != 4)) else (diacriticlaw01_OctetSafe.j0 k a0 bt139.1 true))) else (diacriticlaw01_OctetSafe.j0 k a0 bt139.1 true)))
theorem diacriticlaw01_OctetSafe.mono_l : ∀ k, (∀ y0 y1 y2, LeO (diacriticlaw01_OctetSafe.j0 k y0 y1 y2) (diacriticlaw01_OctetSafe.j0 (k + 1) y0 y1 y2)) ∧ (∀ y0 y1 y2, LeO (diacriticlaw01_OctetSafe.l0 k y0 y1 y2) (diacriticlaw01_OctetSafe.l0 (k + 1) y0 y1 y2))
  | 0 => ⟨fun _ _ _ r h => by simp [diacriticlaw01_OctetSafe.j0] at h, fun _ _ _ r h => by simp [diacriticlaw01_OctetSafe.l0] at h⟩
  | k + 1 => by
    obtain ⟨ih0, ih1⟩ := diacriticlaw01_OctetSafe.mono_l k
    refine ⟨?_, ?_⟩
    · intro y0 y1 y2
      unfold diacriticlaw01_OctetSafe.j0
      repeat' first
      | (with_reducible exact ih0 _ _ _)
      | (with_reducible exact ih1 _ _ _)
      | (with_reducible exact diacriticlaw01_awake.mono _)
      | (with_reducible exact LeO.refl _)
      | (with_reducible exact LeO.none _)
      | (with_reducible refine LeO.ite ?_ ?_)
      | (with_reducible refine LeO.bind ?_ (fun _ => ?_))
      | exact ih0 _ _ _
      | exact ih1 _ _ _
      | exact diacriticlaw01_awake.mono _
      | exact LeO.none _
      | refine LeO.ite ?_ ?_
      | refine LeO.bind ?_ (fun _ => ?_)
    · intro y0 y1 y2
      unfold diacriticlaw01_OctetSafe.l0
      repeat' first
      | (with_reducible exact ih0 _ _ _)
      | (with_reducible exact ih1 _ _ _)
      | (with_reducible exact diacriticlaw01_awake.mono _)
      | (with_reducible exact LeO.refl _)
      | (with_reducible exact LeO.none _)
      | (with_reducible refine LeO.ite ?_ ?_)
      | (with_reducible refine LeO.bind ?_ (fun _ => ?_))
      | exact ih0 _ _ _
      | exact ih1 _ _ _
      | exact diacriticlaw01_awake.mono _
      | exact LeO.none _
      | refine LeO.ite ?_ ?_
      | refine LeO.bind ?_ (fun _ => ?_)
theorem diacriticlaw01_OctetSafe.mono : ∀ a0 k, LeO (diacriticlaw01_OctetSafe.f k a0) (diacriticlaw01_OctetSafe.f (k + 1) a0) := by
  intro a0 k
  obtain ⟨ih0, ih1⟩ := diacriticlaw01_OctetSafe.mono_l k
  unfold diacriticlaw01_OctetSafe.f
  repeat' first
      | (with_reducible exact ih0 _ _ _)
      | (with_reducible exact ih1 _ _ _)
      | (with_reducible exact diacriticlaw01_awake.mono _)
      | (with_reducible exact LeO.refl _)
      | (with_reducible exact LeO.none _)
      | (with_reducible refine LeO.ite ?_ ?_)
      | (with_reducible refine LeO.bind ?_ (fun _ => ?_))
      | exact ih0 _ _ _
      | exact ih1 _ _ _
      | exact diacriticlaw01_awake.mono _
      | exact LeO.none _
      | refine LeO.ite ?_ ?_
      | refine LeO.bind ?_ (fun _ => ?_)
set_option maxHeartbeats 8000000 in
set_option maxRecDepth 100000 in
theorem diacriticlaw01_OctetSafe.calls (k : Nat) (a0 : Int) (r : Bool) (w : World) (h : diacriticlaw01_OctetSafe.f k a0 = some r) :
    Calls Try.prog 3 #[.int .u64 a0] w fun e w' => e = .returned (.bool r) ∧ Below w.heap.size w w' := by
  have HB := Aside0.mk (Below.refl w.heap.size w)
  have H : ((octet_Safe.f a0).bind fun bt139 => (if a0 > 268435455 then ((diacriticlaw01_awake.f k).bind fun t141 => (if t141 = true then (if bt139.2 = true then (some false) else (some (bt139.1.toList == ([] : List UInt8)))) else (some false))) else (if bt139.2 = true then ((diacriticref01_Safe.f a0).bind fun t142 => (if bt139.1.toList = t142.toList then (diacriticlaw01_OctetSafe.j0 k a0 bt139.1 ((bt139.1.size : Int) != 4)) else (diacriticlaw01_OctetSafe.j0 k a0 bt139.1 true))) else (diacriticlaw01_OctetSafe.j0 k a0 bt139.1 true)))) = some r := h
  clear h
  replace H := Option.bind_eq_some_iff.mp H
  obtain ⟨⟨t139, t140⟩, A20, H⟩ := H
  replace H : (if a0 > 268435455 then ((diacriticlaw01_awake.f k).bind fun t141 => (if t141 = true then (if t140 = true then (some false) else (some (t139.toList == ([] : List UInt8)))) else (some false))) else (if t140 = true then ((diacriticref01_Safe.f a0).bind fun t142 => (if t139.toList = t142.toList then (diacriticlaw01_OctetSafe.j0 k a0 t139 ((t139.size : Int) != 4)) else (diacriticlaw01_OctetSafe.j0 k a0 t139 true))) else (diacriticlaw01_OctetSafe.j0 k a0 t139 true))) = some r := H
  have A2 := Aside0.mk A20
  clear A20
  by_cases c3 : a0 > 268435455
  · rw [if_pos c3] at H
    have c3b0 : decide (268435455 < a0) = true := decide_eq_true c3
    clear c3
    replace H := Option.bind_eq_some_iff.mp H
    obtain ⟨t141, A40, H⟩ := H
    replace H : (if t141 = true then (if t140 = true then (some false) else (some (t139.toList == ([] : List UInt8)))) else (some false)) = some r := H
    have A4 := Aside0.mk A40
    clear A40
    by_cases c5 : t141 = true
    · subst c5
      have H1 : (if t140 = true then (some false) else (some (t139.toList == ([] : List UInt8)))) = some r := by rw [if_pos rfl] at H; exact H
      clear H
      have H := H1
      clear H1
      by_cases c6 : t140 = true
      · subst c6
        have H1 : (some false) = some r := by rw [if_pos rfl] at H; exact H
        clear H
        have H := H1
        clear H1
        obtain rfl := Option.some.inj H
        go_enter Try.func3, Try.ntmps3
        go_wp2_with (first | ((with_reducible refine gate_callee (f := 11) rfl ?_); refine goesL_ (some 9) rfl rfl Try.func11 (by kernel_rfl) rfl #[.int .u64 a0] rfl (by (try simp only [List.map_toArray, List.map_cons, List.map_nil]); first | done | rfl | (simp only [List.length_drop, List.length_take]; rfl)) ?_; (with_reducible refine (octet_Safe.calls a0 t139 true _ A2.out).mono ?_); rintro e w7 ⟨rfl, hb⟩; refine ⟨_, rfl, ?_⟩; have n0_ := Aside0.mk (below_step (by repeat (first | (with_reducible first | exact HB.out | apply below_alloc | apply pw_below_drewN | apply below_drew1) | exact HB.out)) hb); clear HB; have HB := n0_; clear n0_; (try clear hb); (try clear hb2); (try clear hk); (try clear hi)) | ((with_reducible refine gate_callee (f := 12) rfl ?_); refine goesL_ (some 14) rfl rfl Try.func12 (by kernel_rfl) rfl #[] rfl (by (try simp only [List.map_toArray, List.map_cons, List.map_nil]); first | done | rfl | (simp only [List.length_drop, List.length_take]; rfl)) ?_; (with_reducible refine (diacriticlaw01_awake.calls k  true _ A4.out).mono ?_); rintro e w8 ⟨rfl, hb⟩; refine ⟨_, rfl, ?_⟩; have n0_ := Aside0.mk (below_step (by repeat (first | (with_reducible first | exact HB.out | apply below_alloc | apply pw_below_drewN | apply below_drew1) | exact HB.out)) hb); clear HB; have HB := n0_; clear n0_; (try clear hb); (try clear hb2); (try clear hk); (try clear hi)))
        go_ret
        exact ⟨by first | rfl | (simp [errW_none, errW_some] <;> rfl) | (simp [*, errW_none, errW_some] <;> rfl), by repeat (first | (with_reducible first | exact HB.out | apply below_alloc | apply pw_below_drewN | apply below_drew1) | exact HB.out)⟩
      · replace c6 := Bool.eq_false_iff.mpr c6
        subst c6
        have H1 : (some (t139.toList == ([] : List UInt8))) = some r := by rw [if_neg (show ¬ (false = true) by decide)] at H; exact H
        clear H
        have H := H1
        clear H1
        obtain rfl := Option.some.inj H
        go_enter Try.func3, Try.ntmps3
        go_wp2_with (first | ((with_reducible refine gate_callee (f := 11) rfl ?_); refine goesL_ (some 9) rfl rfl Try.func11 (by kernel_rfl) rfl #[.int .u64 a0] rfl (by (try simp only [List.map_toArray, List.map_cons, List.map_nil]); first | done | rfl | (simp only [List.length_drop, List.length_take]; rfl)) ?_; (with_reducible refine (octet_Safe.calls a0 t139 false _ A2.out).mono ?_); rintro e w9 ⟨rfl, hb⟩; refine ⟨_, rfl, ?_⟩; have n0_ := Aside0.mk (below_step (by repeat (first | (with_reducible first | exact HB.out | apply below_alloc | apply pw_below_drewN | apply below_drew1) | exact HB.out)) hb); clear HB; have HB := n0_; clear n0_; (try clear hb); (try clear hb2); (try clear hk); (try clear hi)) | ((with_reducible refine gate_callee (f := 12) rfl ?_); refine goesL_ (some 14) rfl rfl Try.func12 (by kernel_rfl) rfl #[] rfl (by (try simp only [List.map_toArray, List.map_cons, List.map_nil]); first | done | rfl | (simp only [List.length_drop, List.length_take]; rfl)) ?_; (with_reducible refine (diacriticlaw01_awake.calls k  true _ A4.out).mono ?_); rintro e w10 ⟨rfl, hb⟩; refine ⟨_, rfl, ?_⟩; have n0_ := Aside0.mk (below_step (by repeat (first | (with_reducible first | exact HB.out | apply below_alloc | apply pw_below_drewN | apply below_drew1) | exact HB.out)) hb); clear HB; have HB := n0_; clear n0_; (try clear hb); (try clear hb2); (try clear hk); (try clear hi)))
        go_ret
        exact ⟨by first | rfl | (simp [errW_none, errW_some] <;> rfl) | (simp [*, errW_none, errW_some] <;> rfl), by repeat (first | (with_reducible first | exact HB.out | apply below_alloc | apply pw_below_drewN | apply below_drew1) | exact HB.out)⟩
    · replace c5 := Bool.eq_false_iff.mpr c5
      subst c5
      have H1 : (some false) = some r := by rw [if_neg (show ¬ (false = true) by decide)] at H; exact H
      clear H
      have H := H1
      clear H1
      obtain rfl := Option.some.inj H
      go_enter Try.func3, Try.ntmps3
      go_wp2_with (first | ((with_reducible refine gate_callee (f := 11) rfl ?_); refine goesL_ (some 9) rfl rfl Try.func11 (by kernel_rfl) rfl #[.int .u64 a0] rfl (by (try simp only [List.map_toArray, List.map_cons, List.map_nil]); first | done | rfl | (simp only [List.length_drop, List.length_take]; rfl)) ?_; (with_reducible refine (octet_Safe.calls a0 t139 t140 _ A2.out).mono ?_); rintro e w11 ⟨rfl, hb⟩; refine ⟨_, rfl, ?_⟩; have n0_ := Aside0.mk (below_step (by repeat (first | (with_reducible first | exact HB.out | apply below_alloc | apply pw_below_drewN | apply below_drew1) | exact HB.out)) hb); clear HB; have HB := n0_; clear n0_; (try clear hb); (try clear hb2); (try clear hk); (try clear hi)) | ((with_reducible refine gate_callee (f := 12) rfl ?_); refine goesL_ (some 14) rfl rfl Try.func12 (by kernel_rfl) rfl #[] rfl (by (try simp only [List.map_toArray, List.map_cons, List.map_nil]); first | done | rfl | (simp only [List.length_drop, List.length_take]; rfl)) ?_; (with_reducible refine (diacriticlaw01_awake.calls k  false _ A4.out).mono ?_); rintro e w12 ⟨rfl, hb⟩; refine ⟨_, rfl, ?_⟩; have n0_ := Aside0.mk (below_step (by repeat (first | (with_reducible first | exact HB.out | apply below_alloc | apply pw_below_drewN | apply below_drew1) | exact HB.out)) hb); clear HB; have HB := n0_; clear n0_; (try clear hb); (try clear hb2); (try clear hk); (try clear hi)))
      go_ret
      exact ⟨by first | rfl | (simp [errW_none, errW_some] <;> rfl) | (simp [*, errW_none, errW_some] <;> rfl), by repeat (first | (with_reducible first | exact HB.out | apply below_alloc | apply pw_below_drewN | apply below_drew1) | exact HB.out)⟩
  · rw [if_neg c3] at H
    have c3b0 : decide (268435455 < a0) = false := decide_eq_false c3
    clear c3
    have HC13 := Aside0.mk H
    clear H
    go_enter Try.func3, Try.ntmps3
    go_upto_region 4 with (first | ((with_reducible refine gate_callee (f := 11) rfl ?_); refine goesL_ (some 9) rfl rfl Try.func11 (by kernel_rfl) rfl #[.int .u64 a0] rfl (by (try simp only [List.map_toArray, List.map_cons, List.map_nil]); first | done | rfl | (simp only [List.length_drop, List.length_take]; rfl)) ?_; (with_reducible refine (octet_Safe.calls a0 t139 t140 _ A2.out).mono ?_); rintro e w14 ⟨rfl, hb⟩; refine ⟨_, rfl, ?_⟩; have n0_ := Aside0.mk (below_step (by repeat (first | (with_reducible first | exact HB.out | apply below_alloc | apply pw_below_drewN | apply below_drew1) | exact HB.out)) hb); clear HB; have HB := n0_; clear n0_; (try clear hb); (try clear hb2); (try clear hk); (try clear hi)))
    (try simp only [Act.put, List.setIfInBounds_toArray, List.set_cons_zero, List.set_cons_succ])
    go_cut [35] (fun v35 wc => ∃ (kq : Nat) (x35_12 : Bool), v35 = .bool x35_12 ∧ Aside0 (diacriticlaw01_OctetSafe.j0 kq a0 t139 x35_12 = some r) ∧ Aside0 (kq ≤ k) ∧ Aside0 (Below w.heap.size w wc))
    case first =>
      have H := HC13.out
      clear HC13
      by_cases c15 : t140 = true
      · subst c15
        have H1 : ((diacriticref01_Safe.f a0).bind fun t142 => (if t139.toList = t142.toList then (diacriticlaw01_OctetSafe.j0 k a0 t139 ((t139.size : Int) != 4)) else (diacriticlaw01_OctetSafe.j0 k a0 t139 true))) = some r := by rw [if_pos rfl] at H; exact H
        clear H
        have H := H1
        clear H1
        replace H := Option.bind_eq_some_iff.mp H
        obtain ⟨t142, A160, H⟩ := H
        replace H : (if t139.toList = t142.toList then (diacriticlaw01_OctetSafe.j0 k a0 t139 ((t139.size : Int) != 4)) else (diacriticlaw01_OctetSafe.j0 k a0 t139 true)) = some r := H
        have A16 := Aside0.mk A160
        clear A160
        by_cases c17 : t139.toList = t142.toList
        · rw [if_pos c17] at H
          have c17b0 : (t139.toList == t142.toList) = true := beq_iff_eq.mpr c17
          have c17b1 : (t139.toList != t142.toList) = false := bne_eq_false_iff_eq.mpr c17
          clear c17
          (first | rw [c17b0] | (simp only [i64_w, i32_w]; rw [c17b0]) | skip)
          have H' := Aside0.mk H
          clear H
          go_wp2_with (first | (go_at_call 13; (with_reducible refine (diacriticref01_Safe.calls a0 t142 _ A16.out).mono ?_); rintro e w18 ⟨rfl, hb⟩; have n0_ := Aside0.mk (below_step (by repeat (first | (with_reducible first | exact HB.out | apply below_alloc | apply pw_below_drewN | apply below_drew1) | exact HB.out)) hb); clear HB; have HB := n0_; clear n0_; (try clear hb); (try clear hb2); (try clear hk); (try clear hi)))
          go_meet
          case rel => exact ⟨_, (((t139.size : Int) != 4)), (by first | rfl | (simp; done) | (simp [*]; done)), H', ⟨by first | omega | exact Nat.le_refl _⟩, ⟨by repeat (first | (with_reducible first | exact HB.out | apply below_alloc | apply pw_below_drewN | apply below_drew1) | exact HB.out)⟩⟩
        · rw [if_neg c17] at H
          have c17b0 : (t139.toList == t142.toList) = false := beq_eq_false_iff_ne.mpr c17
          have c17b1 : (t139.toList != t142.toList) = true := bne_iff_ne.mpr c17
          (first | rw [c17b0] | (simp only [i64_w, i32_w]; rw [c17b0]) | skip)
          have H' := Aside0.mk H
          clear H
          go_wp2_with (first | (go_at_call 13; (with_reducible refine (diacriticref01_Safe.calls a0 t142 _ A16.out).mono ?_); rintro e w19 ⟨rfl, hb⟩; have n0_ := Aside0.mk (below_step (by repeat (first | (with_reducible first | exact HB.out | apply below_alloc | apply pw_below_drewN | apply below_drew1) | exact HB.out)) hb); clear HB; have HB := n0_; clear n0_; (try clear hb); (try clear hb2); (try clear hk); (try clear hi)))
          go_meet
          case rel => exact ⟨_, (true), (by first | rfl | (simp; done) | (simp [*]; done)), H', ⟨by first | omega | exact Nat.le_refl _⟩, ⟨by repeat (first | (with_reducible first | exact HB.out | apply below_alloc | apply pw_below_drewN | apply below_drew1) | exact HB.out)⟩⟩
      · replace c15 := Bool.eq_false_iff.mpr c15
        subst c15
        have H1 : (diacriticlaw01_OctetSafe.j0 k a0 t139 true) = some r := by rw [if_neg (show ¬ (false = true) by decide)] at H; exact H
        clear H
        have H := H1
        clear H1
        have H' := Aside0.mk H
        clear H
        go_wp2
        go_meet
        case rel => exact ⟨_, (true), (by first | rfl | (simp; done) | (simp [*]; done)), H', ⟨by first | omega | exact Nat.le_refl _⟩, ⟨by repeat (first | (with_reducible first | exact HB.out | apply below_alloc | apply pw_below_drewN | apply below_drew1) | exact HB.out)⟩⟩
    case rest =>
      clear HC13
      try clear c1
      try clear p2
      try clear c3
      try clear c3b0
      try clear c5
      try clear c6
      try clear c11
      try clear c12
      try clear c15
      try clear c17
      try clear c17b0
      try clear c17b1
      obtain ⟨kq, x35_12, rfl, HA, HJ12, HB⟩ := hcut
      cases kq with
      | zero => exact absurd HA.out (by simp [diacriticlaw01_OctetSafe.j0])
      | succ kj12 =>
        have H := HA.out
        clear HA
        simp only [diacriticlaw01_OctetSafe.j0] at H
        by_cases c20 : x35_12 = true
        · subst c20
          have H1 : (some false) = some r := by rw [if_pos rfl] at H; exact H
          clear H
          have H := H1
          clear H1
          obtain rfl := Option.some.inj H
          go_wp2
          go_ret
          exact ⟨by first | rfl | (simp [errW_none, errW_some] <;> rfl) | (simp [*, errW_none, errW_some] <;> rfl), by repeat (first | (with_reducible first | exact HB.out | apply below_alloc | apply pw_below_drewN | apply below_drew1) | exact HB.out)⟩
        · replace c20 := Bool.eq_false_iff.mpr c20
          subst c20
          have H1 : (diacriticlaw01_OctetSafe.l0 kj12 a0 t139 0) = some r := by rw [if_neg (show ¬ (false = true) by decide)] at H; exact H
          clear H
          have H := H1
          clear H1
          have H' := Aside0.mk H
          clear H
          go_wp2
          go_loopg [36] kj12 (fun kq v36 w' => ∃ (x36_2 : Int), v36 = .int .i64 x36_2 ∧ Aside0 (diacriticlaw01_OctetSafe.l0 kq a0 t139 x36_2 = some r) ∧ Aside0 (kq ≤ kj12) ∧ Aside0 (Below w.heap.size w w'))
          case atStart => exact ⟨(0), (by first | rfl | (simp; done) | (simp [*]; done)), H', ⟨Nat.le_refl _⟩, ⟨by repeat (first | (with_reducible first | exact HB.out | apply below_alloc | apply pw_below_drewN | apply below_drew1) | exact HB.out)⟩⟩
          case round =>
            clear H'
            try clear c1
            try clear c2
            try clear p2
            try clear c3
            try clear c3b0
            try clear c5
            try clear c6
            try clear c11
            try clear c12
            try clear c15
            try clear c17
            try clear c17b0
            try clear c17b1
            try clear c20
            try clear p2
            obtain ⟨x36_2, rfl, HA, HK2, HB⟩ := hrel
            cases gk with
            | zero => exact absurd HA.out (by simp [diacriticlaw01_OctetSafe.l0])
            | succ k2 =>
              have H := HA.out
              clear HA
              simp only [diacriticlaw01_OctetSafe.l0] at H
              by_cases c21 : x36_2 < 4
              · rw [if_pos c21] at H
                have c21b0 : decide (x36_2 < 4) = true := decide_eq_true c21
                clear c21
                by_cases c22 : 0 ≤ x36_2
                · rw [if_pos c22] at H
                  have c22b0 : decide (0 ≤ x36_2) = true := decide_eq_true c22
                  clear c22
                  by_cases c23 : x36_2 < (t139.size : Int)
                  · rw [if_pos c23] at H
                    have c23b0 : decide (x36_2 < (t139.size : Int)) = true := decide_eq_true c23
                    clear c23
                    by_cases c25 : (bt t139 x36_2) ≥ 128
                    · rw [if_pos c25] at H
                      have c25b0 : decide (128 ≤ (bt t139 x36_2)) = true := decide_eq_true c25
                      clear c25
                      obtain rfl := Option.some.inj H
                      have p24 : 0 ≤ (x36_2 : Int) := of_decide_eq_true (by first | (with_reducible assumption) | assumption)
                      have q24 : x36_2 < (t139.size : Int) := of_decide_eq_true (by first | (with_reducible assumption) | assumption)
                      have hx24 := bt_at t139 x36_2
                      replace p24 := eq_true p24
                      replace q24 := eq_true q24
                      go_wp2
                      go_ret
                      exact ⟨by first | rfl | (simp [errW_none, errW_some] <;> rfl) | (simp [*, errW_none, errW_some] <;> rfl), by repeat (first | (with_reducible first | exact HB.out | apply below_alloc | apply pw_below_drewN | apply below_drew1) | exact HB.out)⟩
                    · rw [if_neg c25] at H
                      have c25b0 : decide (128 ≤ (bt t139 x36_2)) = false := decide_eq_false c25
                      clear c25
                      have H' := Aside0.mk H
                      clear H
                      have p24 : 0 ≤ (x36_2 : Int) := of_decide_eq_true (by first | (with_reducible assumption) | assumption)
                      have q24 : x36_2 < (t139.size : Int) := of_decide_eq_true (by first | (with_reducible assumption) | assumption)
                      have hx24 := bt_at t139 x36_2
                      replace p24 := eq_true p24
                      replace q24 := eq_true q24
                      go_wp2
                      go_roundg k2
                      case measure => have := HJ12.out; have := HK2.out; omega
                      case rel => exact ⟨(wrap64 (x36_2 + 1)), (by first | rfl | (simp; done) | (simp [*]; done)), H', ⟨by have := HJ12.out; have := HK2.out; omega⟩, ⟨by repeat (first | (with_reducible first | exact HB.out | apply below_alloc | apply pw_below_drewN | apply below_drew1) | exact HB.out)⟩⟩
                  · rw [if_neg c23] at H
                    exact absurd H (by simp)
                · rw [if_neg c22] at H
                  exact absurd H (by simp)
              · rw [if_neg c21] at H
                have c21b0 : decide (x36_2 < 4) = false := decide_eq_false c21
                clear c21
                replace H := Option.bind_eq_some_iff.mp H
                obtain ⟨⟨t143, t144, t145, t146, t147⟩, A260, H⟩ := H
                replace H : ((diacriticlaw01_awake.f k2).bind fun t149 => (if t149 = true then ((octet_In_Safe.f t143 t144 t145 t146 t147).bind fun bt150 => (if (IntKind.u64.wrap (bt150.1)) = a0 then ((octet_In_Fault.f bt150.2.1 bt150.2.2.1 bt150.2.2.2.1 bt150.2.2.2.2.1 bt150.2.2.2.2.2).bind fun bt156 => ((api_Fault_Bad.f bt156.1 bt156.2.1).bind fun t163 => (some (!t163)))) else (some false))) else (some false))) = some r := H
                have A26 := Aside0.mk A260
                clear A260
                replace H := Option.bind_eq_some_iff.mp H
                obtain ⟨t149, A270, H⟩ := H
                replace H : (if t149 = true then ((octet_In_Safe.f t143 t144 t145 t146 t147).bind fun bt150 => (if (IntKind.u64.wrap (bt150.1)) = a0 then ((octet_In_Fault.f bt150.2.1 bt150.2.2.1 bt150.2.2.2.1 bt150.2.2.2.2.1 bt150.2.2.2.2.2).bind fun bt156 => ((api_Fault_Bad.f bt156.1 bt156.2.1).bind fun t163 => (some (!t163)))) else (some false))) else (some false)) = some r := H
                have A27 := Aside0.mk A270
                clear A270
                by_cases c28 : t149 = true
                · subst c28
                  have H1 : ((octet_In_Safe.f t143 t144 t145 t146 t147).bind fun bt150 => (if (IntKind.u64.wrap (bt150.1)) = a0 then ((octet_In_Fault.f bt150.2.1 bt150.2.2.1 bt150.2.2.2.1 bt150.2.2.2.2.1 bt150.2.2.2.2.2).bind fun bt156 => ((api_Fault_Bad.f bt156.1 bt156.2.1).bind fun t163 => (some (!t163)))) else (some false))) = some r := by rw [if_pos rfl] at H; exact H
                  clear H
                  have H := H1
                  clear H1
                  replace H := Option.bind_eq_some_iff.mp H
                  obtain ⟨⟨t150, t151, t152, t153, t154, t155⟩, A290, H⟩ := H
                  replace H : (if (IntKind.u64.wrap (t150)) = a0 then ((octet_In_Fault.f t151 t152 t153 t154 t155).bind fun bt156 => ((api_Fault_Bad.f bt156.1 bt156.2.1).bind fun t163 => (some (!t163)))) else (some false)) = some r := H
                  have A29 := Aside0.mk A290
                  clear A290
                  by_cases c30 : (IntKind.u64.wrap (t150)) = a0
                  · rw [if_pos c30] at H
                    have c30b0 : ((IntKind.u64.wrap (t150)) == a0) = true := beq_iff_eq.mpr c30
                    have c30b1 : ((IntKind.u64.wrap (t150)) != a0) = false := bne_eq_false_iff_eq.mpr c30
                    clear c30
                    replace H := Option.bind_eq_some_iff.mp H
                    obtain ⟨⟨t156, t157, t158, t159, t160, t161, t162⟩, A310, H⟩ := H
                    replace H : ((api_Fault_Bad.f t156 t157).bind fun t163 => (some (!t163))) = some r := H
                    have A31 := Aside0.mk A310
                    clear A310
                    replace H := Option.bind_eq_some_iff.mp H
                    obtain ⟨t163, A320, H⟩ := H
                    replace H : (some (!t163)) = some r := H
                    have A32 := Aside0.mk A320
                    clear A320
                    obtain rfl := Option.some.inj H
                    go_wp2_with (first | ((with_reducible refine gate_callee (f := 14) rfl ?_); refine goesL_ (some 45) rfl rfl Try.func14 (by kernel_rfl) rfl #[.string t139] rfl (by (try simp only [List.map_toArray, List.map_cons, List.map_nil]); first | done | rfl | (simp only [List.length_drop, List.length_take]; rfl)) ?_; (with_reducible refine (octet_Read.calls t139 t143 t144 t145 t146 t147 w _ ?side1 A26.out).mono ?_); (case side1 => repeat (first | (with_reducible first | exact HB.out | apply below_alloc | apply pw_below_drewN | apply below_drew1) | exact HB.out)); rintro e w33 ⟨g148, rfl, hi, hb, hb2⟩; refine ⟨_, rfl, ?_⟩; have n0_ := Aside0.mk (hb); have n1_ := Aside0.mk (hi); clear HB; have HB := n0_; have HI148 := n1_; clear n0_ n1_; (try clear hb); (try clear hb2); (try clear hk); (try clear hi)) | ((with_reducible refine gate_callee (f := 12) rfl ?_); refine goesL_ (some 46) rfl rfl Try.func12 (by kernel_rfl) rfl #[] rfl (by (try simp only [List.map_toArray, List.map_cons, List.map_nil]); first | done | rfl | (simp only [List.length_drop, List.length_take]; rfl)) ?_; (with_reducible refine (diacriticlaw01_awake.calls k2  true _ A27.out).mono ?_); rintro e w34 ⟨rfl, hb⟩; refine ⟨_, rfl, ?_⟩; have n0_ := Aside0.mk (IsS68.below (by repeat (first | (with_reducible first | exact HI148.out | apply IsS68.alloc | apply IsS68.drewN | apply IsS68.drew | apply IsS68.set_0 | apply IsS68.set_1 | apply IsS68.set_2 | apply IsS68.set_3 | apply IsS68.set_4) | exact HI148.out)) hb); have n1_ := Aside0.mk (below_step (by repeat (first | (with_reducible first | exact HB.out | apply below_alloc | apply pw_below_drewN | apply below_drew1 | refine below_set ?_ (IsS68.ge HI148.out)) | exact HB.out)) hb); clear HI148; clear HB; have HI148 := n0_; have HB := n1_; clear n0_ n1_; (try clear hb); (try clear hb2); (try clear hk); (try clear hi)) | (go_at_call 15; (with_reducible refine (octet_In_Safe.calls g148 t143 t144 t145 t146 t147 t150 t151 t152 t153 t154 t155 w _ ?side1 ?side2 A29.out).mono ?_); (case side1 => repeat (first | (with_reducible first | exact HI148.out | apply IsS68.alloc | apply IsS68.drewN | apply IsS68.drew | apply IsS68.set_0 | apply IsS68.set_1 | apply IsS68.set_2 | apply IsS68.set_3 | apply IsS68.set_4) | exact HI148.out)); (case side2 => repeat (first | (with_reducible first | exact HB.out | apply below_alloc | apply pw_below_drewN | apply below_drew1 | refine below_set ?_ (IsS68.ge HI148.out)) | exact HB.out)); rintro e w35 ⟨rfl, hi, hb, hk⟩; have n0_ := Aside0.mk (hb); have n1_ := Aside0.mk (hi); clear HB; clear HI148; have HB := n0_; have HI148 := n1_; clear n0_ n1_; (try clear hb); (try clear hb2); (try clear hk); (try clear hi)) | (go_at_call 16; (with_reducible refine (octet_In_Fault.calls g148 t151 t152 t153 t154 t155 t156 t157 t158 t159 t160 t161 t162 w _ ?side1 ?side2 A31.out).mono ?_); (case side1 => repeat (first | (with_reducible first | exact HI148.out | apply IsS68.alloc | apply IsS68.drewN | apply IsS68.drew | apply IsS68.set_0 | apply IsS68.set_1 | apply IsS68.set_2 | apply IsS68.set_3 | apply IsS68.set_4) | exact HI148.out)); (case side2 => repeat (first | (with_reducible first | exact HB.out | apply below_alloc | apply pw_below_drewN | apply below_drew1 | refine below_set ?_ (IsS68.ge HI148.out)) | exact HB.out)); rintro e w36 ⟨rfl, hi, hb, hk⟩; have n0_ := Aside0.mk (hb); have n1_ := Aside0.mk (hi); clear HB; clear HI148; have HB := n0_; have HI148 := n1_; clear n0_ n1_; (try clear hb); (try clear hb2); (try clear hk); (try clear hi)) | (go_at_call 17; (with_reducible refine (api_Fault_Bad.calls t156 t157 t163 _ A32.out).mono ?_); rintro e w37 ⟨rfl, hb⟩; have n0_ := Aside0.mk (IsS68.below (by repeat (first | (with_reducible first | exact HI148.out | apply IsS68.alloc | apply IsS68.drewN | apply IsS68.drew | apply IsS68.set_0 | apply IsS68.set_1 | apply IsS68.set_2 | apply IsS68.set_3 | apply IsS68.set_4) | exact HI148.out)) hb); have n1_ := Aside0.mk (below_step (by repeat (first | (with_reducible first | exact HB.out | apply below_alloc | apply pw_below_drewN | apply below_drew1 | refine below_set ?_ (IsS68.ge HI148.out)) | exact HB.out)) hb); clear HI148; clear HB; have HI148 := n0_; have HB := n1_; clear n0_ n1_; (try clear hb); (try clear hb2); (try clear hk); (try clear hi)))
                    go_ret
                    exact ⟨by first | rfl | (simp [errW_none, errW_some] <;> rfl) | (simp [*, errW_none, errW_some] <;> rfl), by repeat (first | (with_reducible first | exact HB.out | apply below_alloc | apply pw_below_drewN | apply below_drew1 | refine below_set ?_ (IsS68.ge HI148.out)) | exact HB.out)⟩
                  · rw [if_neg c30] at H
                    have c30b0 : ((IntKind.u64.wrap (t150)) == a0) = false := beq_eq_false_iff_ne.mpr c30
                    have c30b1 : ((IntKind.u64.wrap (t150)) != a0) = true := bne_iff_ne.mpr c30
                    obtain rfl := Option.some.inj H
                    go_wp2_with (first | ((with_reducible refine gate_callee (f := 14) rfl ?_); refine goesL_ (some 45) rfl rfl Try.func14 (by kernel_rfl) rfl #[.string t139] rfl (by (try simp only [List.map_toArray, List.map_cons, List.map_nil]); first | done | rfl | (simp only [List.length_drop, List.length_take]; rfl)) ?_; (with_reducible refine (octet_Read.calls t139 t143 t144 t145 t146 t147 w _ ?side1 A26.out).mono ?_); (case side1 => repeat (first | (with_reducible first | exact HB.out | apply below_alloc | apply pw_below_drewN | apply below_drew1) | exact HB.out)); rintro e w38 ⟨g148, rfl, hi, hb, hb2⟩; refine ⟨_, rfl, ?_⟩; have n0_ := Aside0.mk (hb); have n1_ := Aside0.mk (hi); clear HB; have HB := n0_; have HI148 := n1_; clear n0_ n1_; (try clear hb); (try clear hb2); (try clear hk); (try clear hi)) | ((with_reducible refine gate_callee (f := 12) rfl ?_); refine goesL_ (some 46) rfl rfl Try.func12 (by kernel_rfl) rfl #[] rfl (by (try simp only [List.map_toArray, List.map_cons, List.map_nil]); first | done | rfl | (simp only [List.length_drop, List.length_take]; rfl)) ?_; (with_reducible refine (diacriticlaw01_awake.calls k2  true _ A27.out).mono ?_); rintro e w39 ⟨rfl, hb⟩; refine ⟨_, rfl, ?_⟩; have n0_ := Aside0.mk (IsS68.below (by repeat (first | (with_reducible first | exact HI148.out | apply IsS68.alloc | apply IsS68.drewN | apply IsS68.drew | apply IsS68.set_0 | apply IsS68.set_1 | apply IsS68.set_2 | apply IsS68.set_3 | apply IsS68.set_4) | exact HI148.out)) hb); have n1_ := Aside0.mk (below_step (by repeat (first | (with_reducible first | exact HB.out | apply below_alloc | apply pw_below_drewN | apply below_drew1 | refine below_set ?_ (IsS68.ge HI148.out)) | exact HB.out)) hb); clear HI148; clear HB; have HI148 := n0_; have HB := n1_; clear n0_ n1_; (try clear hb); (try clear hb2); (try clear hk); (try clear hi)) | (go_at_call 15; (with_reducible refine (octet_In_Safe.calls g148 t143 t144 t145 t146 t147 t150 t151 t152 t153 t154 t155 w _ ?side1 ?side2 A29.out).mono ?_); (case side1 => repeat (first | (with_reducible first | exact HI148.out | apply IsS68.alloc | apply IsS68.drewN | apply IsS68.drew | apply IsS68.set_0 | apply IsS68.set_1 | apply IsS68.set_2 | apply IsS68.set_3 | apply IsS68.set_4) | exact HI148.out)); (case side2 => repeat (first | (with_reducible first | exact HB.out | apply below_alloc | apply pw_below_drewN | apply below_drew1 | refine below_set ?_ (IsS68.ge HI148.out)) | exact HB.out)); rintro e w40 ⟨rfl, hi, hb, hk⟩; have n0_ := Aside0.mk (hb); have n1_ := Aside0.mk (hi); clear HB; clear HI148; have HB := n0_; have HI148 := n1_; clear n0_ n1_; (try clear hb); (try clear hb2); (try clear hk); (try clear hi)))
                    go_ret
                    exact ⟨by first | rfl | (simp [errW_none, errW_some] <;> rfl) | (simp [*, errW_none, errW_some] <;> rfl), by repeat (first | (with_reducible first | exact HB.out | apply below_alloc | apply pw_below_drewN | apply below_drew1 | refine below_set ?_ (IsS68.ge HI148.out)) | exact HB.out)⟩
                · replace c28 := Bool.eq_false_iff.mpr c28
                  subst c28
                  have H1 : (some false) = some r := by rw [if_neg (show ¬ (false = true) by decide)] at H; exact H
                  clear H
                  have H := H1
                  clear H1
                  obtain rfl := Option.some.inj H
                  go_wp2_with (first | ((with_reducible refine gate_callee (f := 14) rfl ?_); refine goesL_ (some 45) rfl rfl Try.func14 (by kernel_rfl) rfl #[.string t139] rfl (by (try simp only [List.map_toArray, List.map_cons, List.map_nil]); first | done | rfl | (simp only [List.length_drop, List.length_take]; rfl)) ?_; (with_reducible refine (octet_Read.calls t139 t143 t144 t145 t146 t147 w _ ?side1 A26.out).mono ?_); (case side1 => repeat (first | (with_reducible first | exact HB.out | apply below_alloc | apply pw_below_drewN | apply below_drew1) | exact HB.out)); rintro e w41 ⟨g148, rfl, hi, hb, hb2⟩; refine ⟨_, rfl, ?_⟩; have n0_ := Aside0.mk (hb); have n1_ := Aside0.mk (hi); clear HB; have HB := n0_; have HI148 := n1_; clear n0_ n1_; (try clear hb); (try clear hb2); (try clear hk); (try clear hi)) | ((with_reducible refine gate_callee (f := 12) rfl ?_); refine goesL_ (some 46) rfl rfl Try.func12 (by kernel_rfl) rfl #[] rfl (by (try simp only [List.map_toArray, List.map_cons, List.map_nil]); first | done | rfl | (simp only [List.length_drop, List.length_take]; rfl)) ?_; (with_reducible refine (diacriticlaw01_awake.calls k2  false _ A27.out).mono ?_); rintro e w42 ⟨rfl, hb⟩; refine ⟨_, rfl, ?_⟩; have n0_ := Aside0.mk (IsS68.below (by repeat (first | (with_reducible first | exact HI148.out | apply IsS68.alloc | apply IsS68.drewN | apply IsS68.drew | apply IsS68.set_0 | apply IsS68.set_1 | apply IsS68.set_2 | apply IsS68.set_3 | apply IsS68.set_4) | exact HI148.out)) hb); have n1_ := Aside0.mk (below_step (by repeat (first | (with_reducible first | exact HB.out | apply below_alloc | apply pw_below_drewN | apply below_drew1 | refine below_set ?_ (IsS68.ge HI148.out)) | exact HB.out)) hb); clear HI148; clear HB; have HI148 := n0_; have HB := n1_; clear n0_ n1_; (try clear hb); (try clear hb2); (try clear hk); (try clear hi)))
                  go_ret
                  exact ⟨by first | rfl | (simp [errW_none, errW_some] <;> rfl) | (simp [*, errW_none, errW_some] <;> rfl), by repeat (first | (with_reducible first | exact HB.out | apply below_alloc | apply pw_below_drewN | apply below_drew1 | refine below_set ?_ (IsS68.ge HI148.out)) | exact HB.out)⟩

/-- THE ONE PURE STATEMENT of diacriticlaw01_OctetSafe: yours. -/
def diacriticlaw01_OctetSafe.Pure : Prop := ∀ (a0 : Int), (Lit.int .u64 a0).wf = true → ∃ k, diacriticlaw01_OctetSafe.f k a0 = some true
theorem diacriticlaw01_OctetSafe.walk (P : diacriticlaw01_OctetSafe.Pure) (a0 : Int) (w : World) (w0 : (Lit.int .u64 a0).wf = true) :
    Calls Try.prog 3 #[.int .u64 a0] w fun e w' => e = .returned (.bool true) ∧ Below w.heap.size w w' := by
  obtain ⟨k, h⟩ := P a0 w0
  refine (diacriticlaw01_OctetSafe.calls k a0 true w h).mono ?_
  rintro e w' ⟨rfl, hd⟩
  exact ⟨rfl, hd⟩

end Go.Proofs.Ytkcckhlkaknggaa.PAll
