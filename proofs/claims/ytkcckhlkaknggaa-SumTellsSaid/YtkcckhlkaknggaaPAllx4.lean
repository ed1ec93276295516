/- Written by a program of this session: functions of the Go program as Lean functions, and the walks that tie them to it. -/
import Derived.Test.YtkcckhlkaknggaaPAllx0
import Derived.Test.YtkcckhlkaknggaaPAllx2
import Derived.Test.YtkcckhlkaknggaaPAllx3
namespace Go.Proofs.Ytkcckhlkaknggaa.PAll
open Go.RowKit Go.Proofs.YtkcckhlkaknggaaW.PrintWords Go.Proofs.YtkcckhlkaknggaaW.PrintLast Go.Proofs.YtkcckhlkaknggaaW.PrintMore
attribute [local go_sem] max2_int min2_int max_two min_two max_three min_three max_four min_four   -- for this text's walks alone
set_option linter.unusedVariables false
set_option linter.unusedSimpArgs false

/-! ### octet_In_Safe: function 15 -/
/-- Where the first byte of 128 or more stands. -/
def badAt : List Int → Nat → Option Nat
  | [], _ => none
  | c :: l, i => if 128 ≤ c then some i else badAt l (i + 1)
def safeStep (n c : Int) : Int := Go.bits .or .i64 (wrap64 (n * 128)) c
def safeOf (l : List Int) : Int := l.foldl safeStep 0
theorem safeOf_snoc (l : List Int) (c : Int) : safeOf (l ++ [c]) = safeStep (safeOf l) c := by simp [safeOf]
theorem badAt_none : ∀ (l : List Int) (i : Nat), (∀ j, j < l.length → l.getD j 0 < 128) → badAt l i = none
  | [], _, _ => rfl
  | c :: l, i, h => by
    have h0 := h 0 (by simp)
    simp only [List.getD_cons_zero] at h0
    rw [badAt, if_neg (by omega)]
    exact badAt_none l (i + 1) (fun j hj => by have := h (j + 1) (by simp; omega); simpa using this)
theorem badAt_some : ∀ (l : List Int) (i k : Nat), (∀ j, j < k → l.getD j 0 < 128) → k < l.length → 128 ≤ l.getD k 0 → badAt l i = some (i + k)
  | [], _, _, _, h, _ => by simp at h
  | c :: l, i, 0, _, _, h => by
    simp only [List.getD_cons_zero] at h
    rw [badAt, if_pos h]; rfl
  | c :: l, i, k + 1, h, hk, hc => by
    have h0 := h 0 (by omega)
    simp only [List.getD_cons_zero] at h0
    rw [badAt, if_neg (by omega), badAt_some l (i + 1) k (fun j hj => by have := h (j + 1) (by omega); simpa using this) (by simpa using hk) (by simpa using hc)]
    congr 1; omega
def octet_In_Safe.f (s0_0 : ByteArray) (s0_1 : Int) (s0_2 : Int) (s0_3 : Int) (s0_4 : Int) : Option (Int × ByteArray × Int × Int × Int × Int) :=
  (octet_In_Take.f s0_0 s0_1 s0_2 s0_3 s0_4 4).bind fun t =>
    if t.1.size ≤ 4 ∧ 0 ≤ s0_1 ∧ s0_1 ≤ 140737488355328 ∧ 0 ≤ s0_2 ∧ s0_2 ≤ 140737488355328 then
      (match badAt (bytesOf t.1) 0 with
      | none => some (safeOf (bytesOf t.1), t.2)
      | some i => (octet_In_Fail.f t.2.1 t.2.2.1 t.2.2.2.1 t.2.2.2.2.1 t.2.2.2.2.2 1 (s0_2 + s0_1 + i)).bind fun u => some (0, u))
    else none
set_option maxHeartbeats 8000000 in
set_option maxRecDepth 100000 in
theorem octet_In_Safe.calls (g : Nat) (s0_0 : ByteArray) (s0_1 : Int) (s0_2 : Int) (s0_3 : Int) (s0_4 : Int) (r1 : Int) (r2 : ByteArray) (r3 : Int) (r4 : Int) (r5 : Int) (r6 : Int) (w0 w : World) (hI : IsS68 w0 w g s0_0 s0_1 s0_2 s0_3 s0_4) (hB : Below w0.heap.size w0 w) (h : octet_In_Safe.f s0_0 s0_1 s0_2 s0_3 s0_4 = some (r1, r2, r3, r4, r5, r6)) :
    Calls Try.prog 15 #[.pointer (some ⟨g, 0, none⟩)] w fun e w' => e = .returned (.int .i64 r1) ∧ IsS68 w0 w' g r2 r3 r4 r5 r6 ∧ Below w0.heap.size w0 w' ∧ KeepBut w w' g none := by
  unfold octet_In_Safe.f at h
  replace h := Option.bind_eq_some_iff.mp h
  obtain ⟨⟨s, s2, s3, s4, s5, s6⟩, ht, h⟩ := h
  dsimp only at h
  by_cases hg : s.size ≤ 4 ∧ 0 ≤ s0_1 ∧ s0_1 ≤ 140737488355328 ∧ 0 ≤ s0_2 ∧ s0_2 ≤ 140737488355328
  case neg => rw [if_neg hg] at h; exact absurd h (by simp)
  rw [if_pos hg] at h
  obtain ⟨hsz0, g1, g2, g3, g4⟩ := hg
  have H := Aside0.mk h
  clear h
  have hsz : s.size ≤ 9223372036854775807 := by omega
  have A_TAKE := Aside0.mk ht
  clear ht
  have A_AT : Aside0 (octet_In_At.f s0_0 s0_1 s0_2 s0_3 s0_4 = some (s0_2 + s0_1, s0_0, s0_1, s0_2, s0_3, s0_4)) := ⟨by
    unfold octet_In_At.f
    rw [show wrap64 (s0_2 + s0_1) = s0_2 + s0_1 by unfold wrap64; omega]⟩
  have hu := Try.underlying32
  have HI0 := Aside0.mk hI
  have HK := Aside0.mk (KeepBut.refl w g none)
  clear hI
  have HB := Aside0.mk hB
  clear hB
  have kb := fun W => print_bytes (P := Try.prog) 9 49 5 Try.underlying9 Try.underlying49 Try.underlying5 s W
  go_enter Try.func15, Try.ntmps15
  go_wp2_with (first | (go_at_call 36; (with_reducible refine (octet_In_At.calls g _ _ _ _ _ _ _ _ _ _ _ w0 _ (by repeat (first | (with_reducible first | exact HI0.out | apply IsS68.alloc | apply IsS68.drewN | apply IsS68.drew | apply IsS68.set_0 | apply IsS68.set_1 | apply IsS68.set_2 | apply IsS68.set_3 | apply IsS68.set_4) | exact HI0.out)) (by repeat (first | (with_reducible first | exact HB.out | apply below_alloc | apply pw_below_drewN | apply below_drew1 | refine below_set ?_ (IsS68.ge HI0.out)) | exact HB.out)) A_AT.out).mono ?_); rintro e w6 ⟨rfl, hi, hb, hk⟩; have n0_ := Aside0.mk hi; have n1_ := Aside0.mk (KeepBut.trans (by repeat (first | (with_reducible first | exact HK.out | apply KeepBut.set_ | apply keep_drewN | apply keep_drew | apply keep_alloc) | exact HK.out)) hk (.inl rfl)); have n2_ := Aside0.mk hb; clear HI0 HK HB; have HI0 := n0_; have HK := n1_; have HB := n2_; clear n0_ n1_ n2_ hi hb hk) | (go_at_call 38; (with_reducible refine (octet_In_Take.calls g _ _ _ _ _ _ _ _ _ _ _ _ w0 _ (by repeat (first | (with_reducible first | exact HI0.out | apply IsS68.alloc | apply IsS68.drewN | apply IsS68.drew | apply IsS68.set_0 | apply IsS68.set_1 | apply IsS68.set_2 | apply IsS68.set_3 | apply IsS68.set_4) | exact HI0.out)) (by repeat (first | (with_reducible first | exact HB.out | apply below_alloc | apply pw_below_drewN | apply below_drew1 | refine below_set ?_ (IsS68.ge HI0.out)) | exact HB.out)) A_TAKE.out).mono ?_); rintro e w8 ⟨rfl, hi, hb, hk⟩; have n0_ := Aside0.mk hi; have n1_ := Aside0.mk (KeepBut.trans (by repeat (first | (with_reducible first | exact HK.out | apply KeepBut.set_ | apply keep_drewN | apply keep_drew | apply keep_alloc) | exact HK.out)) hk (.inl rfl)); have n2_ := Aside0.mk hb; clear HI0 HK HB; have HI0 := n0_; have HK := n1_; have HB := n2_; clear n0_ n1_ n2_ hi hb hk; (try clear hc0); (try clear hc1); (try clear hc2); (try clear hc3); (try clear hc4); (try clear hf0); (try clear hf1); (try clear hf2); (try clear hf3); (try clear hf4)))
  have hbl : (bytesOf s).length = s.size := bytesOf_length s
  have HBL := Aside0.mk hbl
  clear hbl
  have HSZ := Aside0.mk hsz0
  go_loop [4, 5, 6, 13] (fun n i0 c i => ∃ k : Nat, k ≤ s.size ∧ i = .int .i64 k ∧ n = .int .i64 (safeOf ((bytesOf s).take k)) ∧ Aside0 (∀ j, j < k → (bytesOf s).getD j 0 < 128)) (fun _ _ _ i => s.size - (intOf i).toNat)
  case atStart => exact ⟨0, Nat.zero_le _, rfl, rfl, ⟨fun j hj => by omega⟩⟩
  case round =>
    obtain ⟨k, hk, rfl, rfl, HJ⟩ := hrel
    by_cases hlt : k < s.size
    · have hcell : (Lib.bytesWorld w8 5 s).cell? ⟨w8.heap.size, k, none⟩ = some (.int .u8 ((bytesOf s).getD k 0)) := by
        rw [Lib.bytesWorld_cell _ _ _ _ hlt]
        have h' : k < s.data.toList.length := by rw [data_length]; exact hlt
        simp [bytesOf, List.getD_eq_getElem?_getD, List.getElem?_eq_getElem h']
      obtain ⟨hc0, hc1⟩ := byte_getD s k
      by_cases h128 : 128 ≤ (bytesOf s).getD k 0
      · have HB1 := Aside0.mk (badAt_some (bytesOf s) 0 k HJ.out (by rw [HBL.out]; exact hlt) h128)
        have hu' := H.out
        rw [HB1.out, Nat.zero_add] at hu'
        dsimp only at hu'
        clear H HB1 HJ HBL
        replace hu' := Option.bind_eq_some_iff.mp hu'
        obtain ⟨⟨u2, u3, u4, u5, u6⟩, hf, hu'⟩ := hu'
        simp only [Option.some.injEq, Prod.mk.injEq] at hu'
        obtain ⟨rfl, rfl, rfl, rfl, rfl, rfl⟩ := hu'
        have A_FAIL := Aside0.mk hf
        clear hf
        have HI1 := Aside0.mk (IsS68.below HI0.out (bytes_below (Below.refl _ _) (Nat.le_refl _) 5 s))
        have HK1 := Aside0.mk (KeepBut.trans HK.out (KeepBut.of_below (bytes_below (Below.refl _ _) (Nat.le_refl _) 5 s) g none) (.inl rfl))
        have HB1 := Aside0.mk (bytes_below HB.out HB.out.size 5 s)
        clear HI0 HK HB
        have HI0 := HI1
        have HK := HK1
        have HB := HB1
        clear HI1 HK1 HB1
        generalize hc : (bytesOf s).getD k 0 = c at *
        clear hc
        generalize safeOf ((bytesOf s).take k) = n0 at *
        go_wp2_with (first | (go_at_call 37; (with_reducible refine (octet_In_Fail.calls g _ _ _ _ _ _ _ _ _ _ _ _ w0 _ (by repeat (first | (with_reducible first | exact HI0.out | apply IsS68.alloc | apply IsS68.drewN | apply IsS68.drew | apply IsS68.set_0 | apply IsS68.set_1 | apply IsS68.set_2 | apply IsS68.set_3 | apply IsS68.set_4) | exact HI0.out)) (by repeat (first | (with_reducible first | exact HB.out | apply below_alloc | apply pw_below_drewN | apply below_drew1 | refine below_set ?_ (IsS68.ge HI0.out)) | exact HB.out)) A_FAIL.out).mono ?_); rintro e w7 ⟨rfl, hi, hb, hk⟩; have n0_ := Aside0.mk hi; have n1_ := Aside0.mk (KeepBut.trans (by repeat (first | (with_reducible first | exact HK.out | apply KeepBut.set_ | apply keep_drewN | apply keep_drew | apply keep_alloc) | exact HK.out)) hk (.inl rfl)); have n2_ := Aside0.mk hb; clear HI0 HK HB; have HI0 := n0_; have HK := n1_; have HB := n2_; clear n0_ n1_ n2_ hi hb hk; (try clear hc0); (try clear hc1); (try clear hc2); (try clear hc3); (try clear hc4); (try clear hf0); (try clear hf1); (try clear hf2); (try clear hf3); (try clear hf4); obtain ⟨HG_, hg_⟩ := HI0.out; have hc0 := cellS68_0 HG_; have hc1 := cellS68_1 HG_; have hc2 := cellS68_2 HG_; have hc3 := cellS68_3 HG_; have hc4 := cellS68_4 HG_; have hf0 := blk_frozen HG_ 0; have hf1 := blk_frozen HG_ 1; have hf2 := blk_frozen HG_ 2; have hf3 := blk_frozen HG_ 3; have hf4 := blk_frozen HG_ 4; clear HG_ hg_))
        go_ret
        exact ⟨rfl, by repeat (first | (with_reducible first | exact HI0.out | apply IsS68.alloc | apply IsS68.drewN | apply IsS68.drew | apply IsS68.set_0 | apply IsS68.set_1 | apply IsS68.set_2 | apply IsS68.set_3 | apply IsS68.set_4) | exact HI0.out), by repeat (first | (with_reducible first | exact HB.out | apply below_alloc | apply pw_below_drewN | apply below_drew1 | refine below_set ?_ (IsS68.ge HI0.out)) | exact HB.out), by repeat (first | (with_reducible first | exact HK.out | apply KeepBut.set_ | apply keep_drewN | apply keep_drew | apply keep_alloc) | exact HK.out)⟩
      · have hc2 : (bytesOf s).getD k 0 < 128 := by omega
        have HJ2 : Aside0 (∀ j, j < k + 1 → (bytesOf s).getD j 0 < 128) := ⟨fun j hj => by
          rcases Nat.lt_or_eq_of_le (Nat.le_of_lt_succ hj) with h1 | h1
          · exact HJ.out j h1
          · rw [h1]; exact hc2⟩
        have HCB := Aside0.mk (show IntKind.i64.wrap ((bytesOf s).getD k 0) = (bytesOf s).getD k 0 from IntWalk.i64_in _ (by omega))
        generalize hc : (bytesOf s).getD k 0 = c at hcell HCB hc0 hc1 hc2 h128
        have hsn : safeOf ((bytesOf s).take (k + 1)) = Go.bits .or .i64 (wrap64 (safeOf ((bytesOf s).take k) * 128)) c := by
          rw [take_snoc_rd _ _ (by rw [HBL.out]; exact hlt), safeOf_snoc, hc]; rfl
        have HSN := Aside0.mk hsn
        clear hsn hc
        generalize safeOf ((bytesOf s).take k) = n0 at HSN ⊢
        go_wp2
        go_round
        case rel => exact ⟨k + 1, by omega, by go_num, by rw [HSN.out], HJ2⟩
        case measure => simp [intOf]; omega
    · have hk' : k = s.size := by omega
      have HB1 := Aside0.mk (badAt_none (bytesOf s) 0 (fun j hj => HJ.out j (by rw [HBL.out] at hj; omega)))
      have hu' := H.out
      rw [HB1.out] at hu'
      simp only [Option.some.injEq, Prod.mk.injEq] at hu'
      obtain ⟨rfl, rfl, rfl, rfl, rfl, rfl⟩ := hu'
      clear H HB1 HJ
      rw [List.take_of_length_le (by rw [HBL.out]; omega)]
      go_wp2
      go_ret
      have HI1 := Aside0.mk (IsS68.below HI0.out (bytes_below (Below.refl _ _) (Nat.le_refl _) 5 s))
      have HK1 := Aside0.mk (KeepBut.trans HK.out (KeepBut.of_below (bytes_below (Below.refl _ _) (Nat.le_refl _) 5 s) g none) (.inl rfl))
      have HB1 := Aside0.mk (bytes_below HB.out HB.out.size 5 s)
      exact ⟨rfl, HI1.out, HB1.out, HK1.out⟩


/-! ### octet_In_Safe_nil: function 15 -/
def octet_In_Safe_nil.f : Option (Int) := some 0
set_option maxHeartbeats 8000000 in
set_option maxRecDepth 100000 in
theorem octet_In_Safe_nil.calls (r : Int) (w : World) (h : octet_In_Safe_nil.f = some r) :
    Calls Try.prog 15 #[.pointer none] w fun e w' => e = .returned (.int .i64 r) ∧ Below w.heap.size w w' := by
  obtain rfl := Option.some.inj h
  clear h
  have HB := Aside0.mk (Below.refl w.heap.size w)
  have kb := fun W => print_bytes (P := Try.prog) 9 49 5 Try.underlying9 Try.underlying49 Try.underlying5 (⟨#[]⟩ : ByteArray) W
  go_enter Try.func15, Try.ntmps15
  go_wp2_with (first | (go_at_call 36; (with_reducible refine (octet_In_At_nil.calls 0 _ rfl).mono ?_); rintro e w6 ⟨rfl, ⟨nd, rfl⟩⟩) | (go_at_call 38; (with_reducible refine (octet_In_Take_nil.calls 4 (⟨#[]⟩ : ByteArray) _ rfl).mono ?_); rintro e w8 ⟨rfl, hb⟩; have n0_ := Aside0.mk (below_step (by repeat (first | (with_reducible first | exact HB.out | apply below_alloc | apply pw_below_drewN | apply below_drew1) | exact HB.out)) hb); clear HB; have HB := n0_; clear n0_ hb))
  go_loop [4, 5, 6, 13] (fun x0 x1 x2 x3 => x3 = .int .i64 0 ∧ x0 = .int .i64 0) (fun _ _ _ _ => 0)
  case atStart => exact ⟨rfl, rfl⟩
  case round =>
    obtain ⟨rfl, rfl⟩ := hrel
    go_wp2
    go_ret
    exact ⟨rfl, bytes_below HB.out HB.out.size 5 (⟨#[]⟩ : ByteArray)⟩


end Go.Proofs.Ytkcckhlkaknggaa.PAll
