/- Written by a program of this session: functions of the Go program as Lean functions, and the walks that tie them to it. -/
import Derived.Test.YtlmhlmendnjmlaaDoorPAllx0
import Derived.Test.YtlmhlmendnjmlaaDoorPAllx8
import Derived.Test.YtlmhlmendnjmlaaDoorPAllx12
namespace Go.Proofs.YtlmhlmendnjmlaaDoor.PAll
open Go.RowKit Go.Proofs.YtlmhlmendnjmlaaDoorW.PrintWords Go.Proofs.YtlmhlmendnjmlaaDoorW.PrintLast Go.Proofs.YtlmhlmendnjmlaaDoorW.PrintMore
attribute [local go_sem] max2_int min2_int max_two min_two max_three min_three max_four min_four   -- for this text's walks alone
set_option linter.unusedVariables false
set_option linter.unusedSimpArgs false

/-! ### octet_In_Take: function 58 -/
def octet_In_Take.f (s0_0 : ByteArray) (s0_1 : Int) (s0_2 : Int) (s0_3 : Int) (s0_4 : Int) (a1 : Int) : Option (ByteArray × ByteArray × Int × Int × Int × Int) :=
  if s0_0.size ≤ 140737488355328 ∧ 0 ≤ s0_1 ∧ s0_1 ≤ s0_0.size ∧ 0 ≤ s0_2 ∧ s0_2 ≤ 140737488355328 then
    (if s0_3 = 0 then
      (if 0 ≤ a1 ∧ a1 ≤ s0_0.size - s0_1 then some (s0_0.extract s0_1.toNat (s0_1 + a1).toNat, s0_0, s0_1 + a1, s0_2, s0_3, s0_4)
      else some ((⟨#[]⟩ : ByteArray), s0_0, s0_1, s0_2, 1, s0_2 + s0_0.size))
    else some ((⟨#[]⟩ : ByteArray), s0_0, s0_1, s0_2, s0_3, s0_4))
  else none
set_option maxHeartbeats 8000000 in
set_option maxRecDepth 100000 in
theorem octet_In_Take.calls (g : Nat) (s0_0 : ByteArray) (s0_1 : Int) (s0_2 : Int) (s0_3 : Int) (s0_4 : Int) (a1 : Int) (r1 : ByteArray) (r2 : ByteArray) (r3 : Int) (r4 : Int) (r5 : Int) (r6 : Int) (w0 w : World) (hI : IsS70 w0 w g s0_0 s0_1 s0_2 s0_3 s0_4) (hB : Below w0.heap.size w0 w) (h : octet_In_Take.f s0_0 s0_1 s0_2 s0_3 s0_4 a1 = some (r1, r2, r3, r4, r5, r6)) :
    Calls Tryd.prog 58 #[.pointer (some ⟨g, 0, none⟩), .int .i64 a1] w fun e w' => e = .returned (.string r1) ∧ IsS70 w0 w' g r2 r3 r4 r5 r6 ∧ Below w0.heap.size w0 w' ∧ KeepBut w w' g none := by
  have hu := Tryd.underlying39
  have HI0 := Aside0.mk hI
  have HK := Aside0.mk (KeepBut.refl w g none)
  clear hI
  have HB := Aside0.mk hB
  clear hB
  unfold octet_In_Take.f at h
  by_cases hg : s0_0.size ≤ 140737488355328 ∧ 0 ≤ s0_1 ∧ s0_1 ≤ s0_0.size ∧ 0 ≤ s0_2 ∧ s0_2 ≤ 140737488355328
  · rw [if_pos hg] at h
    obtain ⟨b0, b1, b2, b3, b4⟩ := hg
    by_cases h3 : s0_3 = 0
    · rw [if_pos h3] at h
      subst h3
      have A_BAD : Aside0 (api_Fault_Bad.f 0 s0_4 = some false) := ⟨rfl⟩
      have A_LEFT : Aside0 (octet_In_Left.f s0_0 s0_1 s0_2 0 s0_4 = some (s0_0.size - s0_1, s0_0, s0_1, s0_2, 0, s0_4)) := ⟨by
        unfold octet_In_Left.f
        rw [A_BAD.out]
        simp only [Option.bind_some, Bool.false_eq_true, if_false]
        rw [show wrap64 ((s0_0.size : Int) - s0_1) = s0_0.size - s0_1 by unfold wrap64; omega]⟩
      by_cases h1 : 0 ≤ a1 ∧ a1 ≤ s0_0.size - s0_1
      · rw [if_pos h1] at h
        obtain ⟨p1, p2⟩ := h1
        simp only [Option.some.injEq, Prod.mk.injEq] at h
        obtain ⟨rfl, rfl, rfl, rfl, rfl, rfl⟩ := h
        obtain ⟨HG_, hg_⟩ := HI0.out
        have hc0 := cellS70_0 HG_
        have hc1 := cellS70_1 HG_
        have hc2 := cellS70_2 HG_
        have hc3 := cellS70_3 HG_
        have hc4 := cellS70_4 HG_
        have hf0 := blk_frozen HG_ 0
        have hf1 := blk_frozen HG_ 1
        have hf2 := blk_frozen HG_ 2
        have hf3 := blk_frozen HG_ 3
        have hf4 := blk_frozen HG_ 4
        clear HG_ hg_
        go_enter Tryd.func58, Tryd.ntmps58
        go_wp2_with (first | (go_at_call 39; (with_reducible refine (api_Fault_Bad.calls _ _ false _ A_BAD.out).mono ?_); rintro e w5 ⟨rfl, hb⟩; have n0_ := Aside0.mk (IsS70.below q_45 hb); have n1_ := Aside0.mk (KeepBut.trans q_46 (KeepBut.of_below hb g none) (.inl rfl)); have n2_ := Aside0.mk (below_step q_47 hb); clear HI0 HK HB; have HI0 := n0_; have HK := n1_; have HB := n2_; clear n0_ n1_ n2_ hb; (try clear hc0); (try clear hc1); (try clear hc2); (try clear hc3); (try clear hc4); (try clear hf0); (try clear hf1); (try clear hf2); (try clear hf3); (try clear hf4); obtain ⟨HG_, hg_⟩ := HI0.out; have hc0 := cellS70_0 HG_; have hc1 := cellS70_1 HG_; have hc2 := cellS70_2 HG_; have hc3 := cellS70_3 HG_; have hc4 := cellS70_4 HG_; have hf0 := blk_frozen HG_ 0; have hf1 := blk_frozen HG_ 1; have hf2 := blk_frozen HG_ 2; have hf3 := blk_frozen HG_ 3; have hf4 := blk_frozen HG_ 4; clear HG_ hg_) | (go_at_call 63; (with_reducible refine (octet_In_Left.calls g _ _ _ _ _ _ _ _ _ _ _ w0 _ q_45 q_47 A_LEFT.out).mono ?_); rintro e w6 ⟨rfl, hi, hb, hk⟩; have n0_ := Aside0.mk hi; have n1_ := Aside0.mk (KeepBut.trans q_46 hk (.inl rfl)); have n2_ := Aside0.mk hb; clear HI0 HK HB; have HI0 := n0_; have HK := n1_; have HB := n2_; clear n0_ n1_ n2_ hi hb hk; (try clear hc0); (try clear hc1); (try clear hc2); (try clear hc3); (try clear hc4); (try clear hf0); (try clear hf1); (try clear hf2); (try clear hf3); (try clear hf4); obtain ⟨HG_, hg_⟩ := HI0.out; have hc0 := cellS70_0 HG_; have hc1 := cellS70_1 HG_; have hc2 := cellS70_2 HG_; have hc3 := cellS70_3 HG_; have hc4 := cellS70_4 HG_; have hf0 := blk_frozen HG_ 0; have hf1 := blk_frozen HG_ 1; have hf2 := blk_frozen HG_ 2; have hf3 := blk_frozen HG_ 3; have hf4 := blk_frozen HG_ 4; clear HG_ hg_))
        have q1 : IntKind.i64.wrap (s0_1 + a1) = s0_1 + a1 := IntWalk.i64_in _ (by omega)
        have q2 : (0 : Int) ≤ s0_1 + a1 := by omega
        have q3 : s0_1 ≤ s0_1 + a1 := by omega
        have q4 : s0_1 + a1 ≤ (s0_0.size : Int) := by omega
        go_quiet (fail)
        go_wp2
        go_ret
        exact ⟨rfl, q_45, q_47, q_46⟩
      · rw [if_neg h1] at h
        simp only [Option.some.injEq, Prod.mk.injEq] at h
        obtain ⟨rfl, rfl, rfl, rfl, rfl, rfl⟩ := h
        have A_FAIL : Aside0 (octet_In_Fail.f s0_0 s0_1 s0_2 0 s0_4 1 (s0_2 + s0_0.size) = some (s0_0, s0_1, s0_2, 1, s0_2 + s0_0.size)) := ⟨by
          unfold octet_In_Fail.f
          rw [A_BAD.out]
          simp⟩
        have q1 : IntKind.i64.wrap (s0_2 + s0_0.size) = s0_2 + s0_0.size := IntWalk.i64_in _ (by omega)
        by_cases hn : a1 < 0
        · obtain ⟨HG_, hg_⟩ := HI0.out
          have hc0 := cellS70_0 HG_
          have hc1 := cellS70_1 HG_
          have hc2 := cellS70_2 HG_
          have hc3 := cellS70_3 HG_
          have hc4 := cellS70_4 HG_
          have hf0 := blk_frozen HG_ 0
          have hf1 := blk_frozen HG_ 1
          have hf2 := blk_frozen HG_ 2
          have hf3 := blk_frozen HG_ 3
          have hf4 := blk_frozen HG_ 4
          clear HG_ hg_
          go_enter Tryd.func58, Tryd.ntmps58
          go_wp2_with (first | (go_at_call 39; (with_reducible refine (api_Fault_Bad.calls _ _ false _ A_BAD.out).mono ?_); rintro e w5 ⟨rfl, hb⟩; have n0_ := Aside0.mk (IsS70.below q_45 hb); have n1_ := Aside0.mk (KeepBut.trans q_46 (KeepBut.of_below hb g none) (.inl rfl)); have n2_ := Aside0.mk (below_step q_47 hb); clear HI0 HK HB; have HI0 := n0_; have HK := n1_; have HB := n2_; clear n0_ n1_ n2_ hb; (try clear hc0); (try clear hc1); (try clear hc2); (try clear hc3); (try clear hc4); (try clear hf0); (try clear hf1); (try clear hf2); (try clear hf3); (try clear hf4); obtain ⟨HG_, hg_⟩ := HI0.out; have hc0 := cellS70_0 HG_; have hc1 := cellS70_1 HG_; have hc2 := cellS70_2 HG_; have hc3 := cellS70_3 HG_; have hc4 := cellS70_4 HG_; have hf0 := blk_frozen HG_ 0; have hf1 := blk_frozen HG_ 1; have hf2 := blk_frozen HG_ 2; have hf3 := blk_frozen HG_ 3; have hf4 := blk_frozen HG_ 4; clear HG_ hg_) | (go_at_call 63; (with_reducible refine (octet_In_Left.calls g _ _ _ _ _ _ _ _ _ _ _ w0 _ q_45 q_47 A_LEFT.out).mono ?_); rintro e w6 ⟨rfl, hi, hb, hk⟩; have n0_ := Aside0.mk hi; have n1_ := Aside0.mk (KeepBut.trans q_46 hk (.inl rfl)); have n2_ := Aside0.mk hb; clear HI0 HK HB; have HI0 := n0_; have HK := n1_; have HB := n2_; clear n0_ n1_ n2_ hi hb hk; (try clear hc0); (try clear hc1); (try clear hc2); (try clear hc3); (try clear hc4); (try clear hf0); (try clear hf1); (try clear hf2); (try clear hf3); (try clear hf4); obtain ⟨HG_, hg_⟩ := HI0.out; have hc0 := cellS70_0 HG_; have hc1 := cellS70_1 HG_; have hc2 := cellS70_2 HG_; have hc3 := cellS70_3 HG_; have hc4 := cellS70_4 HG_; have hf0 := blk_frozen HG_ 0; have hf1 := blk_frozen HG_ 1; have hf2 := blk_frozen HG_ 2; have hf3 := blk_frozen HG_ 3; have hf4 := blk_frozen HG_ 4; clear HG_ hg_))
          go_still_tail 11, (by kernel_rfl)
          go_wp2_with (first | (go_at_call 60; (with_reducible refine (octet_In_Fail.calls g _ _ _ _ _ _ _ _ _ _ _ _ w0 _ q_45 q_47 A_FAIL.out).mono ?_); rintro e w7 ⟨rfl, hi, hb, hk⟩; have n0_ := Aside0.mk hi; have n1_ := Aside0.mk (KeepBut.trans q_46 hk (.inl rfl)); have n2_ := Aside0.mk hb; clear HI0 HK HB; have HI0 := n0_; have HK := n1_; have HB := n2_; clear n0_ n1_ n2_ hi hb hk; (try clear hc0); (try clear hc1); (try clear hc2); (try clear hc3); (try clear hc4); (try clear hf0); (try clear hf1); (try clear hf2); (try clear hf3); (try clear hf4); obtain ⟨HG_, hg_⟩ := HI0.out; have hc0 := cellS70_0 HG_; have hc1 := cellS70_1 HG_; have hc2 := cellS70_2 HG_; have hc3 := cellS70_3 HG_; have hc4 := cellS70_4 HG_; have hf0 := blk_frozen HG_ 0; have hf1 := blk_frozen HG_ 1; have hf2 := blk_frozen HG_ 2; have hf3 := blk_frozen HG_ 3; have hf4 := blk_frozen HG_ 4; clear HG_ hg_))
          go_ret
          exact ⟨rfl, q_45, q_47, q_46⟩
        · have hm : s0_0.size - s0_1 < a1 := by omega
          obtain ⟨HG_, hg_⟩ := HI0.out
          have hc0 := cellS70_0 HG_
          have hc1 := cellS70_1 HG_
          have hc2 := cellS70_2 HG_
          have hc3 := cellS70_3 HG_
          have hc4 := cellS70_4 HG_
          have hf0 := blk_frozen HG_ 0
          have hf1 := blk_frozen HG_ 1
          have hf2 := blk_frozen HG_ 2
          have hf3 := blk_frozen HG_ 3
          have hf4 := blk_frozen HG_ 4
          clear HG_ hg_
          go_enter Tryd.func58, Tryd.ntmps58
          go_wp2_with (first | (go_at_call 39; (with_reducible refine (api_Fault_Bad.calls _ _ false _ A_BAD.out).mono ?_); rintro e w5 ⟨rfl, hb⟩; have n0_ := Aside0.mk (IsS70.below q_45 hb); have n1_ := Aside0.mk (KeepBut.trans q_46 (KeepBut.of_below hb g none) (.inl rfl)); have n2_ := Aside0.mk (below_step q_47 hb); clear HI0 HK HB; have HI0 := n0_; have HK := n1_; have HB := n2_; clear n0_ n1_ n2_ hb; (try clear hc0); (try clear hc1); (try clear hc2); (try clear hc3); (try clear hc4); (try clear hf0); (try clear hf1); (try clear hf2); (try clear hf3); (try clear hf4); obtain ⟨HG_, hg_⟩ := HI0.out; have hc0 := cellS70_0 HG_; have hc1 := cellS70_1 HG_; have hc2 := cellS70_2 HG_; have hc3 := cellS70_3 HG_; have hc4 := cellS70_4 HG_; have hf0 := blk_frozen HG_ 0; have hf1 := blk_frozen HG_ 1; have hf2 := blk_frozen HG_ 2; have hf3 := blk_frozen HG_ 3; have hf4 := blk_frozen HG_ 4; clear HG_ hg_) | (go_at_call 63; (with_reducible refine (octet_In_Left.calls g _ _ _ _ _ _ _ _ _ _ _ w0 _ q_45 q_47 A_LEFT.out).mono ?_); rintro e w6 ⟨rfl, hi, hb, hk⟩; have n0_ := Aside0.mk hi; have n1_ := Aside0.mk (KeepBut.trans q_46 hk (.inl rfl)); have n2_ := Aside0.mk hb; clear HI0 HK HB; have HI0 := n0_; have HK := n1_; have HB := n2_; clear n0_ n1_ n2_ hi hb hk; (try clear hc0); (try clear hc1); (try clear hc2); (try clear hc3); (try clear hc4); (try clear hf0); (try clear hf1); (try clear hf2); (try clear hf3); (try clear hf4); obtain ⟨HG_, hg_⟩ := HI0.out; have hc0 := cellS70_0 HG_; have hc1 := cellS70_1 HG_; have hc2 := cellS70_2 HG_; have hc3 := cellS70_3 HG_; have hc4 := cellS70_4 HG_; have hf0 := blk_frozen HG_ 0; have hf1 := blk_frozen HG_ 1; have hf2 := blk_frozen HG_ 2; have hf3 := blk_frozen HG_ 3; have hf4 := blk_frozen HG_ 4; clear HG_ hg_))
          go_still_tail 11, (by kernel_rfl)
          go_wp2_with (first | (go_at_call 60; (with_reducible refine (octet_In_Fail.calls g _ _ _ _ _ _ _ _ _ _ _ _ w0 _ q_45 q_47 A_FAIL.out).mono ?_); rintro e w7 ⟨rfl, hi, hb, hk⟩; have n0_ := Aside0.mk hi; have n1_ := Aside0.mk (KeepBut.trans q_46 hk (.inl rfl)); have n2_ := Aside0.mk hb; clear HI0 HK HB; have HI0 := n0_; have HK := n1_; have HB := n2_; clear n0_ n1_ n2_ hi hb hk; (try clear hc0); (try clear hc1); (try clear hc2); (try clear hc3); (try clear hc4); (try clear hf0); (try clear hf1); (try clear hf2); (try clear hf3); (try clear hf4); obtain ⟨HG_, hg_⟩ := HI0.out; have hc0 := cellS70_0 HG_; have hc1 := cellS70_1 HG_; have hc2 := cellS70_2 HG_; have hc3 := cellS70_3 HG_; have hc4 := cellS70_4 HG_; have hf0 := blk_frozen HG_ 0; have hf1 := blk_frozen HG_ 1; have hf2 := blk_frozen HG_ 2; have hf3 := blk_frozen HG_ 3; have hf4 := blk_frozen HG_ 4; clear HG_ hg_))
          go_ret
          exact ⟨rfl, q_45, q_47, q_46⟩
    · rw [if_neg h3] at h
      simp only [Option.some.injEq, Prod.mk.injEq] at h
      obtain ⟨rfl, rfl, rfl, rfl, rfl, rfl⟩ := h
      have A_BAD : Aside0 (api_Fault_Bad.f s0_3 s0_4 = some true) := ⟨by simp [api_Fault_Bad.f, h3]⟩
      obtain ⟨HG_, hg_⟩ := HI0.out
      have hc0 := cellS70_0 HG_
      have hc1 := cellS70_1 HG_
      have hc2 := cellS70_2 HG_
      have hc3 := cellS70_3 HG_
      have hc4 := cellS70_4 HG_
      have hf0 := blk_frozen HG_ 0
      have hf1 := blk_frozen HG_ 1
      have hf2 := blk_frozen HG_ 2
      have hf3 := blk_frozen HG_ 3
      have hf4 := blk_frozen HG_ 4
      clear HG_ hg_
      go_enter Tryd.func58, Tryd.ntmps58
      go_wp2_with (first | (go_at_call 39; (with_reducible refine (api_Fault_Bad.calls _ _ true _ A_BAD.out).mono ?_); rintro e w5 ⟨rfl, hb⟩; have n0_ := Aside0.mk (IsS70.below q_45 hb); have n1_ := Aside0.mk (KeepBut.trans q_46 (KeepBut.of_below hb g none) (.inl rfl)); have n2_ := Aside0.mk (below_step q_47 hb); clear HI0 HK HB; have HI0 := n0_; have HK := n1_; have HB := n2_; clear n0_ n1_ n2_ hb; (try clear hc0); (try clear hc1); (try clear hc2); (try clear hc3); (try clear hc4); (try clear hf0); (try clear hf1); (try clear hf2); (try clear hf3); (try clear hf4); obtain ⟨HG_, hg_⟩ := HI0.out; have hc0 := cellS70_0 HG_; have hc1 := cellS70_1 HG_; have hc2 := cellS70_2 HG_; have hc3 := cellS70_3 HG_; have hc4 := cellS70_4 HG_; have hf0 := blk_frozen HG_ 0; have hf1 := blk_frozen HG_ 1; have hf2 := blk_frozen HG_ 2; have hf3 := blk_frozen HG_ 3; have hf4 := blk_frozen HG_ 4; clear HG_ hg_))
      go_ret
      exact ⟨rfl, q_45, q_47, q_46⟩
  · rw [if_neg hg] at h
    exact absurd h (by simp)


/-! ### frame_name: function 55 -/
def frame_name.l0 : Nat → Int → ByteArray → Int → Int → ByteArray → Int → Int → Int → Int → Option (ByteArray × ByteArray × Int × Int × Int × Int)
  | 0, _, _, _, _, _, _, _, _, _ => none
  | k + 1, x5, x6, x15, x16, x1000, x1001, x1002, x1003, x1004 => if x16 < x15 then (if 0 ≤ x16 then (if x16 < (x6.size : Int) then ((frame_letter.f (bt x6 x16)).bind fun t234 => (if t234 = true then (frame_name.l0 k x5 x6 x15 (wrap64 (x16 + 1)) x1000 x1001 x1002 x1003 x1004) else ((octet_In_Fail.f x1000 x1001 x1002 x1003 x1004 1 (wrap64 (x5 + x16))).bind fun bt235 => (some ((⟨#[]⟩ : ByteArray), bt235.1, bt235.2.1, bt235.2.2.1, bt235.2.2.2.1, bt235.2.2.2.2))))) else (none)) else (none)) else (some (x6, x1000, x1001, x1002, x1003, x1004))
def frame_name.f (k : Nat) (s0_0 : ByteArray) (s0_1 : Int) (s0_2 : Int) (s0_3 : Int) (s0_4 : Int) (a1 : Int) : Option (ByteArray × ByteArray × Int × Int × Int × Int) := (octet_In_At.f s0_0 s0_1 s0_2 s0_3 s0_4).bind fun bt221 => ((frame_Letters.f a1).bind fun t227 => ((octet_In_Take.f bt221.2.1 bt221.2.2.1 bt221.2.2.2.1 bt221.2.2.2.2.1 bt221.2.2.2.2.2 t227).bind fun bt228 => (frame_name.l0 k bt221.1 bt228.1 (bt228.1.size : Int) 0 bt228.2.1 bt228.2.2.1 bt228.2.2.2.1 bt228.2.2.2.2.1 bt228.2.2.2.2.2)))
theorem frame_name.mono_l : ∀ k, (∀ y0 y1 y2 y3 y4 y5 y6 y7 y8, LeO (frame_name.l0 k y0 y1 y2 y3 y4 y5 y6 y7 y8) (frame_name.l0 (k + 1) y0 y1 y2 y3 y4 y5 y6 y7 y8))
  | 0 => fun _ _ _ _ _ _ _ _ _ r h => by simp [frame_name.l0] at h
  | k + 1 => by
    have ih0 := frame_name.mono_l k
    · intro y0 y1 y2 y3 y4 y5 y6 y7 y8
      unfold frame_name.l0
      repeat' first
      | (with_reducible exact ih0 _ _ _ _ _ _ _ _ _)
      | (with_reducible exact LeO.refl _)
      | (with_reducible exact LeO.none _)
      | (with_reducible refine LeO.ite ?_ ?_)
      | (with_reducible refine LeO.bind ?_ (fun _ => ?_))
      | exact ih0 _ _ _ _ _ _ _ _ _
      | exact LeO.none _
      | refine LeO.ite ?_ ?_
      | refine LeO.bind ?_ (fun _ => ?_)
theorem frame_name.mono : ∀ a0 a1 a2 a3 a4 a5 k, LeO (frame_name.f k a0 a1 a2 a3 a4 a5) (frame_name.f (k + 1) a0 a1 a2 a3 a4 a5) := by
  intro a0 a1 a2 a3 a4 a5 k
  have ih0 := frame_name.mono_l k
  unfold frame_name.f
  repeat' first
      | (with_reducible exact ih0 _ _ _ _ _ _ _ _ _)
      | (with_reducible exact LeO.refl _)
      | (with_reducible exact LeO.none _)
      | (with_reducible refine LeO.ite ?_ ?_)
      | (with_reducible refine LeO.bind ?_ (fun _ => ?_))
      | exact ih0 _ _ _ _ _ _ _ _ _
      | exact LeO.none _
      | refine LeO.ite ?_ ?_
      | refine LeO.bind ?_ (fun _ => ?_)
set_option maxHeartbeats 8000000 in
set_option maxRecDepth 100000 in
theorem frame_name.calls (k : Nat) (g : Nat) (s0_0 : ByteArray) (s0_1 : Int) (s0_2 : Int) (s0_3 : Int) (s0_4 : Int) (a1 : Int) (r1 : ByteArray) (r2 : ByteArray) (r3 : Int) (r4 : Int) (r5 : Int) (r6 : Int) (w0 w : World) (hI : IsS70 w0 w g s0_0 s0_1 s0_2 s0_3 s0_4) (hB : Below w0.heap.size w0 w) (h : frame_name.f k s0_0 s0_1 s0_2 s0_3 s0_4 a1 = some (r1, r2, r3, r4, r5, r6)) :
    Calls Tryd.prog 55 #[.pointer (some ⟨g, 0, none⟩), .int .i64 a1] w fun e w' => e = .returned (.string r1) ∧ IsS70 w0 w' g r2 r3 r4 r5 r6 ∧ Below w0.heap.size w0 w' ∧ KeepBut w w' g none := by
  have HI0 := Aside0.mk hI
  have HK := Aside0.mk (KeepBut.refl w g none)
  have HL := Aside0.mk hB.size
  clear hI
  have HW0 := Aside0.mk hB.size
  have HB := Aside0.mk hB
  clear hB
  have H : ((octet_In_At.f s0_0 s0_1 s0_2 s0_3 s0_4).bind fun bt221 => ((frame_Letters.f a1).bind fun t227 => ((octet_In_Take.f bt221.2.1 bt221.2.2.1 bt221.2.2.2.1 bt221.2.2.2.2.1 bt221.2.2.2.2.2 t227).bind fun bt228 => (frame_name.l0 k bt221.1 bt228.1 (bt228.1.size : Int) 0 bt228.2.1 bt228.2.2.1 bt228.2.2.2.1 bt228.2.2.2.2.1 bt228.2.2.2.2.2)))) = some (r1, r2, r3, r4, r5, r6) := h
  clear h
  replace H := Option.bind_eq_some_iff.mp H
  obtain ⟨⟨t221, t222, t223, t224, t225, t226⟩, A30, H⟩ := H
  replace H : ((frame_Letters.f a1).bind fun t227 => ((octet_In_Take.f t222 t223 t224 t225 t226 t227).bind fun bt228 => (frame_name.l0 k t221 bt228.1 (bt228.1.size : Int) 0 bt228.2.1 bt228.2.2.1 bt228.2.2.2.1 bt228.2.2.2.2.1 bt228.2.2.2.2.2))) = some (r1, r2, r3, r4, r5, r6) := H
  have A3 := Aside0.mk A30
  clear A30
  replace H := Option.bind_eq_some_iff.mp H
  obtain ⟨t227, A40, H⟩ := H
  replace H : ((octet_In_Take.f t222 t223 t224 t225 t226 t227).bind fun bt228 => (frame_name.l0 k t221 bt228.1 (bt228.1.size : Int) 0 bt228.2.1 bt228.2.2.1 bt228.2.2.2.1 bt228.2.2.2.2.1 bt228.2.2.2.2.2)) = some (r1, r2, r3, r4, r5, r6) := H
  have A4 := Aside0.mk A40
  clear A40
  replace H := Option.bind_eq_some_iff.mp H
  obtain ⟨⟨t228, t229, t230, t231, t232, t233⟩, A50, H⟩ := H
  replace H : (frame_name.l0 k t221 t228 (t228.size : Int) 0 t229 t230 t231 t232 t233) = some (r1, r2, r3, r4, r5, r6) := H
  have A5 := Aside0.mk A50
  clear A50
  have H' := Aside0.mk H
  clear H
  go_enter Tryd.func55, Tryd.ntmps55
  go_wp2_with (first | ((with_reducible refine gate_callee (f := 54) rfl ?_); refine goesL_ (some 9) rfl rfl Tryd.func54 (by kernel_rfl) rfl #[.pointer (some ⟨g, 0, none⟩)] rfl q_7 ?_; (with_reducible refine (octet_In_At.calls g s0_0 s0_1 s0_2 s0_3 s0_4 t221 t222 t223 t224 t225 t226 w0 _ ?side1 ?side2 A3.out).mono ?_); (case side1 => repeat (first | (with_reducible first | exact HI0.out | apply IsS70.alloc | apply IsS70.drewN | apply IsS70.drew | apply IsS70.set_0 | apply IsS70.set_1 | apply IsS70.set_2 | apply IsS70.set_3 | apply IsS70.set_4) | exact HI0.out)); (case side2 => repeat (first | (with_reducible first | exact HB.out | apply below_alloc | apply pw_below_drewN | apply below_drew1 | refine below_set ?_ (IsS70.ge HI0.out)) | exact HB.out)); rintro e w6 ⟨rfl, hi, hb, hk⟩; refine ⟨_, rfl, ?_⟩; have n0_ := Aside0.mk (KeepBut.trans q_46 hk (.inl rfl)); have n1_ := Aside0.mk (hb); have n2_ := Aside0.mk (hi); clear HK; clear HB; clear HI0; have HK := n0_; have HB := n1_; have HI0 := n2_; clear n0_ n1_ n2_; (try clear hb); (try clear hb2); (try clear hk); (try clear hi)) | ((with_reducible refine gate_callee (f := 27) rfl ?_); refine goesL_ (some 12) rfl rfl Tryd.func27 (by kernel_rfl) rfl #[.int .i64 a1] rfl q_7 ?_; (with_reducible refine (frame_Letters.calls a1 t227 _ A4.out).mono ?_); rintro e w' ⟨rfl, ⟨nd, rfl⟩⟩; refine ⟨_, rfl, ?_⟩) | ((with_reducible refine gate_callee (f := 58) rfl ?_); refine goesL_ (some 13) rfl rfl Tryd.func58 (by kernel_rfl) rfl #[.pointer (some ⟨g, 0, none⟩), .int .i64 t227] rfl q_7 ?_; (with_reducible refine (octet_In_Take.calls g t222 t223 t224 t225 t226 t227 t228 t229 t230 t231 t232 t233 w0 _ ?side1 ?side2 A5.out).mono ?_); (case side1 => repeat (first | (with_reducible first | exact HI0.out | apply IsS70.alloc | apply IsS70.drewN | apply IsS70.drew | apply IsS70.set_0 | apply IsS70.set_1 | apply IsS70.set_2 | apply IsS70.set_3 | apply IsS70.set_4) | exact HI0.out)); (case side2 => repeat (first | (with_reducible first | exact HB.out | apply below_alloc | apply pw_below_drewN | apply below_drew1 | refine below_set ?_ (IsS70.ge HI0.out)) | exact HB.out)); rintro e w7 ⟨rfl, hi, hb, hk⟩; refine ⟨_, rfl, ?_⟩; have n0_ := Aside0.mk (KeepBut.trans q_46 hk (.inl rfl)); have n1_ := Aside0.mk (hb); have n2_ := Aside0.mk (hi); clear HK; clear HB; clear HI0; have HK := n0_; have HB := n1_; have HI0 := n2_; clear n0_ n1_ n2_; (try clear hb); (try clear hb2); (try clear hk); (try clear hi)))
  go_loopg [16] k (fun kq v16 w' => ∃ (x16_1 : Int) (x1000_1 : ByteArray) (x1001_1 : Int) (x1002_1 : Int) (x1003_1 : Int) (x1004_1 : Int), v16 = .int .i64 x16_1 ∧ Aside0 (frame_name.l0 kq t221 t228 (t228.size : Int) x16_1 x1000_1 x1001_1 x1002_1 x1003_1 x1004_1 = some (r1, r2, r3, r4, r5, r6)) ∧ Aside0 (kq ≤ k) ∧ Aside0 (IsS70 w0 w' g x1000_1 x1001_1 x1002_1 x1003_1 x1004_1) ∧ Aside0 (KeepBut w w' g none) ∧ Aside0 (Below w0.heap.size w0 w'))
  case atStart => exact ⟨(0), (t229), (t230), (t231), (t232), (t233), q_1, H', ⟨Nat.le_refl _⟩, ⟨q_45⟩, ⟨q_46⟩, ⟨q_47⟩⟩
  case round =>
    clear H'
    try clear c2; try clear p2; try clear c5
    obtain ⟨x16_1, x1000_1, x1001_1, x1002_1, x1003_1, x1004_1, rfl, HA, HK1, HI0, HK, HB⟩ := hrel
    cases gk with
    | zero => exact absurd HA.out (by simp [frame_name.l0])
    | succ k1 =>
      have H := HA.out
      clear HA
      simp only [frame_name.l0] at H
      by_cases c8 : x16_1 < (t228.size : Int)
      · rw [if_pos c8] at H
        have c8b0 : decide (x16_1 < (t228.size : Int)) = true := decide_eq_true c8
        clear c8
        by_cases c9 : 0 ≤ x16_1
        · rw [if_pos c9] at H
          have c9b0 : decide (0 ≤ x16_1) = true := decide_eq_true c9
          clear c9
          by_cases c10 : x16_1 < (t228.size : Int)
          · rw [if_pos c10] at H
            have c10b0 : decide (x16_1 < (t228.size : Int)) = true := decide_eq_true c10
            clear c10
            replace H := Option.bind_eq_some_iff.mp H
            obtain ⟨t234, A120, H⟩ := H
            replace H : (if t234 = true then (frame_name.l0 k1 t221 t228 (t228.size : Int) (wrap64 (x16_1 + 1)) x1000_1 x1001_1 x1002_1 x1003_1 x1004_1) else ((octet_In_Fail.f x1000_1 x1001_1 x1002_1 x1003_1 x1004_1 1 (wrap64 (t221 + x16_1))).bind fun bt235 => (some ((⟨#[]⟩ : ByteArray), bt235.1, bt235.2.1, bt235.2.2.1, bt235.2.2.2.1, bt235.2.2.2.2)))) = some (r1, r2, r3, r4, r5, r6) := H
            have A12 := Aside0.mk A120
            clear A120
            by_cases c13 : t234 = true
            · subst c13
              have H1 : (frame_name.l0 k1 t221 t228 (t228.size : Int) (wrap64 (x16_1 + 1)) x1000_1 x1001_1 x1002_1 x1003_1 x1004_1) = some (r1, r2, r3, r4, r5, r6) := by rw [if_pos rfl] at H; exact H
              clear H
              have H := H1
              clear H1
              have H' := Aside0.mk H
              clear H
              have p11 : 0 ≤ (x16_1 : Int) := of_decide_eq_true q_2
              have q11 : x16_1 < (t228.size : Int) := of_decide_eq_true q_2
              have hx11 := bt_at t228 x16_1
              replace p11 := eq_true p11
              replace q11 := eq_true q11
              go_wp2_with (first | ((with_reducible refine gate_callee (f := 47) rfl ?_); refine goesL_ (some 22) rfl rfl Tryd.func47 (by kernel_rfl) rfl #[.int .u8 (bt t228 x16_1)] rfl q_7 ?_; (with_reducible refine (frame_letter.calls (bt t228 x16_1) true _ A12.out).mono ?_); rintro e w' ⟨rfl, ⟨nd, rfl⟩⟩; refine ⟨_, rfl, ?_⟩))
              go_roundg k1
              case measure => have := HK1.out; omega
              case rel => exact ⟨(wrap64 (x16_1 + 1)), (x1000_1), (x1001_1), (x1002_1), (x1003_1), (x1004_1), q_1, H', ⟨by have := HK1.out; omega⟩, ⟨q_45⟩, ⟨q_46⟩, ⟨q_47⟩⟩
            · replace c13 := Bool.eq_false_iff.mpr c13
              subst c13
              have H1 : ((octet_In_Fail.f x1000_1 x1001_1 x1002_1 x1003_1 x1004_1 1 (wrap64 (t221 + x16_1))).bind fun bt235 => (some ((⟨#[]⟩ : ByteArray), bt235.1, bt235.2.1, bt235.2.2.1, bt235.2.2.2.1, bt235.2.2.2.2))) = some (r1, r2, r3, r4, r5, r6) := by rw [if_neg (show ¬ (false = true) by decide)] at H; exact H
              clear H
              have H := H1
              clear H1
              replace H := Option.bind_eq_some_iff.mp H
              obtain ⟨⟨t235, t236, t237, t238, t239⟩, A140, H⟩ := H
              replace H : (some ((⟨#[]⟩ : ByteArray), t235, t236, t237, t238, t239)) = some (r1, r2, r3, r4, r5, r6) := H
              have A14 := Aside0.mk A140
              clear A140
              simp only [Option.some.injEq, Prod.mk.injEq] at H
              obtain ⟨rfl, rfl, rfl, rfl, rfl, rfl⟩ := H
              have p11 : 0 ≤ (x16_1 : Int) := of_decide_eq_true q_2
              have q11 : x16_1 < (t228.size : Int) := of_decide_eq_true q_2
              have hx11 := bt_at t228 x16_1
              replace p11 := eq_true p11
              replace q11 := eq_true q11
              go_wp2_with (first | ((with_reducible refine gate_callee (f := 47) rfl ?_); refine goesL_ (some 22) rfl rfl Tryd.func47 (by kernel_rfl) rfl #[.int .u8 (bt t228 x16_1)] rfl q_7 ?_; (with_reducible refine (frame_letter.calls (bt t228 x16_1) false _ A12.out).mono ?_); rintro e w' ⟨rfl, ⟨nd, rfl⟩⟩; refine ⟨_, rfl, ?_⟩) | ((with_reducible refine gate_callee (f := 60) rfl ?_); refine goesL_ (some 28) rfl rfl Tryd.func60 (by kernel_rfl) rfl #[.pointer (some ⟨g, 0, none⟩), .int .i64 1, .int .i64 (wrap64 (t221 + x16_1))] rfl q_7 ?_; (with_reducible refine (octet_In_Fail.calls g x1000_1 x1001_1 x1002_1 x1003_1 x1004_1 1 (wrap64 (t221 + x16_1)) t235 t236 t237 t238 t239 w0 _ ?side1 ?side2 A14.out).mono ?_); (case side1 => repeat (first | (with_reducible first | exact HI0.out | apply IsS70.alloc | apply IsS70.drewN | apply IsS70.drew | apply IsS70.set_0 | apply IsS70.set_1 | apply IsS70.set_2 | apply IsS70.set_3 | apply IsS70.set_4) | exact HI0.out)); (case side2 => repeat (first | (with_reducible first | exact HB.out | apply below_alloc | apply pw_below_drewN | apply below_drew1 | refine below_set ?_ (IsS70.ge HI0.out)) | exact HB.out)); rintro e w15 ⟨rfl, hi, hb, hk⟩; refine ⟨_, rfl, ?_⟩; have n0_ := Aside0.mk (KeepBut.trans q_46 hk (.inl rfl)); have n1_ := Aside0.mk (hb); have n2_ := Aside0.mk (hi); clear HK; clear HB; clear HI0; have HK := n0_; have HB := n1_; have HI0 := n2_; clear n0_ n1_ n2_; (try clear hb); (try clear hb2); (try clear hk); (try clear hi)))
              go_ret
              exact ⟨q_11, q_45, q_47, q_46⟩
          · rw [if_neg c10] at H
            exact absurd H (by simp)
        · rw [if_neg c9] at H
          exact absurd H (by simp)
      · rw [if_neg c8] at H
        have c8b0 : decide (x16_1 < (t228.size : Int)) = false := decide_eq_false c8
        clear c8
        simp only [Option.some.injEq, Prod.mk.injEq] at H
        obtain ⟨rfl, rfl, rfl, rfl, rfl, rfl⟩ := H
        go_wp2
        go_ret
        exact ⟨q_11, q_45, q_47, q_46⟩

/-! ### octet_In_Big: function 57 -/
/-- What a number is, with one byte more behind it. -/
def bigStep (n c : Int) : Int := Go.bits .or .u64 (IntKind.u64.wrap (n * 256)) c
def bigOf (l : List Int) : Int := l.foldl bigStep 0
theorem bigOf_snoc (l : List Int) (c : Int) : bigOf (l ++ [c]) = bigStep (bigOf l) c := by simp [bigOf]
theorem byte_getD (s : ByteArray) (k : Nat) : 0 ≤ (bytesOf s).getD k 0 ∧ (bytesOf s).getD k 0 ≤ 255 := by
  have h := rd_bytesOf s (k : Int)
  unfold rd at h
  rw [Int.toNat_natCast] at h
  rw [h]
  exact bt_range _ _
theorem u64_byte (c : Int) (h : 0 ≤ c ∧ c ≤ 255) : IntKind.u64.wrap c = c := by
  simp [IntKind.wrap, IntKind.bits, IntKind.signed]; omega
theorem take_snoc_rd (l : List Int) (k : Nat) (h : k < l.length) : l.take (k + 1) = l.take k ++ [l.getD k 0] := by
  rw [List.take_succ_eq_append_getElem h, List.getD_eq_getElem?_getD, List.getElem?_eq_getElem h]; rfl
def octet_In_Big.f (s0_0 : ByteArray) (s0_1 : Int) (s0_2 : Int) (s0_3 : Int) (s0_4 : Int) (a1 : Int) : Option (Int × ByteArray × Int × Int × Int × Int) :=
  (octet_In_Take.f s0_0 s0_1 s0_2 s0_3 s0_4 (mn (mx a1 0) 8)).bind fun t => if t.1.size ≤ 140737488355328 then some (bigOf (bytesOf t.1), t.2) else none
set_option maxHeartbeats 8000000 in
set_option maxRecDepth 100000 in
theorem octet_In_Big.calls (g : Nat) (s0_0 : ByteArray) (s0_1 : Int) (s0_2 : Int) (s0_3 : Int) (s0_4 : Int) (a1 : Int) (r1 : Int) (r2 : ByteArray) (r3 : Int) (r4 : Int) (r5 : Int) (r6 : Int) (w0 w : World) (hI : IsS70 w0 w g s0_0 s0_1 s0_2 s0_3 s0_4) (hB : Below w0.heap.size w0 w) (h : octet_In_Big.f s0_0 s0_1 s0_2 s0_3 s0_4 a1 = some (r1, r2, r3, r4, r5, r6)) :
    Calls Tryd.prog 57 #[.pointer (some ⟨g, 0, none⟩), .int .i64 a1] w fun e w' => e = .returned (.int .u64 r1) ∧ IsS70 w0 w' g r2 r3 r4 r5 r6 ∧ Below w0.heap.size w0 w' ∧ KeepBut w w' g none := by
  have h' := h
  unfold octet_In_Big.f at h'
  replace h' := Option.bind_eq_some_iff.mp h'
  obtain ⟨⟨s, s2, s3, s4, s5, s6⟩, ht, h'⟩ := h'
  dsimp only at h'
  by_cases hsz0 : s.size ≤ 140737488355328
  case neg => rw [if_neg hsz0] at h'; exact absurd h' (by simp)
  rw [if_pos hsz0] at h'
  simp only [Option.some.injEq, Prod.mk.injEq] at h'
  obtain ⟨rfl, rfl, rfl, rfl, rfl, rfl⟩ := h'
  clear h
  have hsz : s.size ≤ 9223372036854775807 := by omega
  obtain ⟨ji3, hji3⟩ : ∃ j_ : Int, (mx a1 0) = j_ := ⟨_, rfl⟩
  rw [hji3] at ht
  have hji3_ : (if a1 < 0 then 0 else a1) = ji3 := hji3
  obtain ⟨ji4, hji4⟩ : ∃ j_ : Int, (mn ji3 8) = j_ := ⟨_, rfl⟩
  rw [hji4] at ht
  have hji4_ : (if 8 < ji3 then 8 else ji3) = ji4 := hji4
  clear hji3 hji4
  have A_TAKE := Aside0.mk ht
  clear ht
  have hu := Tryd.underlying39
  have HI0 := Aside0.mk hI
  have HK := Aside0.mk (KeepBut.refl w g none)
  clear hI
  have HB := Aside0.mk hB
  clear hB
  have kb := fun W => print_bytes (P := Tryd.prog) 9 60 5 Tryd.underlying9 Tryd.underlying60 Tryd.underlying5 s W
  go_enter Tryd.func57, Tryd.ntmps57
  go_wp2_with (first | (go_at_call 58; (with_reducible refine (octet_In_Take.calls g _ _ _ _ _ _ _ _ _ _ _ _ w0 _ q_45 q_47 A_TAKE.out).mono ?_); rintro e w8 ⟨rfl, hi, hb, hk⟩; have n0_ := Aside0.mk hi; have n1_ := Aside0.mk (KeepBut.trans q_46 hk (.inl rfl)); have n2_ := Aside0.mk hb; clear HI0 HK HB; have HI0 := n0_; have HK := n1_; have HB := n2_; clear n0_ n1_ n2_ hi hb hk; (try clear hc0); (try clear hc1); (try clear hc2); (try clear hc3); (try clear hc4); (try clear hf0); (try clear hf1); (try clear hf2); (try clear hf3); (try clear hf4)))
  have hbl : (bytesOf s).length = s.size := bytesOf_length s
  have HBL := Aside0.mk hbl
  clear hbl
  have HSZ := Aside0.mk hsz0
  go_loop [5, 7, 15] (fun n c i => ∃ k : Nat, k ≤ s.size ∧ i = .int .i64 k ∧ n = .int .u64 (bigOf ((bytesOf s).take k))) (fun _ _ i => s.size - (intOf i).toNat)
  case atStart => exact ⟨0, Nat.zero_le _, rfl, rfl⟩
  case round =>
    obtain ⟨k, hk, rfl, rfl⟩ := hrel
    by_cases hlt : k < s.size
    · have hcell : (Lib.bytesWorld w8 5 s).cell? ⟨w8.heap.size, k, none⟩ = some (.int .u8 ((bytesOf s).getD k 0)) := by
        rw [Lib.bytesWorld_cell _ _ _ _ hlt]
        have h' : k < s.data.toList.length := by rw [data_length]; exact hlt
        simp [bytesOf, List.getD_eq_getElem?_getD, List.getElem?_eq_getElem h']
      have HCB := Aside0.mk (u64_byte _ (byte_getD s k))
      generalize hc : (bytesOf s).getD k 0 = c at hcell HCB
      have hsn : bigOf ((bytesOf s).take (k + 1)) = Go.bits .or .u64 (IntKind.u64.wrap (bigOf ((bytesOf s).take k) * 256)) c := by
        rw [take_snoc_rd _ _ (by rw [HBL.out]; exact hlt), bigOf_snoc, hc]; rfl
      have HSN := Aside0.mk hsn
      clear hsn hc
      generalize bigOf ((bytesOf s).take k) = n0 at HSN ⊢
      go_wp2
      go_round
      case rel => exact ⟨k + 1, by omega, by go_num, by rw [HSN.out, HCB.out]⟩
      case measure => simp [intOf]; omega
    · have hk' : k = s.size := by omega
      rw [List.take_of_length_le (by rw [HBL.out]; omega)]
      go_wp2
      go_ret
      have HI1 := Aside0.mk (IsS70.below HI0.out (bytes_below (Below.refl _ _) (Nat.le_refl _) 5 s))
      have HK1 := Aside0.mk (KeepBut.trans HK.out (KeepBut.of_below (bytes_below (Below.refl _ _) (Nat.le_refl _) 5 s) g none) (.inl rfl))
      have HB1 := Aside0.mk (bytes_below HB.out HB.out.size 5 s)
      exact ⟨rfl, HI1.out, HB1.out, HK1.out⟩


/-! ### octet_In_Safe: function 67 -/
/-- Where the first byte of 128 or more stands. -/
def badAt : List Int → Nat → Option Nat
  | [], _ => none
  | c :: l, i => if 128 ≤ c then some i else badAt l (i + 1)
def safeStep (n c : Int) : Int := Go.bits .or .i64 (wrap64 (n * 128)) c
def safeOf (l : List Int) : Int := l.foldl safeStep 0
theorem safeOf_snoc (l : List Int) (c : Int) : safeOf (l ++ [c]) = safeStep (safeOf l) c := by simp [safeOf]
theorem badAt_none : ∀ (l : List Int) (i : Nat), (∀ j, j < l.length → l.getD j 0 < 128) → badAt l i = none
  | [], _, _ => rfl
  | c :: l, i, h => by
    have h0 := h 0 (by simp)
    simp only [List.getD_cons_zero] at h0
    rw [badAt, if_neg (by omega)]
    exact badAt_none l (i + 1) (fun j hj => by have := h (j + 1) (by simp; omega); simpa using this)
theorem badAt_some : ∀ (l : List Int) (i k : Nat), (∀ j, j < k → l.getD j 0 < 128) → k < l.length → 128 ≤ l.getD k 0 → badAt l i = some (i + k)
  | [], _, _, _, h, _ => by simp at h
  | c :: l, i, 0, _, _, h => by
    simp only [List.getD_cons_zero] at h
    rw [badAt, if_pos h]; rfl
  | c :: l, i, k + 1, h, hk, hc => by
    have h0 := h 0 (by omega)
    simp only [List.getD_cons_zero] at h0
    rw [badAt, if_neg (by omega), badAt_some l (i + 1) k (fun j hj => by have := h (j + 1) (by omega); simpa using this) (by simpa using hk) (by simpa using hc)]
    congr 1; omega
def octet_In_Safe.f (s0_0 : ByteArray) (s0_1 : Int) (s0_2 : Int) (s0_3 : Int) (s0_4 : Int) : Option (Int × ByteArray × Int × Int × Int × Int) :=
  (octet_In_Take.f s0_0 s0_1 s0_2 s0_3 s0_4 4).bind fun t =>
    if t.1.size ≤ 4 ∧ 0 ≤ s0_1 ∧ s0_1 ≤ 140737488355328 ∧ 0 ≤ s0_2 ∧ s0_2 ≤ 140737488355328 then
      (match badAt (bytesOf t.1) 0 with
      | none => some (safeOf (bytesOf t.1), t.2)
      | some i => (octet_In_Fail.f t.2.1 t.2.2.1 t.2.2.2.1 t.2.2.2.2.1 t.2.2.2.2.2 1 (s0_2 + s0_1 + i)).bind fun u => some (0, u))
    else none
set_option maxHeartbeats 8000000 in
set_option maxRecDepth 100000 in
theorem octet_In_Safe.calls (g : Nat) (s0_0 : ByteArray) (s0_1 : Int) (s0_2 : Int) (s0_3 : Int) (s0_4 : Int) (r1 : Int) (r2 : ByteArray) (r3 : Int) (r4 : Int) (r5 : Int) (r6 : Int) (w0 w : World) (hI : IsS70 w0 w g s0_0 s0_1 s0_2 s0_3 s0_4) (hB : Below w0.heap.size w0 w) (h : octet_In_Safe.f s0_0 s0_1 s0_2 s0_3 s0_4 = some (r1, r2, r3, r4, r5, r6)) :
    Calls Tryd.prog 67 #[.pointer (some ⟨g, 0, none⟩)] w fun e w' => e = .returned (.int .i64 r1) ∧ IsS70 w0 w' g r2 r3 r4 r5 r6 ∧ Below w0.heap.size w0 w' ∧ KeepBut w w' g none := by
  unfold octet_In_Safe.f at h
  replace h := Option.bind_eq_some_iff.mp h
  obtain ⟨⟨s, s2, s3, s4, s5, s6⟩, ht, h⟩ := h
  dsimp only at h
  by_cases hg : s.size ≤ 4 ∧ 0 ≤ s0_1 ∧ s0_1 ≤ 140737488355328 ∧ 0 ≤ s0_2 ∧ s0_2 ≤ 140737488355328
  case neg => rw [if_neg hg] at h; exact absurd h (by simp)
  rw [if_pos hg] at h
  obtain ⟨hsz0, g1, g2, g3, g4⟩ := hg
  have H := Aside0.mk h
  clear h
  have hsz : s.size ≤ 9223372036854775807 := by omega
  have A_TAKE := Aside0.mk ht
  clear ht
  have A_AT : Aside0 (octet_In_At.f s0_0 s0_1 s0_2 s0_3 s0_4 = some (s0_2 + s0_1, s0_0, s0_1, s0_2, s0_3, s0_4)) := ⟨by
    unfold octet_In_At.f
    rw [show wrap64 (s0_2 + s0_1) = s0_2 + s0_1 by unfold wrap64; omega]⟩
  have hu := Tryd.underlying39
  have HI0 := Aside0.mk hI
  have HK := Aside0.mk (KeepBut.refl w g none)
  clear hI
  have HB := Aside0.mk hB
  clear hB
  have kb := fun W => print_bytes (P := Tryd.prog) 9 60 5 Tryd.underlying9 Tryd.underlying60 Tryd.underlying5 s W
  go_enter Tryd.func67, Tryd.ntmps67
  go_wp2_with (first | (go_at_call 54; (with_reducible refine (octet_In_At.calls g _ _ _ _ _ _ _ _ _ _ _ w0 _ q_45 q_47 A_AT.out).mono ?_); rintro e w6 ⟨rfl, hi, hb, hk⟩; have n0_ := Aside0.mk hi; have n1_ := Aside0.mk (KeepBut.trans q_46 hk (.inl rfl)); have n2_ := Aside0.mk hb; clear HI0 HK HB; have HI0 := n0_; have HK := n1_; have HB := n2_; clear n0_ n1_ n2_ hi hb hk) | (go_at_call 58; (with_reducible refine (octet_In_Take.calls g _ _ _ _ _ _ _ _ _ _ _ _ w0 _ q_45 q_47 A_TAKE.out).mono ?_); rintro e w8 ⟨rfl, hi, hb, hk⟩; have n0_ := Aside0.mk hi; have n1_ := Aside0.mk (KeepBut.trans q_46 hk (.inl rfl)); have n2_ := Aside0.mk hb; clear HI0 HK HB; have HI0 := n0_; have HK := n1_; have HB := n2_; clear n0_ n1_ n2_ hi hb hk; (try clear hc0); (try clear hc1); (try clear hc2); (try clear hc3); (try clear hc4); (try clear hf0); (try clear hf1); (try clear hf2); (try clear hf3); (try clear hf4)))
  have hbl : (bytesOf s).length = s.size := bytesOf_length s
  have HBL := Aside0.mk hbl
  clear hbl
  have HSZ := Aside0.mk hsz0
  go_loop [4, 5, 6, 13] (fun n i0 c i => ∃ k : Nat, k ≤ s.size ∧ i = .int .i64 k ∧ n = .int .i64 (safeOf ((bytesOf s).take k)) ∧ Aside0 (∀ j, j < k → (bytesOf s).getD j 0 < 128)) (fun _ _ _ i => s.size - (intOf i).toNat)
  case atStart => exact ⟨0, Nat.zero_le _, rfl, rfl, ⟨fun j hj => by omega⟩⟩
  case round =>
    obtain ⟨k, hk, rfl, rfl, HJ⟩ := hrel
    by_cases hlt : k < s.size
    · have hcell : (Lib.bytesWorld w8 5 s).cell? ⟨w8.heap.size, k, none⟩ = some (.int .u8 ((bytesOf s).getD k 0)) := by
        rw [Lib.bytesWorld_cell _ _ _ _ hlt]
        have h' : k < s.data.toList.length := by rw [data_length]; exact hlt
        simp [bytesOf, List.getD_eq_getElem?_getD, List.getElem?_eq_getElem h']
      obtain ⟨hc0, hc1⟩ := byte_getD s k
      by_cases h128 : 128 ≤ (bytesOf s).getD k 0
      · have HB1 := Aside0.mk (badAt_some (bytesOf s) 0 k HJ.out (by rw [HBL.out]; exact hlt) h128)
        have hu' := H.out
        rw [HB1.out, Nat.zero_add] at hu'
        dsimp only at hu'
        clear H HB1 HJ HBL
        replace hu' := Option.bind_eq_some_iff.mp hu'
        obtain ⟨⟨u2, u3, u4, u5, u6⟩, hf, hu'⟩ := hu'
        simp only [Option.some.injEq, Prod.mk.injEq] at hu'
        obtain ⟨rfl, rfl, rfl, rfl, rfl, rfl⟩ := hu'
        have A_FAIL := Aside0.mk hf
        clear hf
        have HI1 := Aside0.mk (IsS70.below HI0.out (bytes_below (Below.refl _ _) (Nat.le_refl _) 5 s))
        have HK1 := Aside0.mk (KeepBut.trans HK.out (KeepBut.of_below (bytes_below (Below.refl _ _) (Nat.le_refl _) 5 s) g none) (.inl rfl))
        have HB1 := Aside0.mk (bytes_below HB.out HB.out.size 5 s)
        clear HI0 HK HB
        have HI0 := HI1
        have HK := HK1
        have HB := HB1
        clear HI1 HK1 HB1
        generalize hc : (bytesOf s).getD k 0 = c at *
        clear hc
        generalize safeOf ((bytesOf s).take k) = n0 at *
        go_wp2_with (first | (go_at_call 60; (with_reducible refine (octet_In_Fail.calls g _ _ _ _ _ _ _ _ _ _ _ _ w0 _ q_45 q_47 A_FAIL.out).mono ?_); rintro e w7 ⟨rfl, hi, hb, hk⟩; have n0_ := Aside0.mk hi; have n1_ := Aside0.mk (KeepBut.trans q_46 hk (.inl rfl)); have n2_ := Aside0.mk hb; clear HI0 HK HB; have HI0 := n0_; have HK := n1_; have HB := n2_; clear n0_ n1_ n2_ hi hb hk; (try clear hc0); (try clear hc1); (try clear hc2); (try clear hc3); (try clear hc4); (try clear hf0); (try clear hf1); (try clear hf2); (try clear hf3); (try clear hf4); obtain ⟨HG_, hg_⟩ := HI0.out; have hc0 := cellS70_0 HG_; have hc1 := cellS70_1 HG_; have hc2 := cellS70_2 HG_; have hc3 := cellS70_3 HG_; have hc4 := cellS70_4 HG_; have hf0 := blk_frozen HG_ 0; have hf1 := blk_frozen HG_ 1; have hf2 := blk_frozen HG_ 2; have hf3 := blk_frozen HG_ 3; have hf4 := blk_frozen HG_ 4; clear HG_ hg_))
        go_ret
        exact ⟨rfl, q_45, q_47, q_46⟩
      · have hc2 : (bytesOf s).getD k 0 < 128 := by omega
        have HJ2 : Aside0 (∀ j, j < k + 1 → (bytesOf s).getD j 0 < 128) := ⟨fun j hj => by
          rcases Nat.lt_or_eq_of_le (Nat.le_of_lt_succ hj) with h1 | h1
          · exact HJ.out j h1
          · rw [h1]; exact hc2⟩
        have HCB := Aside0.mk (show IntKind.i64.wrap ((bytesOf s).getD k 0) = (bytesOf s).getD k 0 from IntWalk.i64_in _ (by omega))
        generalize hc : (bytesOf s).getD k 0 = c at hcell HCB hc0 hc1 hc2 h128
        have hsn : safeOf ((bytesOf s).take (k + 1)) = Go.bits .or .i64 (wrap64 (safeOf ((bytesOf s).take k) * 128)) c := by
          rw [take_snoc_rd _ _ (by rw [HBL.out]; exact hlt), safeOf_snoc, hc]; rfl
        have HSN := Aside0.mk hsn
        clear hsn hc
        generalize safeOf ((bytesOf s).take k) = n0 at HSN ⊢
        go_wp2
        go_round
        case rel => exact ⟨k + 1, by omega, by go_num, by rw [HSN.out], HJ2⟩
        case measure => simp [intOf]; omega
    · have hk' : k = s.size := by omega
      have HB1 := Aside0.mk (badAt_none (bytesOf s) 0 (fun j hj => HJ.out j (by rw [HBL.out] at hj; omega)))
      have hu' := H.out
      rw [HB1.out] at hu'
      simp only [Option.some.injEq, Prod.mk.injEq] at hu'
      obtain ⟨rfl, rfl, rfl, rfl, rfl, rfl⟩ := hu'
      clear H HB1 HJ
      rw [List.take_of_length_le (by rw [HBL.out]; omega)]
      go_wp2
      go_ret
      have HI1 := Aside0.mk (IsS70.below HI0.out (bytes_below (Below.refl _ _) (Nat.le_refl _) 5 s))
      have HK1 := Aside0.mk (KeepBut.trans HK.out (KeepBut.of_below (bytes_below (Below.refl _ _) (Nat.le_refl _) 5 s) g none) (.inl rfl))
      have HB1 := Aside0.mk (bytes_below HB.out HB.out.size 5 s)
      exact ⟨rfl, HI1.out, HB1.out, HK1.out⟩


end Go.Proofs.YtlmhlmendnjmlaaDoor.PAll
