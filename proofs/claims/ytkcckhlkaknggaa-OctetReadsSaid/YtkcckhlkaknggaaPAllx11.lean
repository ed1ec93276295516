/- Written by a program of this session: functions of the Go program as Lean functions, and the walks that tie them to it. -/
import Derived.Test.YtkcckhlkaknggaaPAllx0
import Derived.Test.YtkcckhlkaknggaaPAllx2
import Derived.Test.YtkcckhlkaknggaaPAllx3
namespace Go.Proofs.Ytkcckhlkaknggaa.PAll
open Go.RowKit Go.Proofs.YtkcckhlkaknggaaW.PrintWords Go.Proofs.YtkcckhlkaknggaaW.PrintLast Go.Proofs.YtkcckhlkaknggaaW.PrintMore
attribute [local go_sem] max2_int min2_int max_two min_two max_three min_three max_four min_four   -- for this text's walks alone
set_option linter.unusedVariables false
set_option linter.unusedSimpArgs false

/-! ### octet_In_Peek: function 40 -/
def octet_In_Peek.f (s0_0 : ByteArray) (s0_1 : Int) (s0_2 : Int) (s0_3 : Int) (s0_4 : Int) (a1 : Int) : Option (ByteArray × ByteArray × Int × Int × Int × Int) :=
  if s0_0.size ≤ 140737488355328 ∧ 0 ≤ s0_1 ∧ s0_1 ≤ s0_0.size then
    (if s0_3 = 0 then some (s0_0.extract s0_1.toNat (s0_1 + mn (mx a1 0) (s0_0.size - s0_1)).toNat, s0_0, s0_1, s0_2, s0_3, s0_4)
    else some ((⟨#[]⟩ : ByteArray), s0_0, s0_1, s0_2, s0_3, s0_4))
  else none
set_option maxHeartbeats 8000000 in
set_option maxRecDepth 100000 in
theorem octet_In_Peek.calls (g : Nat) (s0_0 : ByteArray) (s0_1 : Int) (s0_2 : Int) (s0_3 : Int) (s0_4 : Int) (a1 : Int) (r1 : ByteArray) (r2 : ByteArray) (r3 : Int) (r4 : Int) (r5 : Int) (r6 : Int) (w0 w : World) (hI : IsS68 w0 w g s0_0 s0_1 s0_2 s0_3 s0_4) (hB : Below w0.heap.size w0 w) (h : octet_In_Peek.f s0_0 s0_1 s0_2 s0_3 s0_4 a1 = some (r1, r2, r3, r4, r5, r6)) :
    Calls Try.prog 40 #[.pointer (some ⟨g, 0, none⟩), .int .i64 a1] w fun e w' => e = .returned (.string r1) ∧ IsS68 w0 w' g r2 r3 r4 r5 r6 ∧ Below w0.heap.size w0 w' ∧ KeepBut w w' g none := by
  have hu := Try.underlying32
  have HI0 := Aside0.mk hI
  have HK := Aside0.mk (KeepBut.refl w g none)
  clear hI
  have HB := Aside0.mk hB
  clear hB
  unfold octet_In_Peek.f at h
  by_cases hg : s0_0.size ≤ 140737488355328 ∧ 0 ≤ s0_1 ∧ s0_1 ≤ s0_0.size
  · rw [if_pos hg] at h
    obtain ⟨b0, b1, b2⟩ := hg
    by_cases h3 : s0_3 = 0
    · rw [if_pos h3] at h
      subst h3
      have A_BAD : Aside0 (api_Fault_Bad.f 0 s0_4 = some false) := ⟨rfl⟩
      have A_LEFT : Aside0 (octet_In_Left.f s0_0 s0_1 s0_2 0 s0_4 = some (s0_0.size - s0_1, s0_0, s0_1, s0_2, 0, s0_4)) := ⟨by
        unfold octet_In_Left.f
        rw [A_BAD.out]
        simp only [Option.bind_some, Bool.false_eq_true, if_false]
        rw [show wrap64 ((s0_0.size : Int) - s0_1) = s0_0.size - s0_1 by unfold wrap64; omega]⟩
      obtain ⟨ji3, hji3⟩ : ∃ j_ : Int, (mx a1 0) = j_ := ⟨_, rfl⟩
      rw [hji3] at h
      have hji3_ : (if a1 < 0 then 0 else a1) = ji3 := hji3
      obtain ⟨ji4, hji4⟩ : ∃ j_ : Int, (mn ji3 (s0_0.size - s0_1)) = j_ := ⟨_, rfl⟩
      rw [hji4] at h
      have hji4_ : (if (s0_0.size - s0_1) < ji3 then (s0_0.size - s0_1) else ji3) = ji4 := hji4
      have hj0 : 0 ≤ ji4 := by rw [← hji4, ← hji3]; unfold mn mx; split <;> split <;> omega
      have hj1 : s0_1 + ji4 ≤ s0_0.size := by rw [← hji4, ← hji3]; unfold mn mx; split <;> split <;> omega
      clear hji3 hji4
      simp only [Option.some.injEq, Prod.mk.injEq] at h
      obtain ⟨rfl, rfl, rfl, rfl, rfl, rfl⟩ := h
      obtain ⟨HG_, hg_⟩ := HI0.out
      have hc0 := cellS68_0 HG_
      have hc1 := cellS68_1 HG_
      have hc2 := cellS68_2 HG_
      have hc3 := cellS68_3 HG_
      have hc4 := cellS68_4 HG_
      have hf0 := blk_frozen HG_ 0
      have hf1 := blk_frozen HG_ 1
      have hf2 := blk_frozen HG_ 2
      have hf3 := blk_frozen HG_ 3
      have hf4 := blk_frozen HG_ 4
      clear HG_ hg_
      go_enter Try.func40, Try.ntmps40
      go_wp2_with (first | (go_at_call 17; (with_reducible refine (api_Fault_Bad.calls _ _ false _ A_BAD.out).mono ?_); rintro e w5 ⟨rfl, hb⟩; have n0_ := Aside0.mk (IsS68.below q_2 hb); have n1_ := Aside0.mk (KeepBut.trans q_3 (KeepBut.of_below hb g none) (.inl rfl)); have n2_ := Aside0.mk (below_step q_4 hb); clear HI0 HK HB; have HI0 := n0_; have HK := n1_; have HB := n2_; clear n0_ n1_ n2_ hb; (try clear hc0); (try clear hc1); (try clear hc2); (try clear hc3); (try clear hc4); (try clear hf0); (try clear hf1); (try clear hf2); (try clear hf3); (try clear hf4); obtain ⟨HG_, hg_⟩ := HI0.out; have hc0 := cellS68_0 HG_; have hc1 := cellS68_1 HG_; have hc2 := cellS68_2 HG_; have hc3 := cellS68_3 HG_; have hc4 := cellS68_4 HG_; have hf0 := blk_frozen HG_ 0; have hf1 := blk_frozen HG_ 1; have hf2 := blk_frozen HG_ 2; have hf3 := blk_frozen HG_ 3; have hf4 := blk_frozen HG_ 4; clear HG_ hg_))
      have q1 : IntKind.i64.wrap (s0_1 + ji4) = s0_1 + ji4 := IntWalk.i64_in _ (by omega)
      have q2 : (0 : Int) ≤ s0_1 + ji4 := by omega
      have q3 : s0_1 ≤ s0_1 + ji4 := by omega
      have q4 : s0_1 + ji4 ≤ (s0_0.size : Int) := by omega
      go_region_held3 (fun W_ => W_.cell? ⟨g, 0, none⟩ = some (.string s0_0) ∧ W_.cell? ⟨g, 1, none⟩ = some (.int .i64 s0_1)) (first | exact ⟨hc0, hc1⟩ | (simp [*]; done))
        (first | (go_at_call 30; (with_reducible refine (octet_In_Left.calls g _ _ _ _ _ _ _ _ _ _ _ w0 _ q_2 q_4 A_LEFT.out).mono ?_); rintro e w6 ⟨rfl, hi, hb, hk⟩; have n0_ := Aside0.mk hi; have n1_ := Aside0.mk (KeepBut.trans q_3 hk (.inl rfl)); have n2_ := Aside0.mk hb; clear HI0 HK HB; have HI0 := n0_; have HK := n1_; have HB := n2_; clear n0_ n1_ n2_ hi hb hk; (try clear hc0); (try clear hc1); (try clear hc2); (try clear hc3); (try clear hc4); (try clear hf0); (try clear hf1); (try clear hf2); (try clear hf3); (try clear hf4); obtain ⟨HG_, hg_⟩ := HI0.out; have hc0 := cellS68_0 HG_; have hc1 := cellS68_1 HG_; have hc2 := cellS68_2 HG_; have hc3 := cellS68_3 HG_; have hc4 := cellS68_4 HG_; have hf0 := blk_frozen HG_ 0; have hf1 := blk_frozen HG_ 1; have hf2 := blk_frozen HG_ 2; have hf3 := blk_frozen HG_ 3; have hf4 := blk_frozen HG_ 4; clear HG_ hg_))
      all_goals (go_wp2; go_ret; (exact ⟨rfl, q_2, q_4, q_3⟩))
    · rw [if_neg h3] at h
      simp only [Option.some.injEq, Prod.mk.injEq] at h
      obtain ⟨rfl, rfl, rfl, rfl, rfl, rfl⟩ := h
      have A_BAD : Aside0 (api_Fault_Bad.f s0_3 s0_4 = some true) := ⟨by simp [api_Fault_Bad.f, h3]⟩
      obtain ⟨HG_, hg_⟩ := HI0.out
      have hc0 := cellS68_0 HG_
      have hc1 := cellS68_1 HG_
      have hc2 := cellS68_2 HG_
      have hc3 := cellS68_3 HG_
      have hc4 := cellS68_4 HG_
      have hf0 := blk_frozen HG_ 0
      have hf1 := blk_frozen HG_ 1
      have hf2 := blk_frozen HG_ 2
      have hf3 := blk_frozen HG_ 3
      have hf4 := blk_frozen HG_ 4
      clear HG_ hg_
      go_enter Try.func40, Try.ntmps40
      go_wp2_with (first | (go_at_call 17; (with_reducible refine (api_Fault_Bad.calls _ _ true _ A_BAD.out).mono ?_); rintro e w5 ⟨rfl, hb⟩; have n0_ := Aside0.mk (IsS68.below q_2 hb); have n1_ := Aside0.mk (KeepBut.trans q_3 (KeepBut.of_below hb g none) (.inl rfl)); have n2_ := Aside0.mk (below_step q_4 hb); clear HI0 HK HB; have HI0 := n0_; have HK := n1_; have HB := n2_; clear n0_ n1_ n2_ hb; (try clear hc0); (try clear hc1); (try clear hc2); (try clear hc3); (try clear hc4); (try clear hf0); (try clear hf1); (try clear hf2); (try clear hf3); (try clear hf4); obtain ⟨HG_, hg_⟩ := HI0.out; have hc0 := cellS68_0 HG_; have hc1 := cellS68_1 HG_; have hc2 := cellS68_2 HG_; have hc3 := cellS68_3 HG_; have hc4 := cellS68_4 HG_; have hf0 := blk_frozen HG_ 0; have hf1 := blk_frozen HG_ 1; have hf2 := blk_frozen HG_ 2; have hf3 := blk_frozen HG_ 3; have hf4 := blk_frozen HG_ 4; clear HG_ hg_))
      go_ret
      exact ⟨rfl, q_2, q_4, q_3⟩
  · rw [if_neg hg] at h
    exact absurd h (by simp)


/-! ### octet_In_Peek_nil: function 40 -/
def octet_In_Peek_nil.f  (a1 : Int) : Option (ByteArray) := some (⟨#[]⟩ : ByteArray)
set_option maxHeartbeats 8000000 in
set_option maxRecDepth 100000 in
theorem octet_In_Peek_nil.calls  (a1 : Int) (r : ByteArray) (w : World) (h : octet_In_Peek_nil.f a1 = some r) :
    Calls Try.prog 40 #[.pointer none, .int .i64 a1] w fun e w' => e = .returned (.string r) ∧ Below w.heap.size w w' := by
  have hu32 := Try.underlying32
  have HB := Aside0.mk (Below.refl w.heap.size w)
  have H : (some (⟨#[]⟩ : ByteArray)) = some r := h
  clear h
  obtain rfl := Option.some.inj H
  go_enter Try.func40, Try.ntmps40
  go_wp2
  go_ret
  exact ⟨q_9, q_1⟩

/-! ### octet_In_Want: function 41 -/
def octet_In_Want.l0 : Nat → ByteArray → Int → ByteArray → Int → Int → ByteArray → Int → Int → Int → Int → Option (Bool × ByteArray × Int × Int × Int × Int)
  | 0, _, _, _, _, _, _, _, _, _, _ => none
  | k + 1, x1, x5, x6, x24, x25, x1000, x1001, x1002, x1003, x1004 => if x25 < x24 then (if 0 ≤ x25 then (if x25 < (x6.size : Int) then (if x25 < (x1.size : Int) then (if (bt x6 x25) = (bt x1 x25) then (octet_In_Want.l0 k x1 x5 x6 x24 (wrap64 (x25 + 1)) x1000 x1001 x1002 x1003 x1004) else ((octet_In_Fail.f x1000 x1001 x1002 x1003 x1004 1 (wrap64 (x5 + x25))).bind fun bt290 => (some (false, bt290.1, bt290.2.1, bt290.2.2.1, bt290.2.2.2.1, bt290.2.2.2.2)))) else (none)) else (none)) else (none)) else ((octet_In_Take.f x1000 x1001 x1002 x1003 x1004 (x1.size : Int)).bind fun bt295 => ((api_Fault_Bad.f bt295.2.2.2.2.1 bt295.2.2.2.2.2).bind fun t301 => (some (!t301, bt295.2.1, bt295.2.2.1, bt295.2.2.2.1, bt295.2.2.2.2.1, bt295.2.2.2.2.2))))
def octet_In_Want.f (k : Nat) (s0_0 : ByteArray) (s0_1 : Int) (s0_2 : Int) (s0_3 : Int) (s0_4 : Int) (a1 : ByteArray) : Option (Bool × ByteArray × Int × Int × Int × Int) := (api_Fault_Bad.f s0_3 s0_4).bind fun t277 => (if t277 = true then (some (false, s0_0, s0_1, s0_2, s0_3, s0_4)) else ((octet_In_At.f s0_0 s0_1 s0_2 s0_3 s0_4).bind fun bt278 => ((octet_In_Peek.f bt278.2.1 bt278.2.2.1 bt278.2.2.2.1 bt278.2.2.2.2.1 bt278.2.2.2.2.2 (a1.size : Int)).bind fun bt284 => (octet_In_Want.l0 k a1 bt278.1 bt284.1 (bt284.1.size : Int) 0 bt284.2.1 bt284.2.2.1 bt284.2.2.2.1 bt284.2.2.2.2.1 bt284.2.2.2.2.2))))
theorem octet_In_Want.mono_l : ∀ k, (∀ y0 y1 y2 y3 y4 y5 y6 y7 y8 y9, LeO (octet_In_Want.l0 k y0 y1 y2 y3 y4 y5 y6 y7 y8 y9) (octet_In_Want.l0 (k + 1) y0 y1 y2 y3 y4 y5 y6 y7 y8 y9))
  | 0 => fun _ _ _ _ _ _ _ _ _ _ r h => by simp [octet_In_Want.l0] at h
  | k + 1 => by
    have ih0 := octet_In_Want.mono_l k
    · intro y0 y1 y2 y3 y4 y5 y6 y7 y8 y9
      unfold octet_In_Want.l0
      repeat' first
      | (with_reducible exact ih0 _ _ _ _ _ _ _ _ _ _)
      | (with_reducible exact LeO.refl _)
      | (with_reducible exact LeO.none _)
      | (with_reducible refine LeO.ite ?_ ?_)
      | (with_reducible refine LeO.bind ?_ (fun _ => ?_))
      | exact ih0 _ _ _ _ _ _ _ _ _ _
      | exact LeO.none _
      | refine LeO.ite ?_ ?_
      | refine LeO.bind ?_ (fun _ => ?_)
theorem octet_In_Want.mono : ∀ a0 a1 a2 a3 a4 a5 k, LeO (octet_In_Want.f k a0 a1 a2 a3 a4 a5) (octet_In_Want.f (k + 1) a0 a1 a2 a3 a4 a5) := by
  intro a0 a1 a2 a3 a4 a5 k
  have ih0 := octet_In_Want.mono_l k
  unfold octet_In_Want.f
  repeat' first
      | (with_reducible exact ih0 _ _ _ _ _ _ _ _ _ _)
      | (with_reducible exact LeO.refl _)
      | (with_reducible exact LeO.none _)
      | (with_reducible refine LeO.ite ?_ ?_)
      | (with_reducible refine LeO.bind ?_ (fun _ => ?_))
      | exact ih0 _ _ _ _ _ _ _ _ _ _
      | exact LeO.none _
      | refine LeO.ite ?_ ?_
      | refine LeO.bind ?_ (fun _ => ?_)
set_option maxHeartbeats 8000000 in
set_option maxRecDepth 100000 in
theorem octet_In_Want.calls (k : Nat) (g : Nat) (s0_0 : ByteArray) (s0_1 : Int) (s0_2 : Int) (s0_3 : Int) (s0_4 : Int) (a1 : ByteArray) (r1 : Bool) (r2 : ByteArray) (r3 : Int) (r4 : Int) (r5 : Int) (r6 : Int) (w0 w : World) (hI : IsS68 w0 w g s0_0 s0_1 s0_2 s0_3 s0_4) (hB : Below w0.heap.size w0 w) (h : octet_In_Want.f k s0_0 s0_1 s0_2 s0_3 s0_4 a1 = some (r1, r2, r3, r4, r5, r6)) :
    Calls Try.prog 41 #[.pointer (some ⟨g, 0, none⟩), .string a1] w fun e w' => e = .returned (.bool r1) ∧ IsS68 w0 w' g r2 r3 r4 r5 r6 ∧ Below w0.heap.size w0 w' ∧ KeepBut w w' g none := by
  have hu32 := Try.underlying32
  have HI0 := Aside0.mk hI
  have HK := Aside0.mk (KeepBut.refl w g none)
  have HL := Aside0.mk hB.size
  clear hI
  have HW0 := Aside0.mk hB.size
  have HB := Aside0.mk hB
  clear hB
  have H : ((api_Fault_Bad.f s0_3 s0_4).bind fun t277 => (if t277 = true then (some (false, s0_0, s0_1, s0_2, s0_3, s0_4)) else ((octet_In_At.f s0_0 s0_1 s0_2 s0_3 s0_4).bind fun bt278 => ((octet_In_Peek.f bt278.2.1 bt278.2.2.1 bt278.2.2.2.1 bt278.2.2.2.2.1 bt278.2.2.2.2.2 (a1.size : Int)).bind fun bt284 => (octet_In_Want.l0 k a1 bt278.1 bt284.1 (bt284.1.size : Int) 0 bt284.2.1 bt284.2.2.1 bt284.2.2.2.1 bt284.2.2.2.2.1 bt284.2.2.2.2.2))))) = some (r1, r2, r3, r4, r5, r6) := h
  clear h
  replace H := Option.bind_eq_some_iff.mp H
  obtain ⟨t277, A30, H⟩ := H
  replace H : (if t277 = true then (some (false, s0_0, s0_1, s0_2, s0_3, s0_4)) else ((octet_In_At.f s0_0 s0_1 s0_2 s0_3 s0_4).bind fun bt278 => ((octet_In_Peek.f bt278.2.1 bt278.2.2.1 bt278.2.2.2.1 bt278.2.2.2.2.1 bt278.2.2.2.2.2 (a1.size : Int)).bind fun bt284 => (octet_In_Want.l0 k a1 bt278.1 bt284.1 (bt284.1.size : Int) 0 bt284.2.1 bt284.2.2.1 bt284.2.2.2.1 bt284.2.2.2.2.1 bt284.2.2.2.2.2)))) = some (r1, r2, r3, r4, r5, r6) := H
  have A3 := Aside0.mk A30
  clear A30
  by_cases c4 : t277 = true
  · subst c4
    have H1 : (some (false, s0_0, s0_1, s0_2, s0_3, s0_4)) = some (r1, r2, r3, r4, r5, r6) := by rw [if_pos rfl] at H; exact H
    clear H
    have H := H1
    clear H1
    simp only [Option.some.injEq, Prod.mk.injEq] at H
    obtain ⟨rfl, rfl, rfl, rfl, rfl, rfl⟩ := H
    obtain ⟨HGz5, hgz5⟩ := HI0.out
    have hcz5_0 := cellS68_0 HGz5
    have hcz5_1 := cellS68_1 HGz5
    have hcz5_2 := cellS68_2 HGz5
    have hcz5_3 := cellS68_3 HGz5
    have hcz5_4 := cellS68_4 HGz5
    have hfz5_0 := blk_frozen HGz5 0
    have hfz5_1 := blk_frozen HGz5 1
    have hfz5_2 := blk_frozen HGz5 2
    have hfz5_3 := blk_frozen HGz5 3
    have hfz5_4 := blk_frozen HGz5 4
    clear HGz5 hgz5
    go_enter Try.func41, Try.ntmps41
    go_wp2_with (first | (go_at_call 17; (with_reducible refine (api_Fault_Bad.calls s0_3 s0_4 true _ A3.out).mono ?_); rintro e w6 ⟨rfl, hb⟩; have n0_ := Aside0.mk (IsS68.below q_2 hb); have n1_ := Aside0.mk (KeepBut.trans q_3 (KeepBut.of_below hb g none) (.inl rfl)); have n2_ := Aside0.mk (below_step q_4 hb); clear HI0; clear HK; clear HB; have HI0 := n0_; have HK := n1_; have HB := n2_; clear n0_ n1_ n2_; (try clear hb); (try clear hb2); (try clear hk); (try clear hi)))
    repeat (go_quiet (first | (go_at_call 17; (with_reducible refine (api_Fault_Bad.calls s0_3 s0_4 true _ A3.out).mono ?_); rintro e w6 ⟨rfl, hb⟩; have n0_ := Aside0.mk (IsS68.below q_2 hb); have n1_ := Aside0.mk (KeepBut.trans q_3 (KeepBut.of_below hb g none) (.inl rfl)); have n2_ := Aside0.mk (below_step q_4 hb); clear HI0; clear HK; clear HB; have HI0 := n0_; have HK := n1_; have HB := n2_; clear n0_ n1_ n2_; (try clear hb); (try clear hb2); (try clear hk); (try clear hi))); try go_wp2_with (first | (go_at_call 17; (with_reducible refine (api_Fault_Bad.calls s0_3 s0_4 true _ A3.out).mono ?_); rintro e w6 ⟨rfl, hb⟩; have n0_ := Aside0.mk (IsS68.below q_2 hb); have n1_ := Aside0.mk (KeepBut.trans q_3 (KeepBut.of_below hb g none) (.inl rfl)); have n2_ := Aside0.mk (below_step q_4 hb); clear HI0; clear HK; clear HB; have HI0 := n0_; have HK := n1_; have HB := n2_; clear n0_ n1_ n2_; (try clear hb); (try clear hb2); (try clear hk); (try clear hi))))
    go_ret
    exact ⟨q_9, q_2, q_4, q_3⟩
  · replace c4 := Bool.eq_false_iff.mpr c4
    subst c4
    have H1 : ((octet_In_At.f s0_0 s0_1 s0_2 s0_3 s0_4).bind fun bt278 => ((octet_In_Peek.f bt278.2.1 bt278.2.2.1 bt278.2.2.2.1 bt278.2.2.2.2.1 bt278.2.2.2.2.2 (a1.size : Int)).bind fun bt284 => (octet_In_Want.l0 k a1 bt278.1 bt284.1 (bt284.1.size : Int) 0 bt284.2.1 bt284.2.2.1 bt284.2.2.2.1 bt284.2.2.2.2.1 bt284.2.2.2.2.2))) = some (r1, r2, r3, r4, r5, r6) := by rw [if_neg (show ¬ (false = true) by decide)] at H; exact H
    clear H
    have H := H1
    clear H1
    replace H := Option.bind_eq_some_iff.mp H
    obtain ⟨⟨t278, t279, t280, t281, t282, t283⟩, A70, H⟩ := H
    replace H : ((octet_In_Peek.f t279 t280 t281 t282 t283 (a1.size : Int)).bind fun bt284 => (octet_In_Want.l0 k a1 t278 bt284.1 (bt284.1.size : Int) 0 bt284.2.1 bt284.2.2.1 bt284.2.2.2.1 bt284.2.2.2.2.1 bt284.2.2.2.2.2)) = some (r1, r2, r3, r4, r5, r6) := H
    have A7 := Aside0.mk A70
    clear A70
    replace H := Option.bind_eq_some_iff.mp H
    obtain ⟨⟨t284, t285, t286, t287, t288, t289⟩, A80, H⟩ := H
    replace H : (octet_In_Want.l0 k a1 t278 t284 (t284.size : Int) 0 t285 t286 t287 t288 t289) = some (r1, r2, r3, r4, r5, r6) := H
    have A8 := Aside0.mk A80
    clear A80
    have H' := Aside0.mk H
    clear H
    obtain ⟨HGz9, hgz9⟩ := HI0.out
    have hcz9_0 := cellS68_0 HGz9
    have hcz9_1 := cellS68_1 HGz9
    have hcz9_2 := cellS68_2 HGz9
    have hcz9_3 := cellS68_3 HGz9
    have hcz9_4 := cellS68_4 HGz9
    have hfz9_0 := blk_frozen HGz9 0
    have hfz9_1 := blk_frozen HGz9 1
    have hfz9_2 := blk_frozen HGz9 2
    have hfz9_3 := blk_frozen HGz9 3
    have hfz9_4 := blk_frozen HGz9 4
    clear HGz9 hgz9
    go_enter Try.func41, Try.ntmps41
    go_wp2_with (first | (go_at_call 17; (with_reducible refine (api_Fault_Bad.calls s0_3 s0_4 false _ A3.out).mono ?_); rintro e w10 ⟨rfl, hb⟩; have n0_ := Aside0.mk (IsS68.below q_2 hb); have n1_ := Aside0.mk (KeepBut.trans q_3 (KeepBut.of_below hb g none) (.inl rfl)); have n2_ := Aside0.mk (below_step q_4 hb); clear HI0; clear HK; clear HB; have HI0 := n0_; have HK := n1_; have HB := n2_; clear n0_ n1_ n2_; (try clear hb); (try clear hb2); (try clear hk); (try clear hi)) | (go_at_call 36; (with_reducible refine (octet_In_At.calls g s0_0 s0_1 s0_2 s0_3 s0_4 t278 t279 t280 t281 t282 t283 w0 _ ?side1 ?side2 A7.out).mono ?_); (case side1 => repeat (first | (with_reducible first | exact HI0.out | apply IsS68.alloc | apply IsS68.drewN | apply IsS68.drew | apply IsS68.set_0 | apply IsS68.set_1 | apply IsS68.set_2 | apply IsS68.set_3 | apply IsS68.set_4) | exact HI0.out)); (case side2 => repeat (first | (with_reducible first | exact HB.out | apply below_alloc | apply pw_below_drewN | apply below_drew1 | refine below_set ?_ (IsS68.ge HI0.out)) | exact HB.out)); rintro e w11 ⟨rfl, hi, hb, hk⟩; have n0_ := Aside0.mk (KeepBut.trans q_3 hk (.inl rfl)); have n1_ := Aside0.mk (hb); have n2_ := Aside0.mk (hi); clear HK; clear HB; clear HI0; have HK := n0_; have HB := n1_; have HI0 := n2_; clear n0_ n1_ n2_; (try clear hb); (try clear hb2); (try clear hk); (try clear hi)) | (go_at_call 40; (with_reducible refine (octet_In_Peek.calls g t279 t280 t281 t282 t283 (a1.size : Int) t284 t285 t286 t287 t288 t289 w0 _ ?side1 ?side2 A8.out).mono ?_); (case side1 => repeat (first | (with_reducible first | exact HI0.out | apply IsS68.alloc | apply IsS68.drewN | apply IsS68.drew | apply IsS68.set_0 | apply IsS68.set_1 | apply IsS68.set_2 | apply IsS68.set_3 | apply IsS68.set_4) | exact HI0.out)); (case side2 => repeat (first | (with_reducible first | exact HB.out | apply below_alloc | apply pw_below_drewN | apply below_drew1 | refine below_set ?_ (IsS68.ge HI0.out)) | exact HB.out)); rintro e w12 ⟨rfl, hi, hb, hk⟩; have n0_ := Aside0.mk (KeepBut.trans q_3 hk (.inl rfl)); have n1_ := Aside0.mk (hb); have n2_ := Aside0.mk (hi); clear HK; clear HB; clear HI0; have HK := n0_; have HB := n1_; have HI0 := n2_; clear n0_ n1_ n2_; (try clear hb); (try clear hb2); (try clear hk); (try clear hi)))
    repeat (go_quiet (first | (go_at_call 17; (with_reducible refine (api_Fault_Bad.calls s0_3 s0_4 false _ A3.out).mono ?_); rintro e w10 ⟨rfl, hb⟩; have n0_ := Aside0.mk (IsS68.below q_2 hb); have n1_ := Aside0.mk (KeepBut.trans q_3 (KeepBut.of_below hb g none) (.inl rfl)); have n2_ := Aside0.mk (below_step q_4 hb); clear HI0; clear HK; clear HB; have HI0 := n0_; have HK := n1_; have HB := n2_; clear n0_ n1_ n2_; (try clear hb); (try clear hb2); (try clear hk); (try clear hi)) | (go_at_call 36; (with_reducible refine (octet_In_At.calls g s0_0 s0_1 s0_2 s0_3 s0_4 t278 t279 t280 t281 t282 t283 w0 _ ?side1 ?side2 A7.out).mono ?_); (case side1 => repeat (first | (with_reducible first | exact HI0.out | apply IsS68.alloc | apply IsS68.drewN | apply IsS68.drew | apply IsS68.set_0 | apply IsS68.set_1 | apply IsS68.set_2 | apply IsS68.set_3 | apply IsS68.set_4) | exact HI0.out)); (case side2 => repeat (first | (with_reducible first | exact HB.out | apply below_alloc | apply pw_below_drewN | apply below_drew1 | refine below_set ?_ (IsS68.ge HI0.out)) | exact HB.out)); rintro e w11 ⟨rfl, hi, hb, hk⟩; have n0_ := Aside0.mk (KeepBut.trans q_3 hk (.inl rfl)); have n1_ := Aside0.mk (hb); have n2_ := Aside0.mk (hi); clear HK; clear HB; clear HI0; have HK := n0_; have HB := n1_; have HI0 := n2_; clear n0_ n1_ n2_; (try clear hb); (try clear hb2); (try clear hk); (try clear hi)) | (go_at_call 40; (with_reducible refine (octet_In_Peek.calls g t279 t280 t281 t282 t283 (a1.size : Int) t284 t285 t286 t287 t288 t289 w0 _ ?side1 ?side2 A8.out).mono ?_); (case side1 => repeat (first | (with_reducible first | exact HI0.out | apply IsS68.alloc | apply IsS68.drewN | apply IsS68.drew | apply IsS68.set_0 | apply IsS68.set_1 | apply IsS68.set_2 | apply IsS68.set_3 | apply IsS68.set_4) | exact HI0.out)); (case side2 => repeat (first | (with_reducible first | exact HB.out | apply below_alloc | apply pw_below_drewN | apply below_drew1 | refine below_set ?_ (IsS68.ge HI0.out)) | exact HB.out)); rintro e w12 ⟨rfl, hi, hb, hk⟩; have n0_ := Aside0.mk (KeepBut.trans q_3 hk (.inl rfl)); have n1_ := Aside0.mk (hb); have n2_ := Aside0.mk (hi); clear HK; clear HB; clear HI0; have HK := n0_; have HB := n1_; have HI0 := n2_; clear n0_ n1_ n2_; (try clear hb); (try clear hb2); (try clear hk); (try clear hi))); try go_wp2_with (first | (go_at_call 17; (with_reducible refine (api_Fault_Bad.calls s0_3 s0_4 false _ A3.out).mono ?_); rintro e w10 ⟨rfl, hb⟩; have n0_ := Aside0.mk (IsS68.below q_2 hb); have n1_ := Aside0.mk (KeepBut.trans q_3 (KeepBut.of_below hb g none) (.inl rfl)); have n2_ := Aside0.mk (below_step q_4 hb); clear HI0; clear HK; clear HB; have HI0 := n0_; have HK := n1_; have HB := n2_; clear n0_ n1_ n2_; (try clear hb); (try clear hb2); (try clear hk); (try clear hi)) | (go_at_call 36; (with_reducible refine (octet_In_At.calls g s0_0 s0_1 s0_2 s0_3 s0_4 t278 t279 t280 t281 t282 t283 w0 _ ?side1 ?side2 A7.out).mono ?_); (case side1 => repeat (first | (with_reducible first | exact HI0.out | apply IsS68.alloc | apply IsS68.drewN | apply IsS68.drew | apply IsS68.set_0 | apply IsS68.set_1 | apply IsS68.set_2 | apply IsS68.set_3 | apply IsS68.set_4) | exact HI0.out)); (case side2 => repeat (first | (with_reducible first | exact HB.out | apply below_alloc | apply pw_below_drewN | apply below_drew1 | refine below_set ?_ (IsS68.ge HI0.out)) | exact HB.out)); rintro e w11 ⟨rfl, hi, hb, hk⟩; have n0_ := Aside0.mk (KeepBut.trans q_3 hk (.inl rfl)); have n1_ := Aside0.mk (hb); have n2_ := Aside0.mk (hi); clear HK; clear HB; clear HI0; have HK := n0_; have HB := n1_; have HI0 := n2_; clear n0_ n1_ n2_; (try clear hb); (try clear hb2); (try clear hk); (try clear hi)) | (go_at_call 40; (with_reducible refine (octet_In_Peek.calls g t279 t280 t281 t282 t283 (a1.size : Int) t284 t285 t286 t287 t288 t289 w0 _ ?side1 ?side2 A8.out).mono ?_); (case side1 => repeat (first | (with_reducible first | exact HI0.out | apply IsS68.alloc | apply IsS68.drewN | apply IsS68.drew | apply IsS68.set_0 | apply IsS68.set_1 | apply IsS68.set_2 | apply IsS68.set_3 | apply IsS68.set_4) | exact HI0.out)); (case side2 => repeat (first | (with_reducible first | exact HB.out | apply below_alloc | apply pw_below_drewN | apply below_drew1 | refine below_set ?_ (IsS68.ge HI0.out)) | exact HB.out)); rintro e w12 ⟨rfl, hi, hb, hk⟩; have n0_ := Aside0.mk (KeepBut.trans q_3 hk (.inl rfl)); have n1_ := Aside0.mk (hb); have n2_ := Aside0.mk (hi); clear HK; clear HB; clear HI0; have HK := n0_; have HB := n1_; have HI0 := n2_; clear n0_ n1_ n2_; (try clear hb); (try clear hb2); (try clear hk); (try clear hi))))
    go_loopg [25] k (fun kq v25 w' => ∃ (x25_1 : Int) (x1000_1 : ByteArray) (x1001_1 : Int) (x1002_1 : Int) (x1003_1 : Int) (x1004_1 : Int), v25 = .int .i64 x25_1 ∧ Aside0 (octet_In_Want.l0 kq a1 t278 t284 (t284.size : Int) x25_1 x1000_1 x1001_1 x1002_1 x1003_1 x1004_1 = some (r1, r2, r3, r4, r5, r6)) ∧ Aside0 (kq ≤ k) ∧ Aside0 (IsS68 w0 w' g x1000_1 x1001_1 x1002_1 x1003_1 x1004_1) ∧ Aside0 (KeepBut w w' g none) ∧ Aside0 (Below w0.heap.size w0 w'))
    case atStart => exact ⟨(0), (t285), (t286), (t287), (t288), (t289), q_7, H', ⟨Nat.le_refl _⟩, ⟨q_2⟩, ⟨q_3⟩, ⟨q_4⟩⟩
    case round =>
      clear H'
      try clear p2; try clear c4; try clear hcz5_0; try clear hcz5_1; try clear hcz5_2; try clear hcz5_3; try clear hcz5_4; try clear hcz9_0; try clear hcz9_1; try clear hcz9_2; try clear hcz9_3; try clear hcz9_4; try clear hfz5_0; try clear hfz5_1; try clear hfz5_2; try clear hfz5_3; try clear hfz5_4; try clear hfz9_0; try clear hfz9_1; try clear hfz9_2; try clear hfz9_3; try clear hfz9_4
      obtain ⟨x25_1, x1000_1, x1001_1, x1002_1, x1003_1, x1004_1, rfl, HA, HK1, HI0, HK, HB⟩ := hrel
      cases gk with
      | zero => exact absurd HA.out (by simp [octet_In_Want.l0])
      | succ k1 =>
        have H := HA.out
        clear HA
        simp only [octet_In_Want.l0] at H
        by_cases c13 : x25_1 < (t284.size : Int)
        · rw [if_pos c13] at H
          have c13b0 : decide (x25_1 < (t284.size : Int)) = true := decide_eq_true c13
          clear c13
          by_cases c14 : 0 ≤ x25_1
          · rw [if_pos c14] at H
            have c14b0 : decide (0 ≤ x25_1) = true := decide_eq_true c14
            clear c14
            by_cases c15 : x25_1 < (t284.size : Int)
            · rw [if_pos c15] at H
              have c15b0 : decide (x25_1 < (t284.size : Int)) = true := decide_eq_true c15
              clear c15
              by_cases c17 : x25_1 < (a1.size : Int)
              · rw [if_pos c17] at H
                have c17b0 : decide (x25_1 < (a1.size : Int)) = true := decide_eq_true c17
                clear c17
                by_cases c19 : (bt t284 x25_1) = (bt a1 x25_1)
                · rw [if_pos c19] at H
                  have c19b0 : ((bt t284 x25_1) == (bt a1 x25_1)) = true := beq_iff_eq.mpr c19
                  have c19b1 : ((bt t284 x25_1) != (bt a1 x25_1)) = false := bne_eq_false_iff_eq.mpr c19
                  clear c19
                  have H' := Aside0.mk H
                  clear H
                  have p16 : 0 ≤ (x25_1 : Int) := of_decide_eq_true q_12
                  have q16 : x25_1 < (t284.size : Int) := of_decide_eq_true q_12
                  have hx16 := bt_at t284 x25_1
                  replace p16 := eq_true p16
                  replace q16 := eq_true q16
                  have p18 : 0 ≤ (x25_1 : Int) := of_decide_eq_true q_12
                  have q18 : x25_1 < (a1.size : Int) := of_decide_eq_true q_12
                  have hx18 := bt_at a1 x25_1
                  replace p18 := eq_true p18
                  replace q18 := eq_true q18
                  go_wp2
                  repeat (go_quiet (fail); try go_wp2)
                  go_roundg k1
                  case measure => have := HK1.out; omega
                  case rel => exact ⟨(wrap64 (x25_1 + 1)), (x1000_1), (x1001_1), (x1002_1), (x1003_1), (x1004_1), q_7, H', ⟨by have := HK1.out; omega⟩, ⟨q_2⟩, ⟨q_3⟩, ⟨q_4⟩⟩
                · rw [if_neg c19] at H
                  have c19b0 : ((bt t284 x25_1) == (bt a1 x25_1)) = false := beq_eq_false_iff_ne.mpr c19
                  have c19b1 : ((bt t284 x25_1) != (bt a1 x25_1)) = true := bne_iff_ne.mpr c19
                  replace H := Option.bind_eq_some_iff.mp H
                  obtain ⟨⟨t290, t291, t292, t293, t294⟩, A200, H⟩ := H
                  replace H : (some (false, t290, t291, t292, t293, t294)) = some (r1, r2, r3, r4, r5, r6) := H
                  have A20 := Aside0.mk A200
                  clear A200
                  simp only [Option.some.injEq, Prod.mk.injEq] at H
                  obtain ⟨rfl, rfl, rfl, rfl, rfl, rfl⟩ := H
                  have p16 : 0 ≤ (x25_1 : Int) := of_decide_eq_true q_12
                  have q16 : x25_1 < (t284.size : Int) := of_decide_eq_true q_12
                  have hx16 := bt_at t284 x25_1
                  replace p16 := eq_true p16
                  replace q16 := eq_true q16
                  have p18 : 0 ≤ (x25_1 : Int) := of_decide_eq_true q_12
                  have q18 : x25_1 < (a1.size : Int) := of_decide_eq_true q_12
                  have hx18 := bt_at a1 x25_1
                  replace p18 := eq_true p18
                  replace q18 := eq_true q18
                  go_wp2_with (first | (go_at_call 37; (with_reducible refine (octet_In_Fail.calls g x1000_1 x1001_1 x1002_1 x1003_1 x1004_1 1 (wrap64 (t278 + x25_1)) t290 t291 t292 t293 t294 w0 _ ?side1 ?side2 A20.out).mono ?_); (case side1 => repeat (first | (with_reducible first | exact HI0.out | apply IsS68.alloc | apply IsS68.drewN | apply IsS68.drew | apply IsS68.set_0 | apply IsS68.set_1 | apply IsS68.set_2 | apply IsS68.set_3 | apply IsS68.set_4) | exact HI0.out)); (case side2 => repeat (first | (with_reducible first | exact HB.out | apply below_alloc | apply pw_below_drewN | apply below_drew1 | refine below_set ?_ (IsS68.ge HI0.out)) | exact HB.out)); rintro e w21 ⟨rfl, hi, hb, hk⟩; have n0_ := Aside0.mk (KeepBut.trans q_3 hk (.inl rfl)); have n1_ := Aside0.mk (hb); have n2_ := Aside0.mk (hi); clear HK; clear HB; clear HI0; have HK := n0_; have HB := n1_; have HI0 := n2_; clear n0_ n1_ n2_; (try clear hb); (try clear hb2); (try clear hk); (try clear hi)))
                  repeat (go_quiet (first | (go_at_call 37; (with_reducible refine (octet_In_Fail.calls g x1000_1 x1001_1 x1002_1 x1003_1 x1004_1 1 (wrap64 (t278 + x25_1)) t290 t291 t292 t293 t294 w0 _ ?side1 ?side2 A20.out).mono ?_); (case side1 => repeat (first | (with_reducible first | exact HI0.out | apply IsS68.alloc | apply IsS68.drewN | apply IsS68.drew | apply IsS68.set_0 | apply IsS68.set_1 | apply IsS68.set_2 | apply IsS68.set_3 | apply IsS68.set_4) | exact HI0.out)); (case side2 => repeat (first | (with_reducible first | exact HB.out | apply below_alloc | apply pw_below_drewN | apply below_drew1 | refine below_set ?_ (IsS68.ge HI0.out)) | exact HB.out)); rintro e w21 ⟨rfl, hi, hb, hk⟩; have n0_ := Aside0.mk (KeepBut.trans q_3 hk (.inl rfl)); have n1_ := Aside0.mk (hb); have n2_ := Aside0.mk (hi); clear HK; clear HB; clear HI0; have HK := n0_; have HB := n1_; have HI0 := n2_; clear n0_ n1_ n2_; (try clear hb); (try clear hb2); (try clear hk); (try clear hi))); try go_wp2_with (first | (go_at_call 37; (with_reducible refine (octet_In_Fail.calls g x1000_1 x1001_1 x1002_1 x1003_1 x1004_1 1 (wrap64 (t278 + x25_1)) t290 t291 t292 t293 t294 w0 _ ?side1 ?side2 A20.out).mono ?_); (case side1 => repeat (first | (with_reducible first | exact HI0.out | apply IsS68.alloc | apply IsS68.drewN | apply IsS68.drew | apply IsS68.set_0 | apply IsS68.set_1 | apply IsS68.set_2 | apply IsS68.set_3 | apply IsS68.set_4) | exact HI0.out)); (case side2 => repeat (first | (with_reducible first | exact HB.out | apply below_alloc | apply pw_below_drewN | apply below_drew1 | refine below_set ?_ (IsS68.ge HI0.out)) | exact HB.out)); rintro e w21 ⟨rfl, hi, hb, hk⟩; have n0_ := Aside0.mk (KeepBut.trans q_3 hk (.inl rfl)); have n1_ := Aside0.mk (hb); have n2_ := Aside0.mk (hi); clear HK; clear HB; clear HI0; have HK := n0_; have HB := n1_; have HI0 := n2_; clear n0_ n1_ n2_; (try clear hb); (try clear hb2); (try clear hk); (try clear hi))))
                  go_ret
                  exact ⟨q_9, q_2, q_4, q_3⟩
              · rw [if_neg c17] at H
                exact absurd H (by simp)
            · rw [if_neg c15] at H
              exact absurd H (by simp)
          · rw [if_neg c14] at H
            exact absurd H (by simp)
        · rw [if_neg c13] at H
          have c13b0 : decide (x25_1 < (t284.size : Int)) = false := decide_eq_false c13
          clear c13
          replace H := Option.bind_eq_some_iff.mp H
          obtain ⟨⟨t295, t296, t297, t298, t299, t300⟩, A220, H⟩ := H
          replace H : ((api_Fault_Bad.f t299 t300).bind fun t301 => (some (!t301, t296, t297, t298, t299, t300))) = some (r1, r2, r3, r4, r5, r6) := H
          have A22 := Aside0.mk A220
          clear A220
          replace H := Option.bind_eq_some_iff.mp H
          obtain ⟨t301, A230, H⟩ := H
          replace H : (some (!t301, t296, t297, t298, t299, t300)) = some (r1, r2, r3, r4, r5, r6) := H
          have A23 := Aside0.mk A230
          clear A230
          simp only [Option.some.injEq, Prod.mk.injEq] at H
          obtain ⟨rfl, rfl, rfl, rfl, rfl, rfl⟩ := H
          go_wp2_with (first | (go_at_call 38; (with_reducible refine (octet_In_Take.calls g x1000_1 x1001_1 x1002_1 x1003_1 x1004_1 (a1.size : Int) t295 t296 t297 t298 t299 t300 w0 _ ?side1 ?side2 A22.out).mono ?_); (case side1 => repeat (first | (with_reducible first | exact HI0.out | apply IsS68.alloc | apply IsS68.drewN | apply IsS68.drew | apply IsS68.set_0 | apply IsS68.set_1 | apply IsS68.set_2 | apply IsS68.set_3 | apply IsS68.set_4) | exact HI0.out)); (case side2 => repeat (first | (with_reducible first | exact HB.out | apply below_alloc | apply pw_below_drewN | apply below_drew1 | refine below_set ?_ (IsS68.ge HI0.out)) | exact HB.out)); rintro e w24 ⟨rfl, hi, hb, hk⟩; have n0_ := Aside0.mk (KeepBut.trans q_3 hk (.inl rfl)); have n1_ := Aside0.mk (hb); have n2_ := Aside0.mk (hi); clear HK; clear HB; clear HI0; have HK := n0_; have HB := n1_; have HI0 := n2_; clear n0_ n1_ n2_; (try clear hb); (try clear hb2); (try clear hk); (try clear hi); obtain ⟨HGz25, hgz25⟩ := HI0.out; have hcz25_0 := cellS68_0 HGz25; have hcz25_1 := cellS68_1 HGz25; have hcz25_2 := cellS68_2 HGz25; have hcz25_3 := cellS68_3 HGz25; have hcz25_4 := cellS68_4 HGz25; have hfz25_0 := blk_frozen HGz25 0; have hfz25_1 := blk_frozen HGz25 1; have hfz25_2 := blk_frozen HGz25 2; have hfz25_3 := blk_frozen HGz25 3; have hfz25_4 := blk_frozen HGz25 4; clear HGz25 hgz25) | (go_at_call 17; (with_reducible refine (api_Fault_Bad.calls t299 t300 t301 _ A23.out).mono ?_); rintro e w26 ⟨rfl, hb⟩; have n0_ := Aside0.mk (IsS68.below q_2 hb); have n1_ := Aside0.mk (KeepBut.trans q_3 (KeepBut.of_below hb g none) (.inl rfl)); have n2_ := Aside0.mk (below_step q_4 hb); clear HI0; clear HK; clear HB; have HI0 := n0_; have HK := n1_; have HB := n2_; clear n0_ n1_ n2_; (try clear hb); (try clear hb2); (try clear hk); (try clear hi)))
          repeat (go_quiet (first | (go_at_call 38; (with_reducible refine (octet_In_Take.calls g x1000_1 x1001_1 x1002_1 x1003_1 x1004_1 (a1.size : Int) t295 t296 t297 t298 t299 t300 w0 _ ?side1 ?side2 A22.out).mono ?_); (case side1 => repeat (first | (with_reducible first | exact HI0.out | apply IsS68.alloc | apply IsS68.drewN | apply IsS68.drew | apply IsS68.set_0 | apply IsS68.set_1 | apply IsS68.set_2 | apply IsS68.set_3 | apply IsS68.set_4) | exact HI0.out)); (case side2 => repeat (first | (with_reducible first | exact HB.out | apply below_alloc | apply pw_below_drewN | apply below_drew1 | refine below_set ?_ (IsS68.ge HI0.out)) | exact HB.out)); rintro e w24 ⟨rfl, hi, hb, hk⟩; have n0_ := Aside0.mk (KeepBut.trans q_3 hk (.inl rfl)); have n1_ := Aside0.mk (hb); have n2_ := Aside0.mk (hi); clear HK; clear HB; clear HI0; have HK := n0_; have HB := n1_; have HI0 := n2_; clear n0_ n1_ n2_; (try clear hb); (try clear hb2); (try clear hk); (try clear hi); obtain ⟨HGz25, hgz25⟩ := HI0.out; have hcz25_0 := cellS68_0 HGz25; have hcz25_1 := cellS68_1 HGz25; have hcz25_2 := cellS68_2 HGz25; have hcz25_3 := cellS68_3 HGz25; have hcz25_4 := cellS68_4 HGz25; have hfz25_0 := blk_frozen HGz25 0; have hfz25_1 := blk_frozen HGz25 1; have hfz25_2 := blk_frozen HGz25 2; have hfz25_3 := blk_frozen HGz25 3; have hfz25_4 := blk_frozen HGz25 4; clear HGz25 hgz25) | (go_at_call 17; (with_reducible refine (api_Fault_Bad.calls t299 t300 t301 _ A23.out).mono ?_); rintro e w26 ⟨rfl, hb⟩; have n0_ := Aside0.mk (IsS68.below q_2 hb); have n1_ := Aside0.mk (KeepBut.trans q_3 (KeepBut.of_below hb g none) (.inl rfl)); have n2_ := Aside0.mk (below_step q_4 hb); clear HI0; clear HK; clear HB; have HI0 := n0_; have HK := n1_; have HB := n2_; clear n0_ n1_ n2_; (try clear hb); (try clear hb2); (try clear hk); (try clear hi))); try go_wp2_with (first | (go_at_call 38; (with_reducible refine (octet_In_Take.calls g x1000_1 x1001_1 x1002_1 x1003_1 x1004_1 (a1.size : Int) t295 t296 t297 t298 t299 t300 w0 _ ?side1 ?side2 A22.out).mono ?_); (case side1 => repeat (first | (with_reducible first | exact HI0.out | apply IsS68.alloc | apply IsS68.drewN | apply IsS68.drew | apply IsS68.set_0 | apply IsS68.set_1 | apply IsS68.set_2 | apply IsS68.set_3 | apply IsS68.set_4) | exact HI0.out)); (case side2 => repeat (first | (with_reducible first | exact HB.out | apply below_alloc | apply pw_below_drewN | apply below_drew1 | refine below_set ?_ (IsS68.ge HI0.out)) | exact HB.out)); rintro e w24 ⟨rfl, hi, hb, hk⟩; have n0_ := Aside0.mk (KeepBut.trans q_3 hk (.inl rfl)); have n1_ := Aside0.mk (hb); have n2_ := Aside0.mk (hi); clear HK; clear HB; clear HI0; have HK := n0_; have HB := n1_; have HI0 := n2_; clear n0_ n1_ n2_; (try clear hb); (try clear hb2); (try clear hk); (try clear hi); obtain ⟨HGz25, hgz25⟩ := HI0.out; have hcz25_0 := cellS68_0 HGz25; have hcz25_1 := cellS68_1 HGz25; have hcz25_2 := cellS68_2 HGz25; have hcz25_3 := cellS68_3 HGz25; have hcz25_4 := cellS68_4 HGz25; have hfz25_0 := blk_frozen HGz25 0; have hfz25_1 := blk_frozen HGz25 1; have hfz25_2 := blk_frozen HGz25 2; have hfz25_3 := blk_frozen HGz25 3; have hfz25_4 := blk_frozen HGz25 4; clear HGz25 hgz25) | (go_at_call 17; (with_reducible refine (api_Fault_Bad.calls t299 t300 t301 _ A23.out).mono ?_); rintro e w26 ⟨rfl, hb⟩; have n0_ := Aside0.mk (IsS68.below q_2 hb); have n1_ := Aside0.mk (KeepBut.trans q_3 (KeepBut.of_below hb g none) (.inl rfl)); have n2_ := Aside0.mk (below_step q_4 hb); clear HI0; clear HK; clear HB; have HI0 := n0_; have HK := n1_; have HB := n2_; clear n0_ n1_ n2_; (try clear hb); (try clear hb2); (try clear hk); (try clear hi))))
          go_ret
          exact ⟨q_9, q_2, q_4, q_3⟩

/-! ### octet_In_Want_nil: function 41 -/
def octet_In_Want_nil.f  (a1 : ByteArray) : Option (Bool) := some false
set_option maxHeartbeats 8000000 in
set_option maxRecDepth 100000 in
theorem octet_In_Want_nil.calls  (a1 : ByteArray) (r : Bool) (w : World) (h : octet_In_Want_nil.f a1 = some r) :
    Calls Try.prog 41 #[.pointer none, .string a1] w fun e w' => e = .returned (.bool r) ∧ Below w.heap.size w w' := by
  have hu32 := Try.underlying32
  have HB := Aside0.mk (Below.refl w.heap.size w)
  have H : (some false) = some r := h
  clear h
  obtain rfl := Option.some.inj H
  go_enter Try.func41, Try.ntmps41
  go_wp2
  repeat (go_quiet (fail); try go_wp2)
  go_ret
  exact ⟨q_9, q_1⟩

/-! ### octet_In_Until: function 42 -/
/-- Where the next end stands; each so manieth byte is looked at. -/
def untilGo (x e : ByteArray) (st : Int) : Nat → Int → Option Int
  | 0, _ => none
  | k + 1, i => if i + e.size ≤ x.size then (if (x.extract i.toNat (i + e.size).toNat).toList = e.toList then some i else untilGo x e st k (i + st)) else none
def octet_In_Until.f (s0_0 : ByteArray) (s0_1 : Int) (s0_2 : Int) (s0_3 : Int) (s0_4 : Int) (a1 : ByteArray) : Option (ByteArray × ByteArray × Int × Int × Int × Int) :=
  if s0_0.size ≤ 140737488355328 ∧ a1.size ≤ 140737488355328 ∧ 0 ≤ s0_1 ∧ s0_1 ≤ s0_0.size ∧ 0 ≤ s0_2 ∧ s0_2 ≤ 140737488355328 then
    (if s0_3 = 0 then
      (match untilGo s0_0 a1 (mx a1.size 1) (s0_0.size + 1) s0_1 with
      | some i => some (s0_0.extract s0_1.toNat i.toNat, s0_0, i + a1.size, s0_2, s0_3, s0_4)
      | none => some ((⟨#[]⟩ : ByteArray), s0_0, s0_1, s0_2, 1, s0_2 + s0_0.size))
    else some ((⟨#[]⟩ : ByteArray), s0_0, s0_1, s0_2, s0_3, s0_4))
  else none
set_option maxHeartbeats 8000000 in
set_option maxRecDepth 100000 in
theorem octet_In_Until.calls (g : Nat) (s0_0 : ByteArray) (s0_1 : Int) (s0_2 : Int) (s0_3 : Int) (s0_4 : Int) (a1 : ByteArray) (r1 : ByteArray) (r2 : ByteArray) (r3 : Int) (r4 : Int) (r5 : Int) (r6 : Int) (w0 w : World) (hI : IsS68 w0 w g s0_0 s0_1 s0_2 s0_3 s0_4) (hB : Below w0.heap.size w0 w) (h : octet_In_Until.f s0_0 s0_1 s0_2 s0_3 s0_4 a1 = some (r1, r2, r3, r4, r5, r6)) :
    Calls Try.prog 42 #[.pointer (some ⟨g, 0, none⟩), .string a1] w fun e w' => e = .returned (.string r1) ∧ IsS68 w0 w' g r2 r3 r4 r5 r6 ∧ Below w0.heap.size w0 w' ∧ KeepBut w w' g none := by
  have hu := Try.underlying32
  have HI0 := Aside0.mk hI
  have HK := Aside0.mk (KeepBut.refl w g none)
  clear hI
  have HB := Aside0.mk hB
  clear hB
  unfold octet_In_Until.f at h
  by_cases hg : s0_0.size ≤ 140737488355328 ∧ a1.size ≤ 140737488355328 ∧ 0 ≤ s0_1 ∧ s0_1 ≤ s0_0.size ∧ 0 ≤ s0_2 ∧ s0_2 ≤ 140737488355328
  · rw [if_pos hg] at h
    obtain ⟨b0, b5, b1, b2, b3, b4⟩ := hg
    by_cases h3 : s0_3 = 0
    · rw [if_pos h3] at h
      subst h3
      have A_BAD : Aside0 (api_Fault_Bad.f 0 s0_4 = some false) := ⟨rfl⟩
      have A_FAIL : Aside0 (octet_In_Fail.f s0_0 s0_1 s0_2 0 s0_4 1 (s0_2 + s0_0.size) = some (s0_0, s0_1, s0_2, 1, s0_2 + s0_0.size)) := ⟨by
        unfold octet_In_Fail.f
        rw [A_BAD.out]
        simp⟩
      obtain ⟨ji3, hji3⟩ : ∃ j_ : Int, (mx a1.size 1) = j_ := ⟨_, rfl⟩
      rw [hji3] at h
      have hji3_ : (if (a1.size : Int) < 1 then 1 else (a1.size : Int)) = ji3 := hji3
      have hj0 : 1 ≤ ji3 := by rw [← hji3]; unfold mx; split <;> omega
      have hj1 : ji3 ≤ 140737488355329 := by rw [← hji3]; unfold mx; split <;> omega
      clear hji3
      have H := Aside0.mk h
      clear h
      obtain ⟨HG_, hg_⟩ := HI0.out
      have hc0 := cellS68_0 HG_
      have hc1 := cellS68_1 HG_
      have hc2 := cellS68_2 HG_
      have hc3 := cellS68_3 HG_
      have hc4 := cellS68_4 HG_
      have hf0 := blk_frozen HG_ 0
      have hf1 := blk_frozen HG_ 1
      have hf2 := blk_frozen HG_ 2
      have hf3 := blk_frozen HG_ 3
      have hf4 := blk_frozen HG_ 4
      clear HG_ hg_
      go_enter Try.func42, Try.ntmps42
      go_wp2_with (first | (go_at_call 17; (with_reducible refine (api_Fault_Bad.calls _ _ false _ A_BAD.out).mono ?_); rintro e w5 ⟨rfl, hb⟩; have n0_ := Aside0.mk (IsS68.below q_2 hb); have n1_ := Aside0.mk (KeepBut.trans q_3 (KeepBut.of_below hb g none) (.inl rfl)); have n2_ := Aside0.mk (below_step q_4 hb); clear HI0 HK HB; have HI0 := n0_; have HK := n1_; have HB := n2_; clear n0_ n1_ n2_ hb; (try clear hc0); (try clear hc1); (try clear hc2); (try clear hc3); (try clear hc4); (try clear hf0); (try clear hf1); (try clear hf2); (try clear hf3); (try clear hf4); obtain ⟨HG_, hg_⟩ := HI0.out; have hc0 := cellS68_0 HG_; have hc1 := cellS68_1 HG_; have hc2 := cellS68_2 HG_; have hc3 := cellS68_3 HG_; have hc4 := cellS68_4 HG_; have hf0 := blk_frozen HG_ 0; have hf1 := blk_frozen HG_ 1; have hf2 := blk_frozen HG_ 2; have hf3 := blk_frozen HG_ 3; have hf4 := blk_frozen HG_ 4; clear HG_ hg_))
      clear hji3_
      go_loop [6] (fun v => ∃ (i : Int) (q : Nat), v = .int .i64 i ∧ s0_1 ≤ i ∧ i ≤ 300000000000000 ∧ Aside0 ((s0_0.size : Int) - i < q) ∧ Aside0 (untilGo s0_0 a1 ji3 q i = untilGo s0_0 a1 ji3 (s0_0.size + 1) s0_1)) (fun v => (s0_0.size + 1 - intOf v).toNat)
      case atStart => exact ⟨s0_1, s0_0.size + 1, rfl, by omega, by omega, ⟨by omega⟩, ⟨rfl⟩⟩
      case round =>
        obtain ⟨i, q, rfl, hi0, hi1, HQ, HU⟩ := hrel
        by_cases hle : i + a1.size ≤ s0_0.size
        · obtain ⟨q, rfl⟩ : ∃ m, q = m + 1 := ⟨q - 1, by have := HQ.out; omega⟩
          have hu1 := HU.out
          rw [untilGo, if_pos hle] at hu1
          have q1 : IntKind.i64.wrap (i + a1.size) = i + a1.size := IntWalk.i64_in _ (by omega)
          have q5 : wrap64 (i + a1.size) = i + a1.size := by unfold wrap64; omega
          have q0 : (0 : Int) ≤ i := by omega
          have q2 : (0 : Int) ≤ i + a1.size := by omega
          have q3 : i ≤ i + a1.size := by omega
          have q6 : i ≤ (s0_0.size : Int) := by omega
          by_cases he : (s0_0.extract i.toNat (i + a1.size).toNat).toList = a1.toList
          · rw [if_pos he] at hu1
            have heb : ((s0_0.extract i.toNat (i + a1.size).toNat).toList == a1.toList) = true := beq_iff_eq.mpr he
            have h' := H.out
            rw [← hu1] at h'
            simp only [Option.some.injEq, Prod.mk.injEq] at h'
            obtain ⟨rfl, rfl, rfl, rfl, rfl, rfl⟩ := h'
            have HE := Aside0.mk he
            clear H hu1 HU HQ he
            go_wp2
            go_quiet (fail)
            go_wp2
            go_ret
            exact ⟨rfl, q_2, q_4, q_3⟩
          · rw [if_neg he] at hu1
            have heb : ((s0_0.extract i.toNat (i + a1.size).toNat).toList == a1.toList) = false := beq_eq_false_iff_ne.mpr he
            have HU1 := Aside0.mk hu1
            clear hu1
            go_wp2
            go_round
            case rel => exact ⟨i + ji3, q, by go_num, by omega, by omega, ⟨by have := HQ.out; omega⟩, HU1⟩
            case measure => simp [intOf]; omega
        · have hu1 := HU.out
          have hn : untilGo s0_0 a1 ji3 q i = none := by
            cases q with
            | zero => rfl
            | succ q => rw [untilGo, if_neg hle]
          rw [hn] at hu1
          have h' := H.out
          rw [← hu1] at h'
          simp only [Option.some.injEq, Prod.mk.injEq] at h'
          obtain ⟨rfl, rfl, rfl, rfl, rfl, rfl⟩ := h'
          have q1 : IntKind.i64.wrap (s0_2 + s0_0.size) = s0_2 + s0_0.size := IntWalk.i64_in _ (by omega)
          have hle2 : (s0_0.size : Int) < i + a1.size := by omega
          clear H hu1 HU hn hle
          go_wp2
          go_still_tail 11, (by kernel_rfl)
          go_wp2_with (first | (go_at_call 37; (with_reducible refine (octet_In_Fail.calls g _ _ _ _ _ _ _ _ _ _ _ _ w0 _ q_2 q_4 A_FAIL.out).mono ?_); rintro e w7 ⟨rfl, hi, hb, hk⟩; have n0_ := Aside0.mk hi; have n1_ := Aside0.mk (KeepBut.trans q_3 hk (.inl rfl)); have n2_ := Aside0.mk hb; clear HI0 HK HB; have HI0 := n0_; have HK := n1_; have HB := n2_; clear n0_ n1_ n2_ hi hb hk; (try clear hc0); (try clear hc1); (try clear hc2); (try clear hc3); (try clear hc4); (try clear hf0); (try clear hf1); (try clear hf2); (try clear hf3); (try clear hf4); obtain ⟨HG_, hg_⟩ := HI0.out; have hc0 := cellS68_0 HG_; have hc1 := cellS68_1 HG_; have hc2 := cellS68_2 HG_; have hc3 := cellS68_3 HG_; have hc4 := cellS68_4 HG_; have hf0 := blk_frozen HG_ 0; have hf1 := blk_frozen HG_ 1; have hf2 := blk_frozen HG_ 2; have hf3 := blk_frozen HG_ 3; have hf4 := blk_frozen HG_ 4; clear HG_ hg_))
          go_ret
          exact ⟨rfl, q_2, q_4, q_3⟩
    · rw [if_neg h3] at h
      simp only [Option.some.injEq, Prod.mk.injEq] at h
      obtain ⟨rfl, rfl, rfl, rfl, rfl, rfl⟩ := h
      have A_BAD : Aside0 (api_Fault_Bad.f s0_3 s0_4 = some true) := ⟨by simp [api_Fault_Bad.f, h3]⟩
      obtain ⟨HG_, hg_⟩ := HI0.out
      have hc0 := cellS68_0 HG_
      have hc1 := cellS68_1 HG_
      have hc2 := cellS68_2 HG_
      have hc3 := cellS68_3 HG_
      have hc4 := cellS68_4 HG_
      have hf0 := blk_frozen HG_ 0
      have hf1 := blk_frozen HG_ 1
      have hf2 := blk_frozen HG_ 2
      have hf3 := blk_frozen HG_ 3
      have hf4 := blk_frozen HG_ 4
      clear HG_ hg_
      go_enter Try.func42, Try.ntmps42
      go_wp2_with (first | (go_at_call 17; (with_reducible refine (api_Fault_Bad.calls _ _ true _ A_BAD.out).mono ?_); rintro e w5 ⟨rfl, hb⟩; have n0_ := Aside0.mk (IsS68.below q_2 hb); have n1_ := Aside0.mk (KeepBut.trans q_3 (KeepBut.of_below hb g none) (.inl rfl)); have n2_ := Aside0.mk (below_step q_4 hb); clear HI0 HK HB; have HI0 := n0_; have HK := n1_; have HB := n2_; clear n0_ n1_ n2_ hb; (try clear hc0); (try clear hc1); (try clear hc2); (try clear hc3); (try clear hc4); (try clear hf0); (try clear hf1); (try clear hf2); (try clear hf3); (try clear hf4); obtain ⟨HG_, hg_⟩ := HI0.out; have hc0 := cellS68_0 HG_; have hc1 := cellS68_1 HG_; have hc2 := cellS68_2 HG_; have hc3 := cellS68_3 HG_; have hc4 := cellS68_4 HG_; have hf0 := blk_frozen HG_ 0; have hf1 := blk_frozen HG_ 1; have hf2 := blk_frozen HG_ 2; have hf3 := blk_frozen HG_ 3; have hf4 := blk_frozen HG_ 4; clear HG_ hg_))
      go_ret
      exact ⟨rfl, q_2, q_4, q_3⟩
  · rw [if_neg hg] at h
    exact absurd h (by simp)


/-! ### octet_In_Until_nil: function 42 -/
def octet_In_Until_nil.f  (a1 : ByteArray) : Option (ByteArray) := some (⟨#[]⟩ : ByteArray)
set_option maxHeartbeats 8000000 in
set_option maxRecDepth 100000 in
theorem octet_In_Until_nil.calls  (a1 : ByteArray) (r : ByteArray) (w : World) (h : octet_In_Until_nil.f a1 = some r) :
    Calls Try.prog 42 #[.pointer none, .string a1] w fun e w' => e = .returned (.string r) ∧ Below w.heap.size w w' := by
  have hu32 := Try.underlying32
  have HB := Aside0.mk (Below.refl w.heap.size w)
  have H : (some (⟨#[]⟩ : ByteArray)) = some r := h
  clear h
  obtain rfl := Option.some.inj H
  go_enter Try.func42, Try.ntmps42
  go_wp2
  go_ret
  exact ⟨q_9, q_1⟩

end Go.Proofs.Ytkcckhlkaknggaa.PAll
