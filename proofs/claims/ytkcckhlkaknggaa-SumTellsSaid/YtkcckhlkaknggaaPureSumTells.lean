/- A text in which one byte is another one has another sum; a sum of a text with its own four bytes, the highest first, behind it is 0: the plain law. -/
import Derived.Test.YtkcckhlkaknggaaPAllx10
import Derived.Test.YtkcckhlkaknggaaPAllx11
import Derived.Test.YtkcckhlkaknggaaPAllx6
import Derived.Test.YtkcckhlkaknggaaLsum
import Derived.Test.YtkcckhlkaknggaaLnum
import Derived.Test.YtkcckhlkaknggaaLback
namespace Go.Proofs.Ytkcckhlkaknggaa.Pure
open Go.RowKit Go.Proofs.Ytkcckhlkaknggaa.PAll Go.Proofs.Ytkcckhlkaknggaa.Pl Go.Proofs.YtkcckhlkaknggaaW.PrintWords Go.Proofs.YtkcckhlkaknggaaW.PrintLast
set_option linter.unusedVariables false
set_option linter.unusedSimpArgs false

theorem awake16t : diacriticlaw16_awake.f = some true := by kernel_rfl
theorem xor8 (a b : Nat) (ha : a < 256) (hb : b < 256) : Go.bits .xor .u8 (a : Int) (b : Int) = ((a ^^^ b : Nat) : Int) := by
  have h : a ^^^ b < 256 := Nat.xor_lt_two_pow (n := 8) ha hb
  simp only [Go.bits, BitVec.ofInt_natCast, BitVec.toNat_xor, BitVec.toNat_ofNat]
  rw [show 2 ^ IntKind.u8.bits = 256 from rfl, Nat.mod_eq_of_lt ha, Nat.mod_eq_of_lt hb]
  exact wu8 ⟨by omega, by omega⟩
theorem xor_ne (a b : Nat) (hb : b ≠ 0) : a ^^^ b ≠ a := by
  intro h
  apply hb
  have := congrArg (a ^^^ ·) h
  simpa [← Nat.xor_assoc] using this
theorem nats_of_ints {s : ByteArray} {l : List Nat} (h : bytesOf s = ints l) : nats s = l := by
  rw [nats_bytes] at h
  refine (List.map_inj_right (f := fun n : Nat => (n : Int)) ?_).mp h
  intro x y hxy; exact Int.ofNat.inj hxy
theorem tells (s : ByteArray) (at_ m : Nat) (h0 : 0 < s.size) (hm : m < 256) (hm0 : m ≠ 0) : sumN 0 (nats (tellB s (at_ : Int) (m : Int))) ≠ sumN 0 (nats s) := by
  have hl : (nats s).length = s.size := nats_len s
  have hi : at_ % s.size < s.size := Nat.mod_lt _ h0
  have hi2 : at_ % s.size < (nats s).length := by omega
  have hc := nats_lt s _ (List.getElem_mem hi2)
  have hb : bytesOf s = ints (nats s) := nats_bytes s
  have hg : (bytesOf s).getD (at_ % s.size) 0 = (((nats s)[at_ % s.size] : Nat) : Int) := by
    rw [hb, ints, List.getD_eq_getElem?_getD, List.getElem?_map, List.getElem?_eq_getElem hi2]; rfl
  have ht : bytesOf (tellB s (at_ : Int) (m : Int)) = ints ((nats s).set (at_ % s.size) ((nats s)[at_ % s.size] ^^^ m)) := by
    rw [tellB, bytesOf_str (tell_range s _ _), tellI, Int.toNat_natCast, hg, xor8 _ _ hc hm, hb, ints, ints, List.map_set]
  have hd : (nats s)[at_ % s.size] ^^^ m < 256 := Nat.xor_lt_two_pow (n := 8) hc hm
  have hn := nats_of_ints ht
  rw [hn, List.set_eq_take_append_cons_drop, if_pos hi2]
  intro h
  have e : nats s = (nats s).take (at_ % s.size) ++ (nats s)[at_ % s.size] :: (nats s).drop (at_ % s.size + 1) := by
    rw [← List.drop_eq_getElem_cons hi2, List.take_append_drop]
  have h2 : sumN 0 ((nats s).take (at_ % s.size) ++ ((nats s)[at_ % s.size] ^^^ m) :: (nats s).drop (at_ % s.size + 1)) = sumN 0 ((nats s).take (at_ % s.size) ++ (nats s)[at_ % s.size] :: (nats s).drop (at_ % s.size + 1)) := by
    rw [← e]; exact h
  have := sumN_differs _ _ _ _ 0 (by decide) (fun x hx => nats_lt s x (List.mem_of_mem_take hx)) (fun x hx => nats_lt s x (List.mem_of_mem_drop hx)) hd hc h2
  exact xor_ne _ _ hm0 this
theorem SumTells : diacriticlaw16_SumTells.Pure := by
  intro s x1 x2 h0 h1 h2
  have r1 := wf_u16 h1
  have r2 := wf_u8 h2
  obtain ⟨at_, rfl⟩ := Int.eq_ofNat_of_zero_le r1.1
  obtain ⟨m, rfl⟩ := Int.eq_ofNat_of_zero_le r2.1
  apply Ev.rounds
  unfold diacriticlaw16_SumTells.f
  by_cases hz : (s.size : Int) > 1000
  · exact Ev.itep hz (Ev.bindc awake16t (Ev.some rfl))
  have hS := sumN_lt (nats s) 0 (by decide) (nats_lt s)
  have hof := of_ev [s] (by simp) (by simp; omega)
  rw [addN_one] at hof
  refine Ev.iten hz (Ev.bind hof ?_)
  generalize hSg : sumN 0 (nats s) = S at hS
  have hby : Ev (fun k => sum_Sum_Bytes.f k (S : Int)) (strOfNums (ints (sm S 4))) := by
    unfold sum_Sum_Bytes.f
    rw [wu64 (by omega)]
    exact Ev.bind (small_ev S 4) (Ev.some rfl)
  refine Ev.bind hby (Ev.itep (by rw [size_str]; simp [ints, sm_len]) ?_)
  have hbk := refback_ev (strOfNums (ints (sm S 4))) (by rw [size_str]; simp [ints, sm_len])
  rw [rev_str _ (sm_lt S 4)] at hbk
  have hrev : ∀ x ∈ (sm S 4).reverse, x < 256 := fun x hx => sm_lt S 4 x (List.mem_reverse.mp hx)
  have hnr : nats (strOfNums (ints (sm S 4).reverse)) = (sm S 4).reverse := nats_of_ints (bytesOf_str (ints_range _ hrev))
  have hof2 := of_ev [s, strOfNums (ints (sm S 4).reverse)] (by simp) (by
    intro y hy
    simp only [List.mem_cons, List.not_mem_nil, or_false] at hy
    rcases hy with rfl | rfl
    · omega
    · rw [size_str]; simp [ints, sm_len])
  have hzero : addN 0 [s, strOfNums (ints (sm S 4).reverse)] = 0 := by
    rw [addN_cons, addN_one, hnr, hSg]
    have e : (sm S 4).reverse = [S / 16777216 % 256, S / 65536 % 256, S / 256 % 256, S % 256] := by
      simp [sm, Nat.div_div_eq_div_mul]
    rw [e]
    exact sumN_self S hS
  rw [hzero] at hof2
  refine Ev.bind hbk (Ev.bind hof2 ?_)
  have over : Ev (fun k => diacriticlaw16_SumTells.j1 k s (at_ : Int) (m : Int) (S : Int) true) true := by
    refine Ev.step (fun k => by rw [diacriticlaw16_SumTells.j1]) ?_
    exact Ev.itep rfl (Ev.bindc awake16t (Ev.some rfl))
  refine Ev.step (fun k => by rw [diacriticlaw16_SumTells.j0]) ?_
  refine Ev.iten (by simp) ?_
  by_cases he : s.toList = ([] : List UInt8)
  · exact Ev.itep he over
  have hp : 0 < s.size := Nat.pos_of_ne_zero (fun e => he ((tl_nil s).mpr e))
  refine Ev.iten he ?_
  by_cases hm : m = 0
  · rw [show ((m : Int) == 0) = true by rw [hm]; rfl]; exact over
  rw [show ((m : Int) == 0) = false by rw [beq_eq_false_iff_ne]; omega]
  refine Ev.step (fun k => by rw [diacriticlaw16_SumTells.j1]) ?_
  have ht := tells s at_ m hp (by omega) hm
  have hsz : (tellB s (at_ : Int) (m : Int)).size = s.size := by
    rw [tellB, size_str, tellI, List.length_set, len_bytesOf]
  have hof3 := of_ev [tellB s (at_ : Int) (m : Int)] (by simp) (by simp; omega)
  rw [addN_one] at hof3
  rw [hSg] at ht
  refine Ev.iten (by decide) (Ev.itep ⟨hp, by omega, by omega, by omega⟩ (Ev.bindc awake16t (Ev.itep rfl (Ev.bind hof3 (Ev.some ?_)))))
  rw [bne_iff_ne]
  intro h
  exact ht (Int.ofNat.inj h)

end Go.Proofs.Ytkcckhlkaknggaa.Pure
