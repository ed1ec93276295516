/- What the program's and the document's sums reckon. -/
import Derived.Test.YtmfamkkikiglmaaPAllx13
import Derived.Test.YtmfamkkikiglmaaPAllx3
import Derived.Test.YtmfamkkikiglmaaLa
import Derived.Test.YtmfamkkikiglmaaLcrc
namespace Go.Proofs.Ytmfamkkikiglmaa.Pl
open Go.RowKit Go.Proofs.Ytmfamkkikiglmaa.PAll Go.Proofs.YtmfamkkikiglmaaW.PrintWords Go.Proofs.YtmfamkkikiglmaaW.PrintLast Go.Proofs.YtmfamkkikiglmaaW.PrintMore
set_option linter.unusedVariables false
set_option linter.unusedSimpArgs false

/-- A text's bytes as natural numbers. -/
def nats (s : ByteArray) : List Nat := s.data.toList.map UInt8.toNat
theorem nats_lt (s : ByteArray) : ∀ c ∈ nats s, c < 256 := by
  intro c hc
  simp only [nats, List.mem_map] at hc
  obtain ⟨b, _, rfl⟩ := hc
  exact b.toNat_lt
theorem nats_bytes (s : ByteArray) : bytesOf s = (nats s).map fun n : Nat => (n : Int) := by simp [bytesOf, nats]
theorem nats_len (s : ByteArray) : (nats s).length = s.size := by rw [← len_bytesOf, nats_bytes, List.length_map]
theorem nats_app (s t : ByteArray) : nats (s ++ t) = nats s ++ nats t := by simp [nats, ByteArray.data_append]
theorem nats_get (s : ByteArray) (i : Nat) (h : i < s.size) : ∃ c : Nat, c < 256 ∧ bt s (i : Int) = c ∧ (nats s).drop i = c :: (nats s).drop (i + 1) := by
  have hl : i < (nats s).length := by rw [nats_len]; exact h
  refine ⟨(nats s)[i], nats_lt s _ (List.getElem_mem hl), ?_, List.drop_eq_getElem_cons hl⟩
  have := bt_get s i h
  rw [nats_bytes, List.getElem?_map, List.getElem?_eq_getElem hl] at this
  simpa using this.symm

theorem xor32 (a b : Nat) (ha : a < 4294967296) (hb : b < 4294967296) : Go.bits .xor .u32 (a : Int) (b : Int) = ((a ^^^ b : Nat) : Int) := by
  have h := xor_lt ha hb
  simp only [Go.bits, BitVec.ofInt_natCast, BitVec.toNat_xor, BitVec.toNat_ofNat]
  rw [show 2 ^ IntKind.u32.bits = 4294967296 from rfl, Nat.mod_eq_of_lt ha, Nat.mod_eq_of_lt hb]
  exact wu32 ⟨by omega, by omega⟩
theorem xor64 (a b : Nat) (ha : a < 4294967296) (hb : b < 4294967296) : Go.bits .xor .u64 (a : Int) (b : Int) = ((a ^^^ b : Nat) : Int) := by
  have h := xor_lt ha hb
  simp only [Go.bits, BitVec.ofInt_natCast, BitVec.toNat_xor, BitVec.toNat_ofNat]
  rw [show 2 ^ IntKind.u64.bits = 18446744073709551616 from rfl, Nat.mod_eq_of_lt (by omega), Nat.mod_eq_of_lt (by omega)]
  exact wu64 ⟨by omega, by omega⟩
theorem top32 (a : Nat) (ha : a < 4294967296) : (Go.bits .and .u32 (a : Int) 2147483648 = 0) ↔ a < 2147483648 := by
  have e : Go.bits .and .u32 (a : Int) 2147483648 = ((a &&& 2147483648 : Nat) : Int) := by
    have h : a &&& 2147483648 ≤ 2147483648 := Nat.and_le_right
    simp only [Go.bits, show (2147483648 : Int) = ((2147483648 : Nat) : Int) from rfl, BitVec.ofInt_natCast, BitVec.toNat_and, BitVec.toNat_ofNat]
    rw [show 2 ^ IntKind.u32.bits = 4294967296 from rfl, Nat.mod_eq_of_lt ha, Nat.mod_eq_of_lt (by decide)]
    exact wu32 ⟨by omega, by omega⟩
  rw [e]
  have h2 : a &&& 2147483648 = a / 2147483648 % 2 * 2147483648 := by
    apply Nat.eq_of_testBit_eq
    intro i
    rw [Nat.testBit_and, show (2147483648 : Nat) = 2 ^ 31 from rfl, Nat.testBit_two_pow, Nat.mul_comm, Nat.testBit_two_pow_mul]
    by_cases hi : 31 = i
    · subst hi
      simp [Nat.testBit_eq_decide_div_mod_eq]
    · by_cases h3 : i ≥ 31
      · have : (a / 2 ^ 31 % 2).testBit (i - 31) = false := by
          have : a / 2 ^ 31 % 2 < 2 ^ (i - 31) := Nat.lt_of_lt_of_le (Nat.mod_lt _ (by decide)) (by
            have : 2 ^ 1 ≤ 2 ^ (i - 31) := Nat.pow_le_pow_right (by decide) (by omega)
            simpa using this)
          exact Nat.testBit_lt_two_pow this
        simp [hi, this]
      · simp [hi, h3]
  rw [h2]
  omega

theorem step_loop : ∀ (d s : Nat), d ≤ 8 → s < 4294967296 → Ev (fun k => sum_Sum_step.l0 k (s : Int) (8 - (d : Int))) ((pN d s : Nat) : Int)
  | 0, s, _, hs => by
    refine Ev.step (fun k => by rw [sum_Sum_step.l0]) ?_
    exact Ev.iten (by omega) (Ev.some rfl)
  | d + 1, s, hd, hs => by
    refine Ev.step (fun k => by rw [sum_Sum_step.l0]) ?_
    refine Ev.itep (by omega) ?_
    have e1 : wrap64 (8 - ((d + 1 : Nat) : Int) + 1) = 8 - (d : Int) := by rw [w64 (by omega)]; omega
    have e2 : ((s : Int) * 2) % 4294967296 = ((s * 2 % 4294967296 : Nat) : Int) := by omega
    rw [e1, e2]
    have ih := step_loop d (p1 s) (by omega) (p1_lt s)
    by_cases h : s < 2147483648
    · have hp : p1 s = s * 2 % 4294967296 := by unfold p1; rw [if_pos h]
      rw [hp] at ih
      refine Ev.itep ((top32 s hs).mpr h) (Ev.eq ih ?_)
      rw [pN, hp]
    · have hp : p1 s = (s * 2 % 4294967296) ^^^ 79764919 := by unfold p1; rw [if_neg h]
      rw [hp] at ih
      refine Ev.iten (fun h' => h ((top32 s hs).mp h')) (Ev.eq ?_ (show ((pN d (p1 s) : Nat) : Int) = _ from rfl))
      have := xor32 (s * 2 % 4294967296) 79764919 (by omega) (by decide)
      rw [show ((79764919 : Nat) : Int) = 79764919 from rfl] at this
      rw [this, hp]
      exact ih
theorem step_ev (s c : Nat) (hs : s < 4294967296) (hc : c < 256) : Ev (fun k => sum_Sum_step.f k (s : Int) (c : Int)) ((stepN s c : Nat) : Int) := by
  unfold sum_Sum_step.f
  have e : ((((c : Int)) % 4294967296) * 16777216) % 4294967296 = ((c * 16777216 : Nat) : Int) := by omega
  rw [e, xor32 s _ hs (by omega)]
  exact step_loop 8 _ (by omega) (xor_lt hs (by omega))

/-- The inner loop over one text, then on with the others. -/
theorem add_inner (x6 : ByteArray) (hx : x6.size ≤ 140737488355328) (x8 : List ByteArray) (x9 x10 : Int) (r : Int) : ∀ (d i s : Nat), i + d = x6.size → s < 4294967296 →
    Ev (fun k => sum_Sum_Add.l0 k ((sumN s ((nats x6).drop i) : Nat) : Int) x8 x9 (wrap64 (x10 + 1))) r → Ev (fun k => sum_Sum_Add.l1 k (s : Int) x6 x8 x9 x10 (x6.size : Int) (i : Int)) r
  | 0, i, s, hi, hs, h => by
    refine Ev.step (fun k => by rw [sum_Sum_Add.l1]) ?_
    refine Ev.iten (by omega) ?_
    have : (nats x6).drop i = [] := List.drop_eq_nil_of_le (by rw [nats_len]; omega)
    rw [this] at h
    exact h
  | d + 1, i, s, hi, hs, h => by
    obtain ⟨c, hc, hb, hd⟩ := nats_get x6 i (by omega)
    refine Ev.step (fun k => by rw [sum_Sum_Add.l1]) ?_
    refine Ev.itep (by omega) (Ev.itep (by omega) (Ev.itep (by omega) ?_))
    rw [hb]
    refine Ev.bind (step_ev s c hs hc) ?_
    rw [show wrap64 ((i : Int) + 1) = ((i + 1 : Nat) : Int) by rw [w64 (by omega)]; omega]
    refine add_inner x6 hx x8 x9 x10 r d (i + 1) _ (by omega) (stepN_lt s c hs hc) ?_
    rw [hd, sumN_cons] at h
    exact h
/-- What a sum is with texts more. -/
def addN (s : Nat) (l : List ByteArray) : Nat := sumN s (l.flatMap nats)
theorem addN_nil (s : Nat) : addN s [] = s := rfl
theorem addN_cons (s : Nat) (x : ByteArray) (l : List ByteArray) : addN s (x :: l) = addN (sumN s (nats x)) l := by
  unfold addN; rw [List.flatMap_cons, sumN_append]
theorem addN_one (s : Nat) (x : ByteArray) : addN s [x] = sumN s (nats x) := by rw [addN_cons, addN_nil]
theorem add_loop (l : List ByteArray) (hl : l.length ≤ 140737488355328) (hx : ∀ x ∈ l, x.size ≤ 140737488355328) : ∀ (d i s : Nat), i + d = l.length → s < 4294967296 →
    Ev (fun k => sum_Sum_Add.l0 k (s : Int) l (l.length : Int) (i : Int)) ((addN s (l.drop i) : Nat) : Int)
  | 0, i, s, hi, hs => by
    refine Ev.step (fun k => by rw [sum_Sum_Add.l0]) ?_
    refine Ev.iten (by omega) (Ev.some ?_)
    rw [List.drop_eq_nil_of_le (by omega), addN_nil]
  | d + 1, i, s, hi, hs => by
    have hlt : i < l.length := by omega
    refine Ev.step (fun k => by rw [sum_Sum_Add.l0]) ?_
    refine Ev.itep (by omega) (Ev.itep (by omega) (Ev.itep (by omega) ?_))
    have e : rdOf ByteArray.empty l (i : Int) = l[i] := by
      simp [rdOf, List.getD_eq_getElem?_getD, List.getElem?_eq_getElem hlt]
    rw [e]
    refine add_inner l[i] (hx _ (List.getElem_mem hlt)) l _ _ _ l[i].size 0 s (by omega) hs ?_
    rw [List.drop_zero, show wrap64 ((i : Int) + 1) = ((i + 1 : Nat) : Int) by rw [w64 (by omega)]; omega]
    rw [List.drop_eq_getElem_cons hlt, addN_cons]
    exact add_loop l hl hx d (i + 1) _ (by omega) (sumN_lt _ _ hs (nats_lt _))
theorem add_ev (s : Nat) (hs : s < 4294967296) (l : List ByteArray) (hl : l.length ≤ 140737488355328) (hx : ∀ x ∈ l, x.size ≤ 140737488355328) :
    Ev (fun k => sum_Sum_Add.f k (s : Int) l) ((addN s l : Nat) : Int) := by
  have h := add_loop l hl hx l.length 0 s (by omega) hs
  rw [List.drop_zero] at h
  exact h
theorem of_ev (l : List ByteArray) (hl : l.length ≤ 140737488355328) (hx : ∀ x ∈ l, x.size ≤ 140737488355328) : Ev (fun k => sum_Of.f k l) ((addN 0 l : Nat) : Int) := by
  unfold sum_Of.f
  refine Ev.bind (add_ev 0 (by decide) l hl hx) (Ev.some rfl)

/-! ### the document's -/
theorem tdiv_nat (a b : Nat) : Int.tdiv (a : Int) (b : Int) = ((a / b : Nat) : Int) := by rw [Int.tdiv_eq_ediv_of_nonneg (by omega)]; omega
theorem ref_bit (s x1 : Nat) (d0 : Nat) (hd0 : d0 ≤ 7) (hs : s < 4294967296) (r : Int) : ∀ (d b : Nat), d ≤ d0 → b < 256 →
    Ev (fun k => diacriticref16_Step.l0 k ((r1 s (b / 2 ^ d) : Nat) : Int) (x1 : Int) ((d0 : Int) - 1)) r →
    Ev (fun k => diacriticref16_Step.l1 k (s : Int) (x1 : Int) (d0 : Int) (b : Int) ((d0 : Int) - (d : Int))) r
  | 0, b, hd, hb, h => by
    refine Ev.step (fun k => by rw [diacriticref16_Step.l1]) ?_
    refine Ev.iten (by omega) ?_
    have e0 : Int.tdiv (s : Int) 2147483648 = ((s / 2147483648 : Nat) : Int) := tdiv_nat s 2147483648
    have e1 : IntKind.u64.wrap (((s / 2147483648 : Nat) : Int)) = ((s / 2147483648 : Nat) : Int) := wu64 ⟨by omega, by omega⟩
    have e2 : IntKind.u64.wrap (((s / 2147483648 : Nat) : Int) + (b : Int)) = ((s / 2147483648 + b : Nat) : Int) := by rw [wu64 ⟨by omega, by omega⟩]; omega
    have e3 : Int.tmod (((s / 2147483648 + b : Nat) : Int)) 2 = (((s / 2147483648 + b) % 2 : Nat) : Int) := by
      rw [Int.tmod_eq_emod_of_nonneg (by omega)]; omega
    have e4 : IntKind.u64.wrap ((s : Int) * 2) = ((s * 2 : Nat) : Int) := by rw [wu64 ⟨by omega, by omega⟩]; omega
    have e5 : Int.tmod (((s * 2 : Nat) : Int)) 4294967296 = ((s * 2 % 4294967296 : Nat) : Int) := by
      rw [Int.tmod_eq_emod_of_nonneg (by omega)]; omega
    have e6 : Go.bits .xor .u64 (((s * 2 % 4294967296 : Nat) : Int)) 79764919 = (((s * 2 % 4294967296) ^^^ 79764919 : Nat) : Int) := xor64 _ 79764919 (by omega) (by decide)
    have e7 : wrap64 ((d0 : Int) - 1) = (d0 : Int) - 1 := w64 (by omega)
    rw [e0, e1, e2, e3, e4, e5, e6, e7]
    rw [Nat.pow_zero, Nat.div_one] at h
    unfold r1 at h
    by_cases hc : (s / 2147483648 + b) % 2 = 1
    · rw [if_pos hc] at h
      exact Ev.itep (by omega) h
    · rw [if_neg hc] at h
      exact Ev.iten (by omega) h
  | d + 1, b, hd, hb, h => by
    refine Ev.step (fun k => by rw [diacriticref16_Step.l1]) ?_
    refine Ev.itep (by omega) ?_
    have e1 : IntKind.u64.wrap (Int.tdiv (b : Int) 2) = ((b / 2 : Nat) : Int) := by
      rw [show Int.tdiv (b : Int) 2 = ((b / 2 : Nat) : Int) from tdiv_nat b 2]; exact wu64 ⟨by omega, by omega⟩
    rw [e1, show wrap64 ((d0 : Int) - ((d + 1 : Nat) : Int) + 1) = (d0 : Int) - (d : Int) by rw [w64 (by omega)]; omega]
    refine ref_bit s x1 d0 hd0 hs r d (b / 2) (by omega) (by omega) ?_
    rw [Nat.div_div_eq_div_mul, Nat.mul_comm, ← Nat.pow_succ]
    exact h
theorem ref_loop (c : Nat) (hc : c < 256) : ∀ (d s : Nat), d ≤ 8 → s < 4294967296 → Ev (fun k => diacriticref16_Step.l0 k (s : Int) (c : Int) ((d : Int) - 1)) ((rN d s c : Nat) : Int)
  | 0, s, _, _ => by
    refine Ev.step (fun k => by rw [diacriticref16_Step.l0]) ?_
    exact Ev.iten (by omega) (Ev.some rfl)
  | d + 1, s, hd, hs => by
    refine Ev.step (fun k => by rw [diacriticref16_Step.l0]) ?_
    refine Ev.itep (by omega) ?_
    rw [wu64 (n := (c : Int)) ⟨by omega, by omega⟩, show ((d + 1 : Nat) : Int) - 1 = (d : Int) by omega]
    have := ref_bit s c d (by omega) hs ((rN (d + 1) s c : Nat) : Int) d c (by omega) hc (ref_loop c hc d _ (by omega) (r1_lt _ _))
    rw [show (d : Int) - (d : Int) = 0 by omega] at this
    exact this
theorem refstep_ev (s c : Nat) (hs : s < 4294967296) (hc : c < 256) : Ev (fun k => diacriticref16_Step.f k (s : Int) (c : Int)) ((stepN s c : Nat) : Int) := by
  unfold diacriticref16_Step.f
  rw [step_eq s c hs hc]
  exact ref_loop c hc 8 s (by omega) hs
theorem refof_loop (x : ByteArray) (hx : x.size ≤ 140737488355328) : ∀ (d i s : Nat), i + d = x.size → s < 4294967296 →
    Ev (fun k => diacriticref16_Of.l0 k (s : Int) x (i : Int)) ((sumN s ((nats x).drop i) : Nat) : Int)
  | 0, i, s, hi, hs => by
    refine Ev.step (fun k => by rw [diacriticref16_Of.l0]) ?_
    refine Ev.iten (by omega) (Ev.some ?_)
    rw [List.drop_eq_nil_of_le (by rw [nats_len]; omega)]; rfl
  | d + 1, i, s, hi, hs => by
    obtain ⟨c, hc, hb, hd⟩ := nats_get x i (by omega)
    refine Ev.step (fun k => by rw [diacriticref16_Of.l0]) ?_
    refine Ev.itep (by omega) (Ev.itep (by omega) ?_)
    rw [hb]
    refine Ev.bind (refstep_ev s c hs hc) ?_
    rw [show wrap64 ((i : Int) + 1) = ((i + 1 : Nat) : Int) by rw [w64 (by omega)]; omega, hd, sumN_cons]
    exact refof_loop x hx d (i + 1) _ (by omega) (stepN_lt s c hs hc)
theorem refof_ev (s : Nat) (hs : s < 4294967296) (x : ByteArray) (hx : x.size ≤ 140737488355328) : Ev (fun k => diacriticref16_Of.f k (s : Int) x) ((sumN s (nats x) : Nat) : Int) := by
  have h := refof_loop x hx x.size 0 s (by omega) hs
  rw [List.drop_zero] at h
  exact h

end Go.Proofs.Ytmfamkkikiglmaa.Pl
