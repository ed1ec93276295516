/- A text that is read from a place on: what each step tells, and what numbers its bytes are. -/
import Derived.Test.YtmfamkkikiglmaaPAllx9
import Derived.Test.YtmfamkkikiglmaaLnum
import Derived.Laws.BitsLemmas
namespace Go.Proofs.Ytmfamkkikiglmaa.Pl
open Go.RowKit Go.Proofs.Ytmfamkkikiglmaa.PAll Go.Proofs.YtmfamkkikiglmaaW.PrintWords Go.Proofs.YtmfamkkikiglmaaW.PrintLast Go.Proofs.YtmfamkkikiglmaaW.PrintMore
set_option linter.unusedVariables false
set_option linter.unusedSimpArgs false

/-! ### numbers of bytes -/
def bigN (l : List Nat) : Nat := l.foldl (fun n c => n * 256 + c) 0
theorem bigN_snoc (l : List Nat) (c : Nat) : bigN (l ++ [c]) = bigN l * 256 + c := by simp [bigN]
theorem pow256_pos (d : Nat) : 0 < 256 ^ d := Nat.pow_pos (by decide)
theorem snoc_ind {α : Type} {P : List α → Prop} (h0 : P []) (h1 : ∀ l c, P l → P (l ++ [c])) (l : List α) : P l := by
  have : ∀ m : List α, P m.reverse := by
    intro m
    induction m with
    | nil => exact h0
    | cons c m ih => rw [List.reverse_cons]; exact h1 _ _ ih
  have := this l.reverse
  rwa [List.reverse_reverse] at this
theorem bigN_lt (l : List Nat) (h : ∀ x ∈ l, x < 256) : bigN l < 256 ^ l.length := by
  induction l using snoc_ind with
  | h0 => simp [bigN]
  | h1 l c ih =>
    have h1 := ih (fun x hx => h x (by simp [hx]))
    have h2 := h c (by simp)
    rw [bigN_snoc, List.length_append, List.length_singleton, Nat.pow_succ]
    omega
theorem bigN_sm (n d : Nat) : bigN (sm n d).reverse = n % 256 ^ d := by
  induction d generalizing n with
  | zero => simp [sm, bigN, Nat.mod_one]
  | succ d ih =>
    rw [sm, List.reverse_cons, bigN_snoc, ih, Nat.pow_succ, Nat.mul_comm (256 ^ d) 256, Nat.mod_mul, Nat.mul_comm]
    omega
theorem pow_le8 {k m : Nat} (h : k ≤ m) : 256 ^ k ≤ 256 ^ m := Nat.pow_le_pow_right (by decide) h
theorem bigOf_ints (l : List Nat) (h : ∀ x ∈ l, x < 256) (h8 : l.length ≤ 8) : bigOf (ints l) = ((bigN l : Nat) : Int) := by
  induction l using snoc_ind with
  | h0 => rfl
  | h1 l c ih =>
    rw [List.length_append, List.length_singleton] at h8
    have h1 := ih (fun x hx => h x (by simp [hx])) (by omega)
    have h2 := h c (by simp)
    have h3 := bigN_lt l (fun x hx => h x (by simp [hx]))
    have h4 : 256 ^ l.length ≤ 256 ^ 7 := pow_le8 (by omega)
    have h5 : (256 : Nat) ^ 7 = 72057594037927936 := by decide
    have e : ints (l ++ [c]) = ints l ++ [(c : Int)] := by simp [ints]
    rw [e, bigOf_snoc, h1, bigN_snoc]
    unfold bigStep
    rw [wu64 (by omega)]
    have := bits_join .u64 64 (by decide) (fun n h0 h1 => wu64 (by omega)) 8 ((bigN l : Int) * 256) (c : Int) (by omega) (by omega) (by omega) (by omega) (by omega) (by omega)
    rw [this]; omega
theorem or64 (a c k : Nat) (ha : a < 256 ^ k) (hb : c * 256 ^ k < 18446744073709551616) (hk : k ≤ 7) : Go.bits .or .u64 (a : Int) ((c * 256 ^ k : Nat) : Int) = ((a + c * 256 ^ k : Nat) : Int) := by
  have hp : 256 ^ k ≤ 256 ^ 7 := pow_le8 hk
  have h5 : (256 : Nat) ^ 7 = 72057594037927936 := by decide
  have h := (bits_nat .u64 64 (by decide) (fun n h0 h1 => wu64 (by omega)) a (c * 256 ^ k) (by omega) (by omega)).2
  have e : (256 : Nat) ^ k = 2 ^ (8 * k) := by rw [Nat.pow_mul]
  rw [h, Nat.or_comm, e, Nat.mul_comm c, ← Nat.two_pow_add_eq_or_of_lt (by rw [← e]; exact ha), Nat.add_comm]
/-- The lowest first. -/
def smN : List Nat → Nat
  | [] => 0
  | c :: l => c + 256 * smN l
theorem smN_snoc (l : List Nat) (c : Nat) : smN (l ++ [c]) = smN l + c * 256 ^ l.length := by
  induction l with
  | nil => simp [smN]
  | cons a l ih =>
    rw [List.cons_append, smN, ih, smN, List.length_cons, Nat.pow_succ, Nat.mul_add]
    have : 256 * (c * 256 ^ l.length) = c * (256 ^ l.length * 256) := by rw [Nat.mul_comm, Nat.mul_assoc]
    omega
theorem smN_lt (l : List Nat) (h : ∀ x ∈ l, x < 256) : smN l < 256 ^ l.length := by
  induction l with
  | nil => simp [smN]
  | cons a l ih =>
    have h1 := ih (fun x hx => h x (by simp [hx]))
    have h2 := h a (by simp)
    rw [smN, List.length_cons, Nat.pow_succ]
    omega
theorem smN_sm (n d : Nat) : smN (sm n d) = n % 256 ^ d := by
  induction d generalizing n with
  | zero => simp [sm, smN, Nat.mod_one]
  | succ d ih =>
    rw [sm, smN, ih, Nat.pow_succ, Nat.mul_comm (256 ^ d) 256, Nat.mod_mul]
theorem smN_rev (l : List Nat) : smN l = bigN l.reverse := by
  induction l with
  | nil => rfl
  | cons a l ih => rw [smN, List.reverse_cons, bigN_snoc, ih]; omega
theorem smallOf_ints (l : List Nat) (h : ∀ x ∈ l, x < 256) (h8 : l.length ≤ 8) : ∀ k, k ≤ l.length → smallOf (ints l) k = ((smN (l.take k) : Nat) : Int)
  | 0, _ => rfl
  | k + 1, hk => by
    have ih := smallOf_ints l h h8 k (by omega)
    have hlt : k < l.length := by omega
    have hc := h l[k] (List.getElem_mem hlt)
    have h3 := smN_lt (l.take k) (fun x hx => h x (List.mem_of_mem_take hx))
    have hl : (l.take k).length = k := by rw [List.length_take]; omega
    rw [hl] at h3
    have e : (ints l).getD k 0 = (l[k] : Int) := by
      rw [List.getD_eq_getElem?_getD, ints, List.getElem?_map, List.getElem?_eq_getElem hlt]; rfl
    rw [smallOf, ih, e, List.take_succ_eq_append_getElem hlt, smN_snoc, hl]
    have hp : (2 : Int) ^ (8 * k) = ((256 ^ k : Nat) : Int) := pow256 k
    have h4 : 256 ^ (k + 1) ≤ 256 ^ 8 := pow_le8 (by omega)
    rw [Nat.pow_succ] at h4
    have h5 : (256 : Nat) ^ 8 = 18446744073709551616 := by decide
    have h6 : l[k] * 256 ^ k < 256 ^ k * 256 := by
      rw [Nat.mul_comm]; exact Nat.mul_lt_mul_of_pos_left hc (pow256_pos k)
    have e2 : (l[k] : Int) * (2 : Int) ^ (8 * k) = ((l[k] * 256 ^ k : Nat) : Int) := by rw [hp, ← Int.natCast_mul]
    rw [e2, wu64 (by omega), or64 _ _ k h3 (by omega) (by omega)]

end Go.Proofs.Ytmfamkkikiglmaa.Pl
