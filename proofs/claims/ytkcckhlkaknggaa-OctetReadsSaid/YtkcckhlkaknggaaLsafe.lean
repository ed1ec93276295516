/- Numbers in seven bits each: the program's and the document's; the reader's steps. -/
import Derived.Test.YtkcckhlkaknggaaPAllx2
import Derived.Test.YtkcckhlkaknggaaPAllx3
import Derived.Test.YtkcckhlkaknggaaPAllx4
import Derived.Test.YtkcckhlkaknggaaLnum
import Derived.Laws.BitsLemmas
namespace Go.Proofs.Ytkcckhlkaknggaa.Pl
open Go.RowKit Go.Proofs.Ytkcckhlkaknggaa.PAll Go.Proofs.YtkcckhlkaknggaaW.PrintWords Go.Proofs.YtkcckhlkaknggaaW.PrintLast Go.Proofs.YtkcckhlkaknggaaW.PrintMore
set_option linter.unusedVariables false
set_option linter.unusedSimpArgs false

def sevens (n : Nat) : List Nat := [n / 2097152 % 128, n / 16384 % 128, n / 128 % 128, n % 128]
theorem sevens_lt (n : Nat) : ∀ x ∈ sevens n, x < 128 := by
  intro x hx
  simp only [sevens, List.mem_cons, List.not_mem_nil, or_false] at hx
  omega
theorem sevens_lt256 (n : Nat) : ∀ x ∈ sevens n, x < 256 := fun x hx => by have := sevens_lt n x hx; omega
theorem and127 (x : Nat) (h : x < 4294967296) : Go.bits .and .u64 (x : Int) 127 = ((x % 128 : Nat) : Int) := by
  have := bits_mask .u64 32 (by decide) (fun n h0 h1 => wu64 (by omega)) 7 (by decide) (x : Int) (by omega) (by omega)
  rw [show ((2 : Int) ^ 7 - 1) = 127 by decide] at this
  rw [this]; omega
theorem safe_yes (n : Nat) (h : n ≤ 268435455) : octet_Safe.f (n : Int) = some (strOfNums (ints (sevens n)), true) := by
  unfold octet_Safe.f
  rw [if_neg (by omega)]
  congr 3
  have e1 : (n : Int) / 16384 = ((n / 16384 : Nat) : Int) := by omega
  have e2 : (n : Int) / 128 = ((n / 128 : Nat) : Int) := by omega
  rw [e1, e2, and127 _ (by omega), and127 _ (by omega), and127 _ (by omega)]
  simp only [ints, sevens, List.map_cons, List.map_nil]
  congr 1
  · omega
  · congr 1
    · omega
    · congr 1
      · omega
      · congr 1; omega
theorem safe_no (n : Int) (h : n > 268435455) : octet_Safe.f n = some ((⟨#[]⟩ : ByteArray), false) := by
  unfold octet_Safe.f
  rw [if_pos h]
theorem refsafe (n : Nat) (h : n < 18446744073709551616) : diacriticref01_Safe.f (n : Int) = some (strOfNums (ints (sevens n))) := by
  unfold diacriticref01_Safe.f
  have t : ∀ d : Nat, 0 < d → IntKind.u64.wrap (Int.tdiv (n : Int) (d : Int)) = ((n / d : Nat) : Int) := by
    intro d hd
    rw [Int.tdiv_eq_ediv_of_nonneg (by omega), ← Int.natCast_ediv]
    have : n / d ≤ n := Nat.div_le_self n d
    generalize n / d = q at this ⊢
    exact wu64 (by omega)
  have m : ∀ x : Nat, Int.tmod (x : Int) 128 % 256 = ((x % 128 : Nat) : Int) := by
    intro x
    rw [Int.tmod_eq_emod_of_nonneg (by omega)]; omega
  have t1 := t 2097152 (by decide)
  have t2 := t 16384 (by decide)
  have t3 := t 128 (by decide)
  rw [show ((2097152 : Nat) : Int) = 2097152 from rfl] at t1
  rw [show ((16384 : Nat) : Int) = 16384 from rfl] at t2
  rw [show ((128 : Nat) : Int) = 128 from rfl] at t3
  rw [t1, t2, t3, m, m, m, m]
  rfl
theorem safeStep_eq (n c : Nat) (hn : n < 1125899906842624) (hc : c < 128) : safeStep (n : Int) (c : Int) = ((n * 128 + c : Nat) : Int) := by
  unfold safeStep
  rw [w64 (by omega)]
  have := bits_join .i64 62 (by decide) (fun n h0 h1 => by rw [IntKind.wrap_i64]; omega) 7 ((n : Int) * 128) (c : Int) (by omega) (by omega) (by omega) (by omega) (by omega) (by omega)
  rw [this]; omega
theorem safeOf_sevens (n : Nat) (h : n ≤ 268435455) : safeOf (ints (sevens n)) = (n : Int) := by
  simp only [safeOf, ints, sevens, List.map_cons, List.map_nil, List.foldl_cons, List.foldl_nil]
  rw [show (0 : Int) = ((0 : Nat) : Int) from rfl]
  rw [safeStep_eq 0 (n / 2097152 % 128) (by omega) (by omega)]
  rw [safeStep_eq (0 * 128 + n / 2097152 % 128) (n / 16384 % 128) (by omega) (by omega)]
  rw [safeStep_eq _ (n / 128 % 128) (by omega) (by omega)]
  rw [safeStep_eq _ (n % 128) (by omega) (by omega)]
  omega
theorem bad_ints (l : List Nat) (h : ∀ x ∈ l, x < 128) (i : Nat) : badAt (ints l) i = none := by
  induction l generalizing i with
  | nil => rfl
  | cons c l ih =>
    have h0 := h c (by simp)
    simp only [ints, List.map_cons]
    rw [badAt, if_neg (by omega)]
    exact ih (fun x hx => h x (by simp [hx])) (i + 1)
/-- Taking as much as there is. -/
theorem take_ok (s : ByteArray) (at_ base fa n : Nat) (hs : s.size ≤ 140737488355328) (hb : base ≤ 140737488355328) (h : at_ + n ≤ s.size) :
    octet_In_Take.f s (at_ : Int) (base : Int) 0 (fa : Int) (n : Int) = some (s.extract at_ (at_ + n), s, ((at_ + n : Nat) : Int), (base : Int), 0, (fa : Int)) := by
  unfold octet_In_Take.f
  rw [if_pos (by omega), if_pos rfl, if_pos (by omega)]
  have e : (at_ : Int) + (n : Int) = ((at_ + n : Nat) : Int) := by omega
  rw [e, Int.toNat_natCast, Int.toNat_natCast]
theorem insafe_ok (n : Nat) (h : n ≤ 268435455) : octet_In_Safe.f (strOfNums (ints (sevens n))) 0 0 0 0 = some ((n : Int), strOfNums (ints (sevens n)), 4, 0, 0, 0) := by
  have hsz : (strOfNums (ints (sevens n))).size = 4 := by rw [size_str]; rfl
  have hb : bytesOf (strOfNums (ints (sevens n))) = ints (sevens n) := bytesOf_str (ints_range _ (sevens_lt256 n))
  have ht := take_ok (strOfNums (ints (sevens n))) 0 0 0 4 (by omega) (by omega) (by omega)
  have he := ext_all (strOfNums (ints (sevens n)))
  rw [hsz] at he
  rw [show (0 + 4 : Nat) = 4 from rfl, he] at ht
  unfold octet_In_Safe.f
  have ht' : octet_In_Take.f (strOfNums (ints (sevens n))) 0 0 0 0 4 = some (strOfNums (ints (sevens n)), strOfNums (ints (sevens n)), 4, 0, 0, 0) := ht
  rw [ht']
  simp only [Option.bind_some]
  rw [if_pos (by rw [hsz]; omega), hb, bad_ints _ (sevens_lt n)]
  simp only
  rw [safeOf_sevens n h]

end Go.Proofs.Ytkcckhlkaknggaa.Pl
