/- Numbers as bytes: the program's and the document's. -/
import Derived.Test.YtmfamkkikiglmaaPAllx13
import Derived.Test.YtmfamkkikiglmaaPAllx14
import Derived.Test.YtmfamkkikiglmaaPAllx4
import Derived.Test.YtmfamkkikiglmaaLa
namespace Go.Proofs.Ytmfamkkikiglmaa.Pl
open Go.RowKit Go.Proofs.Ytmfamkkikiglmaa.PAll Go.Proofs.YtmfamkkikiglmaaW.PrintWords Go.Proofs.YtmfamkkikiglmaaW.PrintLast Go.Proofs.YtmfamkkikiglmaaW.PrintMore
set_option linter.unusedVariables false
set_option linter.unusedSimpArgs false

/-- A number's bytes, the lowest first. -/
def sm (n : Nat) : Nat → List Nat
  | 0 => []
  | d + 1 => n % 256 :: sm (n / 256) d
theorem sm_len (n d : Nat) : (sm n d).length = d := by
  induction d generalizing n with
  | zero => rfl
  | succ d ih => simp [sm, ih]
theorem sm_lt (n d : Nat) : ∀ x ∈ sm n d, x < 256 := by
  induction d generalizing n with
  | zero => intro x hx; simp [sm] at hx
  | succ d ih =>
    intro x hx
    simp only [sm, List.mem_cons] at hx
    rcases hx with rfl | hx
    · omega
    · exact ih _ _ hx
theorem sm_snoc (n d : Nat) : sm n (d + 1) = sm n d ++ [n / 256 ^ d % 256] := by
  induction d generalizing n with
  | zero => simp [sm]
  | succ d ih =>
    rw [sm, ih (n / 256)]
    simp only [sm, List.cons_append, Nat.div_div_eq_div_mul]
    rw [Nat.pow_succ, Nat.mul_comm (256 ^ d)]
/-- As whole numbers. -/
def ints (l : List Nat) : List Int := l.map fun n : Nat => (n : Int)
theorem ints_app (a b : List Nat) : ints (a ++ b) = ints a ++ ints b := by simp [ints]
theorem ints_range (l : List Nat) (h : ∀ x ∈ l, x < 256) : ∀ x ∈ ints l, 0 ≤ x ∧ x ≤ 255 := by
  intro x hx
  simp only [ints, List.mem_map] at hx
  obtain ⟨n, hn, rfl⟩ := hx
  have := h n hn
  omega
theorem str_app (a b : List Int) : strOfNums (a ++ b) = strOfNums a ++ strOfNums b := by
  apply ba_ext
  simp [strOfNums, ByteArray.data_append]
theorem str_nil : strOfNums [] = (⟨#[]⟩ : ByteArray) := rfl
theorem ba_nil_app (s : ByteArray) : (⟨#[]⟩ : ByteArray) ++ s = s := by apply ba_ext; simp [ByteArray.data_append]
theorem ba_app_nil (s : ByteArray) : s ++ (⟨#[]⟩ : ByteArray) = s := by apply ba_ext; simp [ByteArray.data_append]
theorem ba_assoc (a b c : ByteArray) : a ++ b ++ c = a ++ (b ++ c) := by apply ba_ext; simp [ByteArray.data_append]
/-- How many bytes: cut to 0 to 8. -/
def clamp (size : Int) : Nat := (min (max size 0) 8).toNat
theorem clamp_mn (size : Int) : mn (mx size 0) 8 = ((clamp size : Nat) : Int) := by
  unfold mn mx clamp
  split <;> split <;> omega
theorem clamp_le (size : Int) : clamp size ≤ 8 := by unfold clamp; omega
theorem pow256 (i : Nat) : (2 : Int) ^ (8 * i) = ((256 ^ i : Nat) : Int) := by
  rw [show (2 : Int) ^ (8 * i) = ((2 ^ (8 * i) : Nat) : Int) by simp, Nat.pow_mul]
theorem shr_byte (n i : Nat) (hi : i ≤ 7) : shr .u64 (n : Int) (wrap64 (8 * (i : Int))) % 256 = ((n / 256 ^ i % 256 : Nat) : Int) := by
  rw [w64 (by omega)]
  unfold shr
  rw [show min (8 * (i : Int)).toNat IntKind.u64.bits = 8 * i by simp [IntKind.bits]; omega, pow256]
  omega
theorem small_loop (n m : Nat) (hm : m ≤ 8) : ∀ (d i : Nat) (xs : List Int), i + d = m → xs.length ≤ i →
    Ev (fun k => octet_Small.l0 k (n : Int) xs (m : Int) (i : Int)) (strOfNums (xs ++ ints (sm (n / 256 ^ i) d)))
  | 0, i, xs, hi, hl => by
    refine Ev.step (fun k => by rw [octet_Small.l0]) ?_
    refine Ev.iten (by omega) (Ev.some ?_)
    simp [sm, ints]
  | d + 1, i, xs, hi, hl => by
    refine Ev.step (fun k => by rw [octet_Small.l0]) ?_
    refine Ev.itep (by omega) (Ev.itep (by rw [w64 (by omega)]; omega) (Ev.itep (by omega) ?_))
    rw [shr_byte n i (by omega), show wrap64 ((i : Int) + 1) = ((i + 1 : Nat) : Int) by rw [w64 (by omega)]; omega]
    refine Ev.eq (small_loop n m hm d (i + 1) _ (by omega) (by simp; omega)) ?_
    congr 1
    simp only [sm, ints, List.map_cons, List.append_assoc, List.cons_append, List.nil_append]
    rw [Nat.div_div_eq_div_mul, ← Nat.pow_succ]
theorem small_ev (n : Nat) (size : Int) : Ev (fun k => octet_Small.f k (n : Int) size) (strOfNums (ints (sm n (clamp size)))) := by
  unfold octet_Small.f
  rw [clamp_mn]
  have h := small_loop n (clamp size) (clamp_le size) (clamp size) 0 [] (by omega) (by simp)
  rw [Nat.pow_zero, Nat.div_one, List.nil_append] at h
  exact h
theorem big_loop (n : Nat) : ∀ (d : Nat) (xs : List Int), xs.length + d ≤ 8 →
    Ev (fun k => octet_Big.l0 k (n : Int) xs ((d : Int) - 1)) (strOfNums (xs ++ ints (sm n d).reverse))
  | 0, xs, hd => by
    refine Ev.step (fun k => by rw [octet_Big.l0]) ?_
    refine Ev.iten (by omega) (Ev.some ?_)
    simp [sm, ints]
  | d + 1, xs, hd => by
    refine Ev.step (fun k => by rw [octet_Big.l0]) ?_
    rw [show ((d + 1 : Nat) : Int) - 1 = (d : Int) by omega]
    refine Ev.itep (by omega) (Ev.itep (by rw [w64 (by omega)]; omega) (Ev.itep (by omega) ?_))
    rw [shr_byte n d (by omega), show wrap64 ((d : Int) - 1) = (d : Int) - 1 by rw [w64 (by omega)]]
    refine Ev.eq (big_loop n d _ (by simp; omega)) ?_
    congr 1
    rw [sm_snoc]
    simp [ints]
theorem big_ev (n : Nat) (size : Int) : Ev (fun k => octet_Big.f k (n : Int) size) (strOfNums (ints (sm n (clamp size)).reverse)) := by
  unfold octet_Big.f
  rw [clamp_mn]
  exact big_loop n (clamp size) [] (by simp; exact clamp_le size)

/-! ### the document's -/
theorem refsize (size : Int) : diacriticref01_Size.f size = some ((clamp size : Nat) : Int) := by
  unfold diacriticref01_Size.f clamp
  split
  · congr 1; omega
  · split
    · congr 1; omega
    · congr 1; omega
theorem tmod256 (n : Nat) : Int.tmod (n : Int) 256 % 256 = ((n % 256 : Nat) : Int) := by
  rw [Int.tmod_eq_emod_of_nonneg (by omega)]; omega
theorem tdiv256 (n : Nat) (hn : n < 18446744073709551616) : IntKind.u64.wrap (Int.tdiv (n : Int) 256) = ((n / 256 : Nat) : Int) := by
  rw [Int.tdiv_eq_ediv_of_nonneg (by omega), wu64 (by omega)]; omega
theorem refsmall_loop (size : Int) : ∀ (d i n : Nat) (x : ByteArray), n < 18446744073709551616 → i + d = clamp size → x.size ≤ i →
    Ev (fun k => diacriticref01_Small.l0 k (n : Int) size x (i : Int)) (x ++ strOfNums (ints (sm n d)))
  | 0, i, n, x, hn, hi, hx => by
    refine Ev.step (fun k => by rw [diacriticref01_Small.l0]) ?_
    refine Ev.bindc (refsize size) (Ev.iten (by omega) (Ev.some ?_))
    rw [show ints (sm n 0) = [] from rfl, str_nil, ba_app_nil]
  | d + 1, i, n, x, hn, hi, hx => by
    have hc := clamp_le size
    refine Ev.step (fun k => by rw [diacriticref01_Small.l0]) ?_
    refine Ev.bindc (refsize size) (Ev.itep (by omega) (Ev.letb ?_))
    rw [tmod256, tdiv256 n hn]
    refine Ev.itep (by rw [size_str]; simp; omega) ?_
    rw [show wrap64 ((i : Int) + 1) = ((i + 1 : Nat) : Int) by rw [w64 (by omega)]; omega]
    refine Ev.eq (refsmall_loop size d (i + 1) _ _ (by omega) (by omega) (by rw [size_app, size_str]; simp; omega)) ?_
    rw [ba_assoc, ← str_app]
    simp [sm, ints]
theorem refsmall_ev (n : Nat) (hn : n < 18446744073709551616) (size : Int) : Ev (fun k => diacriticref01_Small.f k (n : Int) size) (strOfNums (ints (sm n (clamp size)))) := by
  refine Ev.eq (refsmall_loop size (clamp size) 0 n ⟨#[]⟩ hn (by omega) (Nat.le_refl _)) ?_
  rw [ba_nil_app]
theorem refbig_loop (size : Int) : ∀ (d i n : Nat) (x : ByteArray), n < 18446744073709551616 → i + d = clamp size → x.size ≤ i →
    Ev (fun k => diacriticref01_Big.l0 k (n : Int) size x (i : Int)) (strOfNums (ints (sm n d).reverse) ++ x)
  | 0, i, n, x, hn, hi, hx => by
    refine Ev.step (fun k => by rw [diacriticref01_Big.l0]) ?_
    refine Ev.bindc (refsize size) (Ev.iten (by omega) (Ev.some ?_))
    rw [show ints (sm n 0).reverse = [] from rfl, str_nil, ba_nil_app]
  | d + 1, i, n, x, hn, hi, hx => by
    have hc := clamp_le size
    refine Ev.step (fun k => by rw [diacriticref01_Big.l0]) ?_
    refine Ev.bindc (refsize size) (Ev.itep (by omega) (Ev.letb ?_))
    rw [tmod256, tdiv256 n hn]
    refine Ev.itep (by rw [size_str]; simp; omega) ?_
    rw [show wrap64 ((i : Int) + 1) = ((i + 1 : Nat) : Int) by rw [w64 (by omega)]; omega]
    refine Ev.eq (refbig_loop size d (i + 1) _ _ (by omega) (by omega) (by rw [size_app, size_str]; simp; omega)) ?_
    rw [← ba_assoc, ← str_app]
    simp [sm, ints]
theorem refbig_ev (n : Nat) (hn : n < 18446744073709551616) (size : Int) : Ev (fun k => diacriticref01_Big.f k (n : Int) size) (strOfNums (ints (sm n (clamp size)).reverse)) := by
  refine Ev.eq (refbig_loop size (clamp size) 0 n ⟨#[]⟩ hn (by omega) (Nat.le_refl _)) ?_
  rw [ba_app_nil]

end Go.Proofs.Ytmfamkkikiglmaa.Pl
