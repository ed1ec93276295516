/- Numbers, safe numbers, readers: plain lemmas (of the texts Lnum, Lsafe, Lread, Lrd), for a seat without sums. -/
import Derived.Test.YtlmhlmendnjmlaaDoorPAllx12
import Derived.Test.YtlmhlmendnjmlaaDoorPAllx13
import Derived.Test.YtlmhlmendnjmlaaDoorPAllx20
import Derived.Test.YtlmhlmendnjmlaaDoorPAllx8
import Derived.Test.YtlmhlmendnjmlaaDoorPAllx9
import Derived.Test.YtlmhlmendnjmlaaDoorLnat
import Derived.Test.YtlmhlmendnjmlaaDoorLjoin
import Derived.Laws.BitsLemmas
namespace Go.Proofs.YtlmhlmendnjmlaaDoor.Pl
open Go.RowKit Go.Proofs.YtlmhlmendnjmlaaDoor.PAll Go.Proofs.YtlmhlmendnjmlaaDoorW.PrintWords Go.Proofs.YtlmhlmendnjmlaaDoorW.PrintLast Go.Proofs.YtlmhlmendnjmlaaDoorW.PrintMore
set_option linter.unusedVariables false
set_option linter.unusedSimpArgs false

def sm (n : Nat) : Nat → List Nat
  | 0 => []
  | d + 1 => n % 256 :: sm (n / 256) d
theorem sm_len (n d : Nat) : (sm n d).length = d := by
  induction d generalizing n with
  | zero => rfl
  | succ d ih => simp [sm, ih]
theorem sm_lt (n d : Nat) : ∀ x ∈ sm n d, x < 256 := by
  induction d generalizing n with
  | zero => intro x hx; simp [sm] at hx
  | succ d ih =>
    intro x hx
    simp only [sm, List.mem_cons] at hx
    rcases hx with rfl | hx
    · omega
    · exact ih _ _ hx
theorem sm_snoc (n d : Nat) : sm n (d + 1) = sm n d ++ [n / 256 ^ d % 256] := by
  induction d generalizing n with
  | zero => simp [sm]
  | succ d ih =>
    rw [sm, ih (n / 256)]
    simp only [sm, List.cons_append, Nat.div_div_eq_div_mul]
    rw [Nat.pow_succ, Nat.mul_comm (256 ^ d)]
theorem ba_nil_app (s : ByteArray) : (⟨#[]⟩ : ByteArray) ++ s = s := by apply ba_ext; simp [ByteArray.data_append]
theorem ba_app_nil (s : ByteArray) : s ++ (⟨#[]⟩ : ByteArray) = s := by apply ba_ext; simp [ByteArray.data_append]
theorem ba_assoc (a b c : ByteArray) : a ++ b ++ c = a ++ (b ++ c) := by apply ba_ext; simp [ByteArray.data_append]
theorem str_nil : strOfNums [] = (⟨#[]⟩ : ByteArray) := rfl
def clamp (size : Int) : Nat := (min (max size 0) 8).toNat
theorem clamp_mn (size : Int) : mn (mx size 0) 8 = ((clamp size : Nat) : Int) := by
  unfold mn mx clamp
  split <;> split <;> omega
theorem clamp_le (size : Int) : clamp size ≤ 8 := by unfold clamp; omega
theorem pow256 (i : Nat) : (2 : Int) ^ (8 * i) = ((256 ^ i : Nat) : Int) := by
  rw [show (2 : Int) ^ (8 * i) = ((2 ^ (8 * i) : Nat) : Int) by simp, Nat.pow_mul]
theorem shr_byte (n i : Nat) (hi : i ≤ 7) : shr .u64 (n : Int) (wrap64 (8 * (i : Int))) % 256 = ((n / 256 ^ i % 256 : Nat) : Int) := by
  rw [w64 (by omega)]
  unfold shr
  rw [show min (8 * (i : Int)).toNat IntKind.u64.bits = 8 * i by simp [IntKind.bits]; omega, pow256]
  omega
theorem big_loop (n : Nat) : ∀ (d : Nat) (xs : List Int), xs.length + d ≤ 8 →
    Ev (fun k => octet_Big.l0 k (n : Int) xs ((d : Int) - 1)) (strOfNums (xs ++ ints (sm n d).reverse))
  | 0, xs, hd => by
    refine Ev.step (fun k => by rw [octet_Big.l0]) ?_
    refine Ev.iten (by omega) (Ev.some ?_)
    simp [sm, ints]
  | d + 1, xs, hd => by
    refine Ev.step (fun k => by rw [octet_Big.l0]) ?_
    rw [show ((d + 1 : Nat) : Int) - 1 = (d : Int) by omega]
    refine Ev.itep (by omega) (Ev.itep (by rw [w64 (by omega)]; omega) (Ev.itep (by omega) ?_))
    rw [shr_byte n d (by omega), show wrap64 ((d : Int) - 1) = (d : Int) - 1 by rw [w64 (by omega)]]
    refine Ev.eq (big_loop n d _ (by simp; omega)) ?_
    congr 1
    rw [sm_snoc]
    simp [ints]
theorem big_ev (n : Nat) (size : Int) : Ev (fun k => octet_Big.f k (n : Int) size) (strOfNums (ints (sm n (clamp size)).reverse)) := by
  unfold octet_Big.f
  rw [clamp_mn]
  exact big_loop n (clamp size) [] (by simp; exact clamp_le size)
theorem refsize (size : Int) : diacriticref01_Size.f size = some ((clamp size : Nat) : Int) := by
  unfold diacriticref01_Size.f clamp
  split
  · congr 1; omega
  · split
    · congr 1; omega
    · congr 1; omega
theorem tmod256 (n : Nat) : Int.tmod (n : Int) 256 % 256 = ((n % 256 : Nat) : Int) := by
  rw [Int.tmod_eq_emod_of_nonneg (by omega)]; omega
theorem tdiv256 (n : Nat) (hn : n < 18446744073709551616) : IntKind.u64.wrap (Int.tdiv (n : Int) 256) = ((n / 256 : Nat) : Int) := by
  rw [Int.tdiv_eq_ediv_of_nonneg (by omega), wu64 (by omega)]; omega
theorem refbig_loop (size : Int) : ∀ (d i n : Nat) (x : ByteArray), n < 18446744073709551616 → i + d = clamp size → x.size ≤ i →
    Ev (fun k => diacriticref01_Big.l0 k (n : Int) size x (i : Int)) (strOfNums (ints (sm n d).reverse) ++ x)
  | 0, i, n, x, hn, hi, hx => by
    refine Ev.step (fun k => by rw [diacriticref01_Big.l0]) ?_
    refine Ev.bindc (refsize size) (Ev.iten (by omega) (Ev.some ?_))
    rw [show ints (sm n 0).reverse = [] from rfl, str_nil, ba_nil_app]
  | d + 1, i, n, x, hn, hi, hx => by
    have hc := clamp_le size
    refine Ev.step (fun k => by rw [diacriticref01_Big.l0]) ?_
    refine Ev.bindc (refsize size) (Ev.itep (by omega) (Ev.letb ?_))
    rw [tmod256, tdiv256 n hn]
    refine Ev.itep (by rw [size_str]; simp; omega) ?_
    rw [show wrap64 ((i : Int) + 1) = ((i + 1 : Nat) : Int) by rw [w64 (by omega)]; omega]
    refine Ev.eq (refbig_loop size d (i + 1) _ _ (by omega) (by omega) (by rw [size_app, size_str]; simp; omega)) ?_
    rw [← ba_assoc, ← str_app]
    simp [sm, ints]
theorem refbig_ev (n : Nat) (hn : n < 18446744073709551616) (size : Int) : Ev (fun k => diacriticref01_Big.f k (n : Int) size) (strOfNums (ints (sm n (clamp size)).reverse)) := by
  refine Ev.eq (refbig_loop size (clamp size) 0 n ⟨#[]⟩ hn (by omega) (Nat.le_refl _)) ?_
  rw [ba_app_nil]
def sevens (n : Nat) : List Nat := [n / 2097152 % 128, n / 16384 % 128, n / 128 % 128, n % 128]
theorem sevens_lt (n : Nat) : ∀ x ∈ sevens n, x < 128 := by
  intro x hx
  simp only [sevens, List.mem_cons, List.not_mem_nil, or_false] at hx
  omega
theorem sevens_lt256 (n : Nat) : ∀ x ∈ sevens n, x < 256 := fun x hx => by have := sevens_lt n x hx; omega
theorem and127 (x : Nat) (h : x < 4294967296) : Go.bits .and .u64 (x : Int) 127 = ((x % 128 : Nat) : Int) := by
  have := bits_mask .u64 32 (by decide) (fun n h0 h1 => wu64 (by omega)) 7 (by decide) (x : Int) (by omega) (by omega)
  rw [show ((2 : Int) ^ 7 - 1) = 127 by decide] at this
  rw [this]; omega
theorem safe_yes (n : Nat) (h : n ≤ 268435455) : octet_Safe.f (n : Int) = some (strOfNums (ints (sevens n)), true) := by
  unfold octet_Safe.f
  rw [if_neg (by omega)]
  congr 3
  have e1 : (n : Int) / 16384 = ((n / 16384 : Nat) : Int) := by omega
  have e2 : (n : Int) / 128 = ((n / 128 : Nat) : Int) := by omega
  rw [e1, e2, and127 _ (by omega), and127 _ (by omega), and127 _ (by omega)]
  simp only [ints, sevens, List.map_cons, List.map_nil]
  congr 1
  · omega
  · congr 1
    · omega
    · congr 1
      · omega
      · congr 1; omega
theorem safe_no (n : Int) (h : n > 268435455) : octet_Safe.f n = some ((⟨#[]⟩ : ByteArray), false) := by
  unfold octet_Safe.f
  rw [if_pos h]
theorem refsafe (n : Nat) (h : n < 18446744073709551616) : diacriticref01_Safe.f (n : Int) = some (strOfNums (ints (sevens n))) := by
  unfold diacriticref01_Safe.f
  have t : ∀ d : Nat, 0 < d → IntKind.u64.wrap (Int.tdiv (n : Int) (d : Int)) = ((n / d : Nat) : Int) := by
    intro d hd
    rw [Int.tdiv_eq_ediv_of_nonneg (by omega), ← Int.natCast_ediv]
    have : n / d ≤ n := Nat.div_le_self n d
    generalize n / d = q at this ⊢
    exact wu64 (by omega)
  have m : ∀ x : Nat, Int.tmod (x : Int) 128 % 256 = ((x % 128 : Nat) : Int) := by
    intro x
    rw [Int.tmod_eq_emod_of_nonneg (by omega)]; omega
  have t1 := t 2097152 (by decide)
  have t2 := t 16384 (by decide)
  have t3 := t 128 (by decide)
  rw [show ((2097152 : Nat) : Int) = 2097152 from rfl] at t1
  rw [show ((16384 : Nat) : Int) = 16384 from rfl] at t2
  rw [show ((128 : Nat) : Int) = 128 from rfl] at t3
  rw [t1, t2, t3, m, m, m, m]
  rfl
theorem safeStep_eq (n c : Nat) (hn : n < 1125899906842624) (hc : c < 128) : safeStep (n : Int) (c : Int) = ((n * 128 + c : Nat) : Int) := by
  unfold safeStep
  rw [w64 (by omega)]
  have := bits_join .i64 62 (by decide) (fun n h0 h1 => by rw [IntKind.wrap_i64]; omega) 7 ((n : Int) * 128) (c : Int) (by omega) (by omega) (by omega) (by omega) (by omega) (by omega)
  rw [this]; omega
theorem safeOf_sevens (n : Nat) (h : n ≤ 268435455) : safeOf (ints (sevens n)) = (n : Int) := by
  simp only [safeOf, ints, sevens, List.map_cons, List.map_nil, List.foldl_cons, List.foldl_nil]
  rw [show (0 : Int) = ((0 : Nat) : Int) from rfl]
  rw [safeStep_eq 0 (n / 2097152 % 128) (by omega) (by omega)]
  rw [safeStep_eq (0 * 128 + n / 2097152 % 128) (n / 16384 % 128) (by omega) (by omega)]
  rw [safeStep_eq _ (n / 128 % 128) (by omega) (by omega)]
  rw [safeStep_eq _ (n % 128) (by omega) (by omega)]
  omega
theorem bad_ints (l : List Nat) (h : ∀ x ∈ l, x < 128) (i : Nat) : badAt (ints l) i = none := by
  induction l generalizing i with
  | nil => rfl
  | cons c l ih =>
    have h0 := h c (by simp)
    simp only [ints, List.map_cons]
    rw [badAt, if_neg (by omega)]
    exact ih (fun x hx => h x (by simp [hx])) (i + 1)
def bigN (l : List Nat) : Nat := l.foldl (fun n c => n * 256 + c) 0
theorem bigN_snoc (l : List Nat) (c : Nat) : bigN (l ++ [c]) = bigN l * 256 + c := by simp [bigN]
theorem pow256_pos (d : Nat) : 0 < 256 ^ d := Nat.pow_pos (by decide)
theorem snoc_ind {α : Type} {P : List α → Prop} (h0 : P []) (h1 : ∀ l c, P l → P (l ++ [c])) (l : List α) : P l := by
  have : ∀ m : List α, P m.reverse := by
    intro m
    induction m with
    | nil => exact h0
    | cons c m ih => rw [List.reverse_cons]; exact h1 _ _ ih
  have := this l.reverse
  rwa [List.reverse_reverse] at this
theorem bigN_lt (l : List Nat) (h : ∀ x ∈ l, x < 256) : bigN l < 256 ^ l.length := by
  induction l using snoc_ind with
  | h0 => simp [bigN]
  | h1 l c ih =>
    have h1 := ih (fun x hx => h x (by simp [hx]))
    have h2 := h c (by simp)
    rw [bigN_snoc, List.length_append, List.length_singleton, Nat.pow_succ]
    omega
theorem bigN_sm (n d : Nat) : bigN (sm n d).reverse = n % 256 ^ d := by
  induction d generalizing n with
  | zero => simp [sm, bigN, Nat.mod_one]
  | succ d ih =>
    rw [sm, List.reverse_cons, bigN_snoc, ih, Nat.pow_succ, Nat.mul_comm (256 ^ d) 256, Nat.mod_mul, Nat.mul_comm]
    omega
theorem pow_le8 {k m : Nat} (h : k ≤ m) : 256 ^ k ≤ 256 ^ m := Nat.pow_le_pow_right (by decide) h
theorem bigOf_ints (l : List Nat) (h : ∀ x ∈ l, x < 256) (h8 : l.length ≤ 8) : bigOf (ints l) = ((bigN l : Nat) : Int) := by
  induction l using snoc_ind with
  | h0 => rfl
  | h1 l c ih =>
    rw [List.length_append, List.length_singleton] at h8
    have h1 := ih (fun x hx => h x (by simp [hx])) (by omega)
    have h2 := h c (by simp)
    have h3 := bigN_lt l (fun x hx => h x (by simp [hx]))
    have h4 : 256 ^ l.length ≤ 256 ^ 7 := pow_le8 (by omega)
    have h5 : (256 : Nat) ^ 7 = 72057594037927936 := by decide
    have e : ints (l ++ [c]) = ints l ++ [(c : Int)] := by simp [ints]
    rw [e, bigOf_snoc, h1, bigN_snoc]
    unfold bigStep
    rw [wu64 (by omega)]
    have := bits_join .u64 64 (by decide) (fun n h0 h1 => wu64 (by omega)) 8 ((bigN l : Int) * 256) (c : Int) (by omega) (by omega) (by omega) (by omega) (by omega) (by omega)
    rw [this]; omega
def Rest (s : ByteArray) (p : Nat) (l : List Nat) : Prop := (nats s).drop p = l ∧ p ≤ s.size
theorem Rest.size {s : ByteArray} {p : Nat} {l : List Nat} (h : Rest s p l) : s.size = p + l.length := by
  have h1 := congrArg List.length h.1
  rw [List.length_drop, nats_len] at h1
  have := h.2; omega
theorem Rest.start (s : ByteArray) : Rest s 0 (nats s) := ⟨rfl, Nat.zero_le _⟩
theorem Rest.strN {l : List Nat} (h : ∀ x ∈ l, x < 256) : Rest (Pl.strN l) 0 l := ⟨by rw [nats_strN h]; rfl, Nat.zero_le _⟩
theorem Rest.next {s : ByteArray} {p : Nat} {x r : List Nat} (h : Rest s p (x ++ r)) : Rest s (p + x.length) r := by
  have hs := h.size
  rw [List.length_append] at hs
  refine ⟨?_, by omega⟩
  rw [← List.drop_drop, h.1, List.drop_left]
theorem Rest.ext {s : ByteArray} {p : Nat} {x r : List Nat} (h : Rest s p (x ++ r)) : s.extract p (p + x.length) = Pl.strN x := by
  apply nats_inj
  have hx : ∀ y ∈ x, y < 256 := by
    intro y hy
    have : y ∈ (nats s).drop p := by rw [h.1]; simp [hy]
    exact nats_lt s y (List.mem_of_mem_drop this)
  rw [nats_ext, h.1, nats_strN hx, show p + x.length - p = x.length by omega, List.take_left]
theorem Rest.lt {s : ByteArray} {p : Nat} {l : List Nat} (h : Rest s p l) : ∀ x ∈ l, x < 256 := by
  intro x hx
  rw [← h.1] at hx
  exact nats_lt s x (List.mem_of_mem_drop hx)
abbrev Ok (s : ByteArray) (b : Nat) : Prop := s.size ≤ 140737488355328 ∧ b ≤ 140737488355328
theorem rtake {s : ByteArray} {p b : Nat} {x r : List Nat} (h : Rest s p (x ++ r)) (ok : Ok s b) (fa n : Int) (hn : n = x.length) :
    octet_In_Take.f s (p : Int) (b : Int) 0 fa n = some (strN x, s, ((p + x.length : Nat) : Int), (b : Int), 0, fa) := by
  obtain ⟨o1, o2⟩ := ok
  have hs := h.size
  rw [List.length_append] at hs
  subst hn
  unfold octet_In_Take.f
  rw [if_pos (by omega), if_pos rfl, if_pos (by omega)]
  have e : (p : Int) + ((x.length : Nat) : Int) = ((p + x.length : Nat) : Int) := by omega
  rw [e, Int.toNat_natCast, Int.toNat_natCast, h.ext]
theorem rtake_short {s : ByteArray} {p b : Nat} {l : List Nat} (h : Rest s p l) (ok : Ok s b) (fa n : Int) (hn : (l.length : Int) < n) :
    octet_In_Take.f s (p : Int) (b : Int) 0 fa n = some (⟨#[]⟩, s, (p : Int), (b : Int), 1, (b : Int) + s.size) := by
  obtain ⟨o1, o2⟩ := ok
  have hs := h.size
  unfold octet_In_Take.f
  rw [if_pos (by omega), if_pos rfl, if_neg (by omega)]
theorem take_bad (s : ByteArray) (p b : Nat) (ok : Ok s b) (hp : p ≤ s.size) (fa n : Int) : octet_In_Take.f s (p : Int) (b : Int) 1 fa n = some (⟨#[]⟩, s, (p : Int), (b : Int), 1, fa) := by
  obtain ⟨o1, o2⟩ := ok
  unfold octet_In_Take.f
  rw [if_pos (by omega), if_neg (by decide)]
theorem clamp_id (n : Nat) (h : n ≤ 8) : mn (mx (n : Int) 0) 8 = (n : Int) := by
  rw [clamp_mn]; unfold clamp; omega
theorem rbig {s : ByteArray} {p b : Nat} {x r : List Nat} (h : Rest s p (x ++ r)) (ok : Ok s b) (fa : Int) (n : Int) (hn : n = x.length) (h8 : x.length ≤ 8) :
    octet_In_Big.f s (p : Int) (b : Int) 0 fa n = some (((bigN x : Nat) : Int), s, ((p + x.length : Nat) : Int), (b : Int), 0, fa) := by
  have hx : ∀ y ∈ x, y < 256 := fun y hy => h.lt y (by simp [hy])
  unfold octet_In_Big.f
  subst hn
  rw [clamp_id _ h8, rtake h ok fa _ rfl, Option.bind_some]
  simp only
  rw [bytes_ints, nats_strN hx, bigOf_ints x hx h8]
  first | rfl | (rw [if_pos (by rw [size_strN]; omega)])
theorem rleft {s : ByteArray} {p b : Nat} {l : List Nat} (h : Rest s p l) (ok : Ok s b) (fa : Int) : octet_In_Left.f s (p : Int) (b : Int) 0 fa = some ((l.length : Int), s, (p : Int), (b : Int), 0, fa) := by
  obtain ⟨o1, o2⟩ := ok
  have hs := h.size
  unfold octet_In_Left.f api_Fault_Bad.f
  rw [Option.bind_some, if_neg (by decide), w64 (by omega)]
  congr 2
  omega
theorem rpeek {s : ByteArray} {p b : Nat} {x r : List Nat} (h : Rest s p (x ++ r)) (ok : Ok s b) (fa n : Int) (hn : n = x.length) :
    octet_In_Peek.f s (p : Int) (b : Int) 0 fa n = some (strN x, s, (p : Int), (b : Int), 0, fa) := by
  obtain ⟨o1, o2⟩ := ok
  have hs := h.size
  rw [List.length_append] at hs
  subst hn
  unfold octet_In_Peek.f
  rw [if_pos (by omega), if_pos rfl]
  have e : mn (mx ((x.length : Nat) : Int) 0) ((s.size : Int) - (p : Int)) = (x.length : Int) := by unfold mn mx; omega
  rw [e]
  have e : (p : Int) + ((x.length : Nat) : Int) = ((p + x.length : Nat) : Int) := by omega
  rw [e, Int.toNat_natCast, Int.toNat_natCast, h.ext]
theorem rpeek_short {s : ByteArray} {p b : Nat} {l : List Nat} (h : Rest s p l) (ok : Ok s b) (fa n : Int) (hn : (l.length : Int) ≤ n) :
    octet_In_Peek.f s (p : Int) (b : Int) 0 fa n = some (strN l, s, (p : Int), (b : Int), 0, fa) := by
  obtain ⟨o1, o2⟩ := ok
  have hs := h.size
  have h' : Rest s p (l ++ []) := by rw [List.append_nil]; exact h
  unfold octet_In_Peek.f
  rw [if_pos (by omega), if_pos rfl]
  have e : mn (mx n 0) ((s.size : Int) - (p : Int)) = (l.length : Int) := by unfold mn mx; omega
  rw [e]
  have e : (p : Int) + ((l.length : Nat) : Int) = ((p + l.length : Nat) : Int) := by omega
  rw [e, Int.toNat_natCast, Int.toNat_natCast, h'.ext]
theorem big_bad (s : ByteArray) (p b : Nat) (ok : Ok s b) (hp : p ≤ s.size) (fa n : Int) : octet_In_Big.f s (p : Int) (b : Int) 1 fa n = some (0, s, (p : Int), (b : Int), 1, fa) := by
  unfold octet_In_Big.f
  rw [take_bad s p b ok hp, Option.bind_some]; rfl
theorem rbig_short {s : ByteArray} {p b : Nat} {l : List Nat} (h : Rest s p l) (ok : Ok s b) (fa : Int) (n : Nat) (h8 : n ≤ 8) (hn : l.length < n) :
    octet_In_Big.f s (p : Int) (b : Int) 0 fa (n : Int) = some (0, s, (p : Int), (b : Int), 1, (b : Int) + s.size) := by
  unfold octet_In_Big.f
  rw [clamp_id _ h8, rtake_short h ok fa _ (by omega), Option.bind_some]; rfl
theorem strN_cat (l : List (List Nat)) : cat (l.map strN) = strN l.flatten := by
  induction l with
  | nil => rfl
  | cons a l ih =>
    rw [List.map_cons, List.flatten_cons, strN_app, ← ih]
    apply bytesOf_inj
    rw [bytesOf_app, bytesOf_cat, bytesOf_cat]; rfl
theorem big_str (n : Nat) (d : Nat) (hd : d ≤ 8) : Ev (fun k => octet_Big.f k (n : Int) (d : Int)) (strN (sm n d).reverse) := by
  have := big_ev n (d : Int)
  rwa [show clamp (d : Int) = d by unfold clamp; omega] at this
theorem join_str (l : List (List Nat)) (h1 : l.length ≤ 1000) (h2 : l.flatten.length ≤ 140737488355328) : octet_Join.f (l.map strN) = some (strN l.flatten) := by
  rw [join_ok _ (by rw [List.length_map]; omega) (by rw [strN_cat, size_strN]; exact h2), strN_cat]
theorem rbig_str (n : Nat) (hn : n < 18446744073709551616) (d : Nat) (hd : d ≤ 8) : Ev (fun k => diacriticref01_Big.f k (n : Int) (d : Int)) (strN (sm n d).reverse) := by
  have := refbig_ev n hn (d : Int)
  rwa [show clamp (d : Int) = d by unfold clamp; omega] at this

end Go.Proofs.YtlmhlmendnjmlaaDoor.Pl
