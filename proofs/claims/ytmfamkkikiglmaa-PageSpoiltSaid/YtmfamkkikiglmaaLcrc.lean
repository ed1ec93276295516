/- Plain lemmas on the check sum: one byte's division, in two ways; no program. -/
namespace Go.Proofs.Ytmfamkkikiglmaa.Pl
set_option linter.unusedVariables false

/-- One bit of the division. -/
def p1 (s : Nat) : Nat := if s < 2147483648 then s * 2 % 4294967296 else (s * 2 % 4294967296) ^^^ 79764919
def pN : Nat → Nat → Nat
  | 0, s => s
  | d + 1, s => pN d (p1 s)
/-- One byte more. -/
def stepN (s c : Nat) : Nat := pN 8 (s ^^^ (c * 16777216))
/-- The document's bit. -/
def r1 (s b : Nat) : Nat := if (s / 2147483648 + b) % 2 = 1 then (s * 2 % 4294967296) ^^^ 79764919 else s * 2 % 4294967296
def rN : Nat → Nat → Nat → Nat
  | 0, s, _ => s
  | d + 1, s, c => rN d (r1 s (c / 2 ^ d)) c

theorem xor_lt {a b : Nat} (ha : a < 4294967296) (hb : b < 4294967296) : a ^^^ b < 4294967296 :=
  Nat.xor_lt_two_pow (n := 32) ha hb
theorem p1_lt (s : Nat) : p1 s < 4294967296 := by
  unfold p1
  split
  · omega
  · exact xor_lt (by omega) (by omega)
theorem r1_lt (s b : Nat) : r1 s b < 4294967296 := by
  unfold r1
  split
  · exact xor_lt (by omega) (by omega)
  · omega
theorem pN_lt : ∀ (d s : Nat), s < 4294967296 → pN d s < 4294967296
  | 0, _, h => h
  | d + 1, s, _ => pN_lt d (p1 s) (p1_lt s)
theorem rN_lt : ∀ (d s c : Nat), s < 4294967296 → rN d s c < 4294967296
  | 0, _, _, h => h
  | d + 1, s, c, _ => rN_lt d _ c (r1_lt _ _)
theorem stepN_lt (s c : Nat) (hs : s < 4294967296) (hc : c < 256) : stepN s c < 4294967296 :=
  pN_lt _ _ (xor_lt hs (by omega))
theorem xor_mul2 (a b : Nat) : (a ^^^ b) * 2 = (a * 2) ^^^ (b * 2) := by
  have h := Nat.shiftLeft_xor_distrib (i := 1) (a := a) (b := b)
  simp only [Nat.shiftLeft_eq, Nat.pow_one] at h
  exact h
theorem xor_dbl (a b : Nat) : (a ^^^ b) * 2 % 4294967296 = (a * 2 % 4294967296) ^^^ (b * 2 % 4294967296) := by
  rw [xor_mul2]
  exact Nat.xor_mod_two_pow (n := 32)
theorem xor_top (a b : Nat) : (a ^^^ b) / 2147483648 = (a / 2147483648) ^^^ (b / 2147483648) :=
  Nat.xor_div_two_pow (n := 31)
theorem bit_xor (a b : Nat) (ha : a < 2) (hb : b < 2) : a ^^^ b = (a + b) % 2 := by
  have : a = 0 ∨ a = 1 := by omega
  have : b = 0 ∨ b = 1 := by omega
  rcases ‹a = 0 ∨ a = 1› with rfl | rfl <;> rcases ‹b = 0 ∨ b = 1› with rfl | rfl <;> rfl
/-- A bit of a sum to which another one's bits are laid. -/
theorem p1_xor (s e : Nat) (hs : s < 4294967296) (he : e < 4294967296) : p1 (s ^^^ e) = r1 s (e / 2147483648) ^^^ (e * 2 % 4294967296) := by
  have ht := xor_top s e
  rw [bit_xor (s / 2147483648) (e / 2147483648) (by omega) (by omega)] at ht
  unfold p1 r1
  rw [xor_dbl]
  by_cases h : (s / 2147483648 + e / 2147483648) % 2 = 1
  · rw [if_neg (by omega), if_pos h]
    rw [Nat.xor_assoc, Nat.xor_comm (e * 2 % 4294967296), ← Nat.xor_assoc]
  · rw [if_pos (by omega), if_neg h]
theorem r1_par (s b b' : Nat) (h : b % 2 = b' % 2) : r1 s b = r1 s b' := by
  unfold r1
  rw [show (s / 2147483648 + b) % 2 = (s / 2147483648 + b') % 2 by omega]
theorem dbl_shift (c d : Nat) (hd : d < 8) : (c * 2 ^ (31 - d) % 4294967296) * 2 % 4294967296 = c * 2 ^ (32 - d) % 4294967296 := by
  have : d = 0 ∨ d = 1 ∨ d = 2 ∨ d = 3 ∨ d = 4 ∨ d = 5 ∨ d = 6 ∨ d = 7 := by omega
  rcases this with rfl | rfl | rfl | rfl | rfl | rfl | rfl | rfl <;> simp <;> omega
theorem top_shift (c d : Nat) (hd : d < 8) (hc : c < 256) : (c * 2 ^ (31 - d) % 4294967296) / 2147483648 % 2 = c / 2 ^ d % 2 := by
  have : d = 0 ∨ d = 1 ∨ d = 2 ∨ d = 3 ∨ d = 4 ∨ d = 5 ∨ d = 6 ∨ d = 7 := by omega
  rcases this with rfl | rfl | rfl | rfl | rfl | rfl | rfl | rfl <;> simp <;> omega
theorem pN_rN (c : Nat) (hc : c < 256) : ∀ (d s : Nat), d ≤ 8 → s < 4294967296 → pN d (s ^^^ (c * 2 ^ (32 - d) % 4294967296)) = rN d s c
  | 0, s, _, _ => by
    have : c * 2 ^ (32 - 0) % 4294967296 = 0 := by simp
    rw [this, Nat.xor_zero]; rfl
  | d + 1, s, hd, hs => by
    have e : 32 - (d + 1) = 31 - d := by omega
    rw [pN, rN, e, p1_xor s _ hs (Nat.mod_lt _ (by decide)), dbl_shift c d (by omega)]
    rw [r1_par s _ (c / 2 ^ d) (top_shift c d (by omega) hc)]
    exact pN_rN c hc d _ (by omega) (r1_lt _ _)
theorem step_eq (s c : Nat) (hs : s < 4294967296) (hc : c < 256) : stepN s c = rN 8 s c := by
  rw [← pN_rN c hc 8 s (by omega) hs]
  unfold stepN
  rw [show c * 2 ^ (32 - 8) % 4294967296 = c * 16777216 by omega]

/-! ### the sum of a text -/
def sumN (s : Nat) (l : List Nat) : Nat := l.foldl stepN s
theorem sumN_lt : ∀ (l : List Nat) (s : Nat), s < 4294967296 → (∀ c ∈ l, c < 256) → sumN s l < 4294967296
  | [], s, h, _ => h
  | c :: l, s, h, hc => by
    rw [show sumN s (c :: l) = sumN (stepN s c) l by rw [sumN, List.foldl_cons]; rfl]
    exact sumN_lt l _ (stepN_lt s c h (hc c (by simp))) (fun x hx => hc x (by simp [hx]))
theorem sumN_cons (s c : Nat) (l : List Nat) : sumN s (c :: l) = sumN (stepN s c) l := by rw [sumN, List.foldl_cons]; rfl
theorem sumN_append (s : Nat) (l m : List Nat) : sumN s (l ++ m) = sumN (sumN s l) m := by simp [sumN]

/-! ### one to one -/
theorem p1_inj {s t : Nat} (hs : s < 4294967296) (ht : t < 4294967296) (h : p1 s = p1 t) : s = t := by
  have odd : ∀ x : Nat, ((x * 2 % 4294967296) ^^^ 79764919) % 2 = 1 := by
    intro x
    have := Nat.xor_mod_two_pow (a := x * 2 % 4294967296) (b := 79764919) (n := 1)
    simp only [Nat.pow_one] at this
    rw [this, show x * 2 % 4294967296 % 2 = 0 by omega]; rfl
  unfold p1 at h
  have ho := odd s
  have ho2 := odd t
  by_cases h1 : s < 2147483648 <;> by_cases h2 : t < 2147483648
  · rw [if_pos h1, if_pos h2] at h; omega
  · rw [if_pos h1, if_neg h2] at h; omega
  · rw [if_neg h1, if_pos h2] at h; omega
  · rw [if_neg h1, if_neg h2] at h
    have : s * 2 % 4294967296 = t * 2 % 4294967296 := by
      have := congrArg (· ^^^ 79764919) h
      simpa [Nat.xor_assoc] using this
    omega
theorem pN_inj : ∀ (d : Nat) {s t : Nat}, s < 4294967296 → t < 4294967296 → pN d s = pN d t → s = t
  | 0, _, _, _, _, h => h
  | d + 1, s, t, hs, ht, h => p1_inj hs ht (pN_inj d (p1_lt s) (p1_lt t) h)
theorem xor_right_inj {a b c : Nat} (h : a ^^^ c = b ^^^ c) : a = b := by
  have := congrArg (· ^^^ c) h
  simpa [Nat.xor_assoc] using this
theorem xor_left_inj {a b c : Nat} (h : c ^^^ a = c ^^^ b) : a = b := by
  rw [Nat.xor_comm c a, Nat.xor_comm c b] at h
  exact xor_right_inj h
theorem stepN_inj_s {s t c : Nat} (hs : s < 4294967296) (ht : t < 4294967296) (hc : c < 256) (h : stepN s c = stepN t c) : s = t :=
  xor_right_inj (pN_inj 8 (xor_lt hs (by omega)) (xor_lt ht (by omega)) h)
theorem stepN_inj_c {s c d : Nat} (hs : s < 4294967296) (hc : c < 256) (hd : d < 256) (h : stepN s c = stepN s d) : c = d := by
  have := xor_left_inj (pN_inj 8 (xor_lt hs (by omega)) (xor_lt hs (by omega)) h)
  omega
theorem sumN_inj : ∀ (l : List Nat) {s t : Nat}, s < 4294967296 → t < 4294967296 → (∀ c ∈ l, c < 256) → sumN s l = sumN t l → s = t
  | [], _, _, _, _, _, h => h
  | c :: l, s, t, hs, ht, hc, h => by
    have hc0 := hc c (by simp)
    rw [sumN_cons, sumN_cons] at h
    exact stepN_inj_s hs ht hc0 (sumN_inj l (stepN_lt s c hs hc0) (stepN_lt t c ht hc0) (fun x hx => hc x (by simp [hx])) h)
/-- A text in which one byte is another one. -/
theorem sumN_differs (a b : List Nat) (c d s : Nat) (hs : s < 4294967296) (ha : ∀ x ∈ a, x < 256) (hb : ∀ x ∈ b, x < 256) (hc : c < 256) (hd : d < 256) (h : sumN s (a ++ c :: b) = sumN s (a ++ d :: b)) : c = d := by
  rw [sumN_append, sumN_append] at h
  have h0 := sumN_lt a s hs ha
  rw [sumN_cons, sumN_cons] at h
  exact stepN_inj_c h0 hc hd (sumN_inj b (stepN_lt _ _ h0 hc) (stepN_lt _ _ h0 hd) hb h)

/-! ### a sum behind its text -/
theorem pN_low : ∀ (d s : Nat), s < 2 ^ (32 - d) → d ≤ 8 → pN d s = s * 2 ^ d
  | 0, s, _, _ => by simp [pN]
  | d + 1, s, h, hd => by
    have hs : s < 2147483648 := by
      have : 2 ^ (32 - (d + 1)) ≤ 2 ^ 31 := Nat.pow_le_pow_right (by decide) (by omega)
      omega
    have h2 : s * 2 < 2 ^ (32 - d) := by
      have : 2 ^ (32 - d) = 2 ^ (32 - (d + 1)) * 2 := by rw [← Nat.pow_succ]; congr 1; omega
      omega
    rw [pN, p1, if_pos hs, Nat.mod_eq_of_lt (by omega), pN_low d _ h2 (by omega), Nat.pow_succ, Nat.mul_assoc, Nat.mul_comm 2]
theorem xor_clear (s n : Nat) : s ^^^ (s / 2 ^ n * 2 ^ n) = s % 2 ^ n := by
  apply Nat.eq_of_testBit_eq
  intro i
  rw [Nat.testBit_xor, Nat.mul_comm, Nat.testBit_two_pow_mul, Nat.testBit_div_two_pow, Nat.testBit_mod_two_pow]
  by_cases hi : i < n
  · have : ¬ i ≥ n := by omega
    simp [hi, this]
  · have h1 : i ≥ n := by omega
    have h2 : n + (i - n) = i := by omega
    have h3 : i - n + n = i := by omega
    simp [hi, h1, h3]
/-- A sum's highest byte laid to it: what is left moves up. -/
theorem stepN_top (s : Nat) : stepN s (s / 16777216) = s % 16777216 * 256 := by
  have e := xor_clear s 24
  simp only [Nat.reducePow] at e
  unfold stepN
  rw [e, pN_low 8 (s % 16777216) (by simp only [Nat.reduceSub, Nat.reducePow]; omega) (by omega)]
theorem sumN_self (s : Nat) (hs : s < 4294967296) : sumN s [s / 16777216 % 256, s / 65536 % 256, s / 256 % 256, s % 256] = 0 := by
  have h : ∀ a c t, c = a / 16777216 → a % 16777216 * 256 = t → stepN a c = t := fun a c t h1 h2 => by rw [h1, stepN_top, h2]
  have e0 : stepN s (s / 16777216 % 256) = s % 16777216 * 256 := h _ _ _ (by omega) rfl
  have e1 : stepN (s % 16777216 * 256) (s / 65536 % 256) = s % 65536 * 65536 := h _ _ _ (by omega) (by omega)
  have e2 : stepN (s % 65536 * 65536) (s / 256 % 256) = s % 256 * 16777216 := h _ _ _ (by omega) (by omega)
  have e3 : stepN (s % 256 * 16777216) (s % 256) = 0 := h _ _ _ (by omega) (by omega)
  simp only [sumN, List.foldl_cons, List.foldl_nil]
  rw [e0, e1, e2, e3]

end Go.Proofs.Ytmfamkkikiglmaa.Pl
