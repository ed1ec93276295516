/- Whatever is read of any text, at any base, each answer, and the place and the fault behind it, are the document's: the plain law. -/
import Derived.Test.YtkcckhlkaknggaaPAllx0
import Derived.Test.YtkcckhlkaknggaaPAllx10
import Derived.Test.YtkcckhlkaknggaaPAllx11
import Derived.Test.YtkcckhlkaknggaaPAllx12
import Derived.Test.YtkcckhlkaknggaaPAllx13
import Derived.Test.YtkcckhlkaknggaaPAllx14
import Derived.Test.YtkcckhlkaknggaaPAllx15b
import Derived.Test.YtkcckhlkaknggaaPAllx16
import Derived.Test.YtkcckhlkaknggaaPAllx2
import Derived.Test.YtkcckhlkaknggaaPAllx3
import Derived.Test.YtkcckhlkaknggaaPAllx4
import Derived.Test.YtkcckhlkaknggaaPAllx8
import Derived.Test.YtkcckhlkaknggaaLrd
import Derived.Test.YtkcckhlkaknggaaLback
import Derived.Test.YtkcckhlkaknggaaLsafe
namespace Go.Proofs.Ytkcckhlkaknggaa.Pure
open Go.RowKit Go.Proofs.Ytkcckhlkaknggaa.PAll Go.Proofs.Ytkcckhlkaknggaa.Pl Go.Proofs.YtkcckhlkaknggaaW.PrintWords Go.Proofs.YtkcckhlkaknggaaW.PrintLast
set_option linter.unusedVariables false
set_option linter.unusedSimpArgs false

theorem awake01 : Ev (fun k => diacriticlaw01_awake.f k) true := Ev.of diacriticlaw01_awake.mono (k := 40) (by kernel_rfl)
theorem fail_both (s : ByteArray) (p b c f z n : Int) : ∃ c' f', diacriticref01_Fail.f s p b c f z n = some (s, p, b, c', f') ∧ octet_In_Fail.f s p b c f z n = some (s, p, b, c', f') := by
  unfold diacriticref01_Fail.f octet_In_Fail.f api_Fault_Bad.f
  rw [Option.bind_some]
  by_cases hc : c = 0
  · subst hc
    rw [if_pos rfl, if_neg (show ¬ (((0 : Int) != 0) = true) by decide)]
    by_cases hz : z = 0
    · rw [if_pos hz]; exact ⟨0, f, rfl, rfl⟩
    · rw [if_neg hz]; exact ⟨z, n, rfl, rfl⟩
  · rw [if_neg hc, if_pos (by rw [bne_iff_ne]; exact hc)]; exact ⟨c, f, rfl, rfl⟩
theorem rfail1 (s : ByteArray) (p b f n : Int) : diacriticref01_Fail.f s p b 0 f 1 n = some (s, p, b, 1, n) := by
  unfold diacriticref01_Fail.f
  rw [if_pos rfl, if_neg (by decide)]
theorem ofail1 (s : ByteArray) (p b f n : Int) : octet_In_Fail.f s p b 0 f 1 n = some (s, p, b, 1, n) := by
  unfold octet_In_Fail.f api_Fault_Bad.f
  rw [Option.bind_some, if_neg (by decide), if_neg (by decide)]
section
variable (s : ByteArray) (hs : s.size ≤ 2000) (p : Nat) (hp : p ≤ s.size) (b : Nat) (hb : b ≤ 1099511627776)
include hs hp hb
theorem left_both (c f : Int) : ∃ n : Nat, n ≤ s.size ∧ (c = 0 → p + n = s.size) ∧ diacriticref01_Left.f s (p : Int) (b : Int) c f = some (n : Int) ∧ octet_In_Left.f s (p : Int) (b : Int) c f = some ((n : Int), s, (p : Int), (b : Int), c, f) := by
  unfold diacriticref01_Left.f octet_In_Left.f api_Fault_Bad.f
  rw [Option.bind_some]
  have w : wrap64 ((s.size : Int) - (p : Int)) = ((s.size - p : Nat) : Int) := by rw [w64 (by omega)]; omega
  have _ := hb
  by_cases hc : c = 0
  · rw [if_pos hc, if_neg (by rw [hc]; decide), w]
    exact ⟨s.size - p, by omega, fun _ => by omega, rfl, rfl⟩
  · rw [if_neg hc, if_pos (by rw [bne_iff_ne]; exact hc)]
    exact ⟨0, by omega, fun h => absurd h hc, rfl, rfl⟩
theorem take_both (c f n : Int) : ∃ (x : ByteArray) (p' : Nat) (c' f' : Int), p' ≤ s.size ∧ (x.size = 0 ∨ ((x.size : Int) = n ∧ c' = 0)) ∧
    diacriticref01_Take.f s (p : Int) (b : Int) c f n = some (s, (p' : Int), (b : Int), c', f', x) ∧ octet_In_Take.f s (p : Int) (b : Int) c f n = some (x, s, (p' : Int), (b : Int), c', f') := by
  have ok : s.size ≤ 140737488355328 ∧ 0 ≤ (p : Int) ∧ (p : Int) ≤ s.size ∧ 0 ≤ (b : Int) ∧ (b : Int) ≤ 140737488355328 := by omega
  have w : wrap64 ((b : Int) + (s.size : Int)) = (b : Int) + s.size := w64 (by omega)
  unfold diacriticref01_Take.f octet_In_Take.f
  rw [if_pos ok]
  by_cases hc : c = 0
  · subst hc
    have hl : diacriticref01_Left.f s (p : Int) (b : Int) 0 f = some ((s.size : Int) - p) := by
      unfold diacriticref01_Left.f; rw [if_pos rfl, w64 (by omega)]
    rw [if_pos rfl, if_pos rfl, w, rfail1, Option.bind_some, hl, Option.bind_some]
    by_cases h1 : n < 0
    · rw [if_pos h1, if_neg (by omega)]
      exact ⟨_, p, 1, (b : Int) + s.size, hp, .inl rfl, rfl, rfl⟩
    · rw [if_neg h1]
      by_cases h2 : n > (s.size : Int) - p
      · rw [if_pos h2, if_neg (by omega)]
        exact ⟨_, p, 1, (b : Int) + s.size, hp, .inl rfl, rfl, rfl⟩
      · obtain ⟨m, rfl⟩ := Int.eq_ofNat_of_zero_le (show 0 ≤ n by omega)
        have wm : wrap64 ((p : Int) + (m : Int)) = ((p + m : Nat) : Int) := by rw [w64 (by omega)]; omega
        have wn : (p : Int) + (m : Int) = ((p + m : Nat) : Int) := by omega
        rw [if_neg h2, if_pos (by omega), wm, wn, if_pos (by omega), if_pos (by omega), if_pos (by omega)]
        exact ⟨_, p + m, 0, f, by omega, .inr ⟨by rw [Int.toNat_natCast, Int.toNat_natCast, size_ext _ _ _ (by omega) (by omega)]; omega, rfl⟩, rfl, rfl⟩
  · rw [if_neg hc, if_neg hc]
    exact ⟨_, p, c, f, hp, .inl rfl, rfl, rfl⟩
theorem peek_both (c f n : Int) : ∃ x : ByteArray, Ev (fun k => diacriticref01_Peek.f k s (p : Int) (b : Int) c f n) x ∧ octet_In_Peek.f s (p : Int) (b : Int) c f n = some (x, s, (p : Int), (b : Int), c, f) := by
  obtain ⟨l, hl1, hl2, hl3, hl4⟩ := left_both s hs p hp b hb c f
  unfold octet_In_Peek.f
  rw [if_pos (by omega)]
  by_cases hc : c = 0
  · subst hc
    have hl := hl2 rfl
    rw [if_pos rfl]
    refine ⟨_, ?_, rfl⟩
    have key : ∀ m : Int, m = (if n > (l : Int) then (l : Int) else n) → Ev (fun k => diacriticref01_Peek.j0 k m s (p : Int) (b : Int) 0 f) (s.extract (p : Int).toNat ((p : Int) + mn (mx n 0) ((s.size : Int) - p)).toNat) := by
      intro m hm
      refine Ev.step (fun k => by rw [diacriticref01_Peek.j0]) ?_
      by_cases h0 : m < 0
      · have e : mn (mx n 0) ((s.size : Int) - p) = 0 := by unfold mn mx; split at hm <;> omega
        rw [e]
        have w : wrap64 ((p : Int) + 0) = (p : Int) := by rw [w64 (by omega)]; omega
        refine Ev.itep h0 (Ev.itep rfl (Ev.itep (by omega) (Ev.itep (by rw [w]; omega) (Ev.itep (by rw [w]; omega) (Ev.some ?_)))))
        rw [w, Int.add_zero]
      · have e : mn (mx n 0) ((s.size : Int) - p) = m := by unfold mn mx; split at hm <;> omega
        have hml : m ≤ (l : Int) := by split at hm <;> omega
        rw [e]
        have w : wrap64 ((p : Int) + m) = (p : Int) + m := w64 (by omega)
        refine Ev.iten h0 (Ev.itep rfl (Ev.itep (by omega) (Ev.itep (by rw [w]; omega) (Ev.itep (by rw [w]; omega) (Ev.some ?_)))))
        rw [w]
    unfold diacriticref01_Peek.f
    refine Ev.bindc hl3 ?_
    by_cases h1 : n > (l : Int)
    · exact Ev.itep h1 (Ev.bindc hl3 (key _ (by rw [if_pos h1])))
    · exact Ev.iten h1 (key _ (by rw [if_neg h1]))
  · rw [if_neg hc]
    refine ⟨_, ?_, rfl⟩
    have key : ∀ m : Int, Ev (fun k => diacriticref01_Peek.j0 k m s (p : Int) (b : Int) c f) (⟨#[]⟩ : ByteArray) := by
      intro m
      refine Ev.step (fun k => by rw [diacriticref01_Peek.j0]) ?_
      by_cases h0 : m < 0
      · exact Ev.itep h0 (Ev.iten hc (Ev.some rfl))
      · exact Ev.iten h0 (Ev.iten hc (Ev.some rfl))
    unfold diacriticref01_Peek.f
    refine Ev.bindc hl3 ?_
    by_cases h1 : n > (l : Int)
    · exact Ev.itep h1 (Ev.bindc hl3 (key _))
    · exact Ev.iten h1 (key _)
omit hs hp hb in
theorem number_loop (l : List Nat) (hl : ∀ x ∈ l, x < 256) (h8 : l.length ≤ 8) : ∀ (d i : Nat), i + d = l.length → Ev (fun k => diacriticref01_Number.l0 k (strN l) ((bigN (l.take i) : Nat) : Int) (i : Int)) ((bigN l : Nat) : Int)
  | 0, i, hi => by
    rw [List.take_of_length_le (by omega)]
    refine Ev.step (fun k => by rw [diacriticref01_Number.l0]) ?_
    exact Ev.iten (by rw [size_strN]; omega) (Ev.some rfl)
  | d + 1, i, hi => by
    have hlt : i < l.length := by omega
    have hb := bigN_lt (l.take (i + 1)) (fun x hx => hl x (List.mem_of_mem_take hx))
    rw [List.length_take, show min (i + 1) l.length = i + 1 by omega] at hb
    have hp : 256 ^ (i + 1) ≤ 256 ^ 8 := pow_le8 (by omega)
    have h8' : (256 : Nat) ^ 8 = 18446744073709551616 := by decide
    have e : bigN (l.take (i + 1)) = bigN (l.take i) * 256 + l[i] := by rw [List.take_succ_eq_append_getElem hlt, bigN_snoc]
    have hx := hl l[i] (List.getElem_mem hlt)
    have hbt : bt (strN l) (i : Int) = ((l[i] : Nat) : Int) := by
      rw [bt_nats _ _ (by rw [size_strN]; exact hlt), nats_strN hl, List.getD_eq_getElem?_getD, List.getElem?_eq_getElem hlt]; rfl
    refine Ev.step (fun k => by rw [diacriticref01_Number.l0]) ?_
    refine Ev.itep (by rw [size_strN]; omega) (Ev.itep (by omega) ?_)
    rw [hbt, wu64 (n := ((bigN (l.take i) : Nat) : Int) * 256) (by omega), wu64 (n := ((l[i] : Nat) : Int)) (by omega), wu64 (by omega), show wrap64 ((i : Int) + 1) = ((i + 1 : Nat) : Int) by rw [w64 (by omega)]; omega]
    have e2 : ((bigN (l.take i) : Nat) : Int) * 256 + ((l[i] : Nat) : Int) = ((bigN (l.take (i + 1)) : Nat) : Int) := by omega
    rw [e2]
    exact number_loop l hl h8 d (i + 1) (by omega)
omit hs hp hb in
theorem number_ev (l : List Nat) (hl : ∀ x ∈ l, x < 256) (h8 : l.length ≤ 8) : Ev (fun k => diacriticref01_Number.f k (strN l)) ((bigN l : Nat) : Int) := by
  unfold diacriticref01_Number.f
  exact number_loop l hl h8 l.length 0 (by omega)
omit hs hp hb in
theorem badAt_none' (l : List Int) (i : Nat) (h : l = []) : badAt l i = none := by subst h; rfl
omit hp in
theorem safe_loop (x : ByteArray) (hx : x.size ≤ 4) (q : Nat) (hq : q ≤ s.size) (c' f' at_ : Int) (hat : 0 ≤ at_ ∧ at_ ≤ 2199023255552) (hc : c' = 0 ∨ x.size = 0) : ∀ (d i m : Nat), i + d = x.size → safeOf ((bytesOf x).take i) = (m : Int) → m < 128 ^ i → 
    Ev (fun k => diacriticref01_ReadSafe.l0 k at_ x (m : Int) (i : Int) s (q : Int) (b : Int) c' f') (match badAt ((bytesOf x).drop i) i with | none => (s, (q : Int), (b : Int), c', f', safeOf (bytesOf x)) | some j => (s, (q : Int), (b : Int), 1, at_ + (j : Int), 0))
  | 0, i, m, hi, hm, hm2 => by
    have _ := hs
    have _ := hb
    rw [List.drop_of_length_le (by rw [len_bytesOf]; omega)]
    rw [List.take_of_length_le (by rw [len_bytesOf]; omega)] at hm
    rw [hm]
    refine Ev.step (fun k => by rw [diacriticref01_ReadSafe.l0]) ?_
    exact Ev.iten (by omega) (Ev.some rfl)
  | d + 1, i, m, hi, hm, hm2 => by
    have hlt : i < x.size := by omega
    have hc0 : c' = 0 := hc.resolve_right (by omega)
    subst hc0
    have hr := bt_range x (i : Int)
    refine Ev.step (fun k => by rw [diacriticref01_ReadSafe.l0]) ?_
    refine Ev.itep (by omega) (Ev.itep (by omega) ?_)
    rw [drop_cons x i hlt, badAt]
    by_cases h : bt x (i : Int) ≥ 128
    · rw [if_pos (show 128 ≤ bt x (i : Int) from h)]
      refine Ev.itep h ?_
      rw [w64 (by omega), rfail1]
      exact Ev.bindc rfl (Ev.some rfl)
    · rw [if_neg (show ¬ 128 ≤ bt x (i : Int) from h)]
      refine Ev.iten h ?_
      obtain ⟨y, hy⟩ := Int.eq_ofNat_of_zero_le hr.1
      have hp4 : 128 ^ i ≤ 128 ^ 3 := Nat.pow_le_pow_right (by decide) (by omega)
      have h3 : (128 : Nat) ^ 3 = 2097152 := by decide
      have hstep : safeOf ((bytesOf x).take (i + 1)) = ((m * 128 + y : Nat) : Int) := by
        rw [take_snoc x i hlt, safeOf_snoc, hm, hy, safeStep_eq m y (by omega) (by omega)]
      rw [hy, w64 (n := (m : Int) * 128) (by omega), w64 (n := (y : Int)) (by omega), w64 (by omega), show wrap64 ((i : Int) + 1) = ((i + 1 : Nat) : Int) by rw [w64 (by omega)]; omega, show (m : Int) * 128 + (y : Int) = ((m * 128 + y : Nat) : Int) by omega]
      exact safe_loop x hx q hq 0 f' at_ hat hc d (i + 1) (m * 128 + y) (by omega) hstep (by rw [Nat.pow_succ]; omega)
theorem safe_both (c f : Int) : ∃ (n : Int) (p' : Nat) (c' f' : Int), p' ≤ s.size ∧ Ev (fun k => diacriticref01_ReadSafe.f k s (p : Int) (b : Int) c f) (s, (p' : Int), (b : Int), c', f', n) ∧ octet_In_Safe.f s (p : Int) (b : Int) c f = some (n, s, (p' : Int), (b : Int), c', f') := by
  obtain ⟨x, q, c', f', h1, h2, h3, h4⟩ := take_both s hs p hp b hb c f 4
  have hx : x.size ≤ 4 := by omega
  have w : wrap64 ((b : Int) + (p : Int)) = (b : Int) + p := w64 (by omega)
  have lp := safe_loop s hs b hb x hx q h1 c' f' ((b : Int) + p) (by omega) (h2.elim (fun h => .inr h) (fun h => .inl h.2)) x.size 0 0 (by omega) rfl (by decide)
  rw [List.drop_zero] at lp
  unfold diacriticref01_ReadSafe.f octet_In_Safe.f
  rw [h4, Option.bind_some, w]
  simp only
  rw [if_pos (by omega)]
  cases hb2 : badAt (bytesOf x) 0 with
  | none =>
    rw [hb2] at lp
    exact ⟨safeOf (bytesOf x), q, c', f', h1, Ev.bindc h3 lp, rfl⟩
  | some j =>
    rw [hb2] at lp
    have hc0 : c' = 0 := by
      rcases h2 with h | h
      · have : bytesOf x = [] := List.eq_nil_of_length_eq_zero (by rw [len_bytesOf]; exact h)
        rw [this] at hb2; simp [badAt] at hb2
      · exact h.2
    subst hc0
    refine ⟨0, q, 1, (b : Int) + p + (j : Int), h1, Ev.bindc h3 lp, ?_⟩
    simp only
    rw [ofail1]; rfl
theorem want_loop2 (t got : ByteArray) (ht : t.size ≤ 200) (f : Int) (hg : got = s.extract p (p + min t.size (s.size - p))) : ∀ (d i : Nat), i + d = got.size → ∃ (ok : Bool) (p' : Nat) (c' f' : Int), p' ≤ s.size ∧
    Ev (fun k => octet_In_Want.l0 k t ((b : Int) + p) got (got.size : Int) (i : Int) s (p : Int) (b : Int) 0 f) (ok, s, (p' : Int), (b : Int), c', f') ∧
    Ev (fun k => diacriticref01_Want.l0 k t (i : Int) s (p : Int) (b : Int) 0 f) (s, (p' : Int), (b : Int), c', f', ok)
  | 0, i, hi => by
    have hz : got.size = min t.size (s.size - p) := by rw [hg, size_ext _ _ _ (by omega) (by omega)]; omega
    have hpi : wrap64 ((p : Int) + (i : Int)) = (p : Int) + i := w64 (by omega)
    by_cases hlen : t.size ≤ s.size - p
    · refine ⟨true, p + t.size, 0, f, by omega, ?_, ?_⟩
      · refine Ev.step (fun k => by rw [octet_In_Want.l0]) ?_
        refine Ev.iten (by omega) ?_
        have hk : octet_In_Take.f s (p : Int) (b : Int) 0 f (t.size : Int) = some (s.extract p (p + t.size), s, ((p + t.size : Nat) : Int), (b : Int), 0, f) := by
          unfold octet_In_Take.f
          rw [if_pos (by omega), if_pos rfl, if_pos (by omega), show (p : Int) + (t.size : Int) = ((p + t.size : Nat) : Int) by omega, Int.toNat_natCast, Int.toNat_natCast]
        exact Ev.bindc hk (Ev.bindc rfl (Ev.some rfl))
      · refine Ev.step (fun k => by rw [diacriticref01_Want.l0]) ?_
        refine Ev.iten (by omega) (Ev.some ?_)
        rw [show wrap64 ((p : Int) + (t.size : Int)) = ((p + t.size : Nat) : Int) by rw [w64 (by omega)]; omega]
    · refine ⟨false, p, 1, (b : Int) + s.size, hp, ?_, ?_⟩
      · refine Ev.step (fun k => by rw [octet_In_Want.l0]) ?_
        refine Ev.iten (by omega) ?_
        have hk : octet_In_Take.f s (p : Int) (b : Int) 0 f (t.size : Int) = some ((⟨#[]⟩ : ByteArray), s, (p : Int), (b : Int), 1, (b : Int) + s.size) := by
          unfold octet_In_Take.f
          rw [if_pos (by omega), if_pos rfl, if_neg (by omega)]
        exact Ev.bindc hk (Ev.bindc rfl (Ev.some rfl))
      · refine Ev.step (fun k => by rw [diacriticref01_Want.l0]) ?_
        refine Ev.itep (by omega) (Ev.itep (by rw [hpi]; omega) ?_)
        rw [w64 (by omega), rfail1]
        exact Ev.bindc rfl (Ev.some rfl)
  | d + 1, i, hi => by
    have hz : got.size = min t.size (s.size - p) := by rw [hg, size_ext _ _ _ (by omega) (by omega)]; omega
    have c1 : (i : Int) < (got.size : Int) := by omega
    have c2 : (0 : Int) ≤ (i : Int) := by omega
    have c3 : (i : Int) < (t.size : Int) := by omega
    have c4 : ¬ ((p + i : Nat) : Int) ≥ (s.size : Int) := by omega
    have c5 : (0 : Int) ≤ ((p + i : Nat) : Int) := by omega
    have c6 : ((p + i : Nat) : Int) < (s.size : Int) := by omega
    have d1 : i < got.size := by omega
    have d2 : p + i < s.size := by omega
    have d3 : i < p + min t.size (s.size - p) - p := by omega
    have d4 : i + 1 + d = got.size := by omega
    have d4' : (i + 1) + d = got.size := d4
    have e1 : (p : Int) + (i : Int) = ((p + i : Nat) : Int) := by omega
    have e2 : (i : Int) + 1 = ((i + 1 : Nat) : Int) := by omega
    have b1 : -9223372036854775808 ≤ ((p + i : Nat) : Int) ∧ ((p + i : Nat) : Int) ≤ 9223372036854775807 := by omega
    have b2 : -9223372036854775808 ≤ ((i + 1 : Nat) : Int) ∧ ((i + 1 : Nat) : Int) ≤ 9223372036854775807 := by omega
    have b3 : -9223372036854775808 ≤ (b : Int) + (p : Int) + (i : Int) ∧ (b : Int) + (p : Int) + (i : Int) ≤ 9223372036854775807 := by omega
    have b4 : -9223372036854775808 ≤ (b : Int) + (p : Int) ∧ (b : Int) + (p : Int) ≤ 9223372036854775807 := by omega
    have hpi : wrap64 ((p : Int) + (i : Int)) = ((p + i : Nat) : Int) := by rw [e1]; exact w64 b1
    have wi : wrap64 ((i : Int) + 1) = ((i + 1 : Nat) : Int) := by rw [e2]; exact w64 b2
    have wb : wrap64 ((b : Int) + (p : Int) + (i : Int)) = (b : Int) + p + i := w64 b3
    have wb2 : wrap64 ((b : Int) + (p : Int)) = (b : Int) + p := w64 b4
    have hbt : bt got (i : Int) = bt s ((p + i : Nat) : Int) := by
      rw [bt_nats got i d1, bt_nats s (p + i) d2, hg, nats_ext]
      congr 1
      rw [List.getD_eq_getElem?_getD, List.getD_eq_getElem?_getD, List.getElem?_take, if_pos d3, List.getElem?_drop]
    obtain ⟨ok, p', c', f', j1, j2, j3⟩ := want_loop2 t got ht f hg d (i + 1) d4
    have L : ∀ k, octet_In_Want.l0 (k + 1) t ((b : Int) + p) got (got.size : Int) (i : Int) s (p : Int) (b : Int) 0 f = if bt got (i : Int) = bt t (i : Int) then octet_In_Want.l0 k t ((b : Int) + p) got (got.size : Int) ((i + 1 : Nat) : Int) s (p : Int) (b : Int) 0 f else some (false, s, (p : Int), (b : Int), 1, (b : Int) + p + i) := by
      intro k
      rw [octet_In_Want.l0, if_pos c1, if_pos c2, if_pos c1, if_pos c3, wi, wb, ofail1, Option.bind_some]
    have R : ∀ k, diacriticref01_Want.l0 (k + 1) t (i : Int) s (p : Int) (b : Int) 0 f = if bt s ((p + i : Nat) : Int) = bt t (i : Int) then diacriticref01_Want.l0 k t ((i + 1 : Nat) : Int) s (p : Int) (b : Int) 0 f else some (s, (p : Int), (b : Int), 1, (b : Int) + p + i, false) := by
      intro k
      rw [diacriticref01_Want.l0, hpi, if_pos c3, if_neg c4, if_pos c5, if_pos c6, if_pos c2, wi, wb2, wb, rfail1, Option.bind_some]
    rw [← hbt] at R
    generalize bt got (i : Int) = x at L R
    generalize bt t (i : Int) = y at L R
    by_cases heq : x = y
    · exact ⟨ok, p', c', f', j1, Ev.step (fun k => by rw [L, if_pos heq]) j2, Ev.step (fun k => by rw [R, if_pos heq]) j3⟩
    · exact ⟨false, p, 1, (b : Int) + p + i, hp, Ev.step (fun k => by rw [L, if_neg heq]) (Ev.some rfl), Ev.step (fun k => by rw [R, if_neg heq]) (Ev.some rfl)⟩
theorem want_both (t : ByteArray) (ht : t.size ≤ 200) (c f : Int) : ∃ (ok : Bool) (p' : Nat) (c' f' : Int), p' ≤ s.size ∧ Ev (fun k => diacriticref01_Want.f k s (p : Int) (b : Int) c f t) (s, (p' : Int), (b : Int), c', f', ok) ∧ Ev (fun k => octet_In_Want.f k s (p : Int) (b : Int) c f t) (ok, s, (p' : Int), (b : Int), c', f') := by
  unfold diacriticref01_Want.f octet_In_Want.f
  by_cases hc : c = 0
  · subst hc
    obtain ⟨ok, p', c', f', j1, j2, j3⟩ := want_loop2 s hs p hp b hb t _ ht f rfl (s.extract p (p + min t.size (s.size - p))).size 0 (by omega)
    refine ⟨ok, p', c', f', j1, Ev.itep rfl j3, ?_⟩
    refine Ev.bindc rfl (Ev.iten (by simp) (Ev.bindc rfl ?_))
    have hk : octet_In_Peek.f s (p : Int) (b : Int) 0 f (t.size : Int) = some (s.extract p (p + min t.size (s.size - p)), s, (p : Int), (b : Int), 0, f) := by
      unfold octet_In_Peek.f
      rw [if_pos (by omega), if_pos rfl]
      have e : (p : Int) + mn (mx (t.size : Int) 0) ((s.size : Int) - p) = ((p + min t.size (s.size - p) : Nat) : Int) := by
        unfold mn mx; omega
      rw [e, Int.toNat_natCast, Int.toNat_natCast]
    refine Ev.bindc hk ?_
    have w : wrap64 ((b : Int) + (p : Int)) = (b : Int) + p := w64 (by omega)
    simp only [w]
    exact j2
  · refine ⟨false, p, c, f, hp, Ev.iten hc (Ev.some rfl), ?_⟩
    exact Ev.bindc rfl (Ev.itep (by rw [bne_iff_ne]; exact hc) (Ev.some rfl))
theorem until_loop2 (e : ByteArray) (he : e.size ≤ 200) (f : Int) (st : Nat) (hst : 1 ≤ st ∧ st ≤ 200) : ∀ (fuel i : Nat), p ≤ i → i ≤ s.size + 400 → s.size + 1 ≤ fuel + i → ∃ (x : ByteArray) (p' : Nat) (c' f' : Int), p' ≤ s.size ∧
    Ev (fun k => diacriticref01_Until.l0 k e (st : Int) (i : Int) s (p : Int) (b : Int) 0 f) (s, (p' : Int), (b : Int), c', f', x) ∧
    (match untilGo s e (st : Int) fuel (i : Int) with | some j => some (s.extract (p : Int).toNat j.toNat, s, j + (e.size : Int), (b : Int), (0 : Int), f) | none => some ((⟨#[]⟩ : ByteArray), s, (p : Int), (b : Int), (1 : Int), (b : Int) + (s.size : Int))) = some (x, s, (p' : Int), (b : Int), c', f')
  | 0, i, hi, hi2, hf => by
    have wi : wrap64 ((i : Int) + (e.size : Int)) = (i : Int) + e.size := w64 (by omega)
    refine ⟨_, p, 1, (b : Int) + s.size, hp, ?_, rfl⟩
    refine Ev.step (fun k => by rw [diacriticref01_Until.l0]) ?_
    refine Ev.iten (by rw [wi]; omega) ?_
    rw [w64 (by omega), rfail1]
    exact Ev.bindc rfl (Ev.some rfl)
  | fuel + 1, i, hi, hi2, hf => by
    have wi : wrap64 ((i : Int) + (e.size : Int)) = (i : Int) + e.size := w64 (by omega)
    rw [untilGo]
    by_cases h1 : (i : Int) + (e.size : Int) ≤ (s.size : Int)
    · rw [if_pos h1]
      by_cases h2 : (s.extract (i : Int).toNat ((i : Int) + (e.size : Int)).toNat).toList = e.toList
      · rw [if_pos h2]
        refine ⟨_, i + e.size, 0, f, by omega, ?_, by simp only [Int.natCast_add]; rfl⟩
        refine Ev.step (fun k => by rw [diacriticref01_Until.l0]) ?_
        rw [wi]
        refine Ev.itep h1 (Ev.itep (by omega) (Ev.itep (by omega) (Ev.itep h2 (Ev.itep (by omega) (Ev.itep (by omega) (Ev.itep (by omega) (Ev.some (by simp only [Int.natCast_add]))))))))
      · rw [if_neg h2, show (i : Int) + (st : Int) = ((i + st : Nat) : Int) by omega]
        obtain ⟨x, p', c', f', j1, j2, j3⟩ := until_loop2 e he f st hst fuel (i + st) (by omega) (by omega) (by omega)
        refine ⟨x, p', c', f', j1, ?_, j3⟩
        refine Ev.step (fun k => by rw [diacriticref01_Until.l0]) ?_
        rw [wi, show wrap64 ((i : Int) + (st : Int)) = ((i + st : Nat) : Int) by rw [w64 (by omega)]; omega]
        exact Ev.itep h1 (Ev.itep (by omega) (Ev.itep (by omega) (Ev.iten h2 j2)))
    · rw [if_neg h1]
      refine ⟨_, p, 1, (b : Int) + s.size, hp, ?_, rfl⟩
      refine Ev.step (fun k => by rw [diacriticref01_Until.l0]) ?_
      refine Ev.iten (by rw [wi]; exact h1) ?_
      rw [w64 (by omega), rfail1]
      exact Ev.bindc rfl (Ev.some rfl)
theorem until_both (e : ByteArray) (he : e.size ≤ 200) (c f : Int) : ∃ (x : ByteArray) (p' : Nat) (c' f' : Int), p' ≤ s.size ∧ Ev (fun k => diacriticref01_Until.f k s (p : Int) (b : Int) c f e) (s, (p' : Int), (b : Int), c', f', x) ∧ octet_In_Until.f s (p : Int) (b : Int) c f e = some (x, s, (p' : Int), (b : Int), c', f') := by
  unfold diacriticref01_Until.f octet_In_Until.f
  rw [if_pos (by omega)]
  by_cases hc : c = 0
  · subst hc
    rw [if_pos rfl]
    by_cases h0 : (e.size : Int) = 0
    · obtain ⟨x, p', c', f', j1, j2, j3⟩ := until_loop2 s hs p hp b hb e he f 1 (by omega) (s.size + 1) p (Nat.le_refl _) (by omega) (by omega)
      have em : mx (e.size : Int) 1 = ((1 : Nat) : Int) := by unfold mx; omega
      refine ⟨x, p', c', f', j1, Ev.itep rfl (Ev.itep h0 ?_), by rw [em]; exact j3⟩
      exact Ev.step (fun k => by unfold diacriticref01_Until.j0; rfl) j2
    · obtain ⟨x, p', c', f', j1, j2, j3⟩ := until_loop2 s hs p hp b hb e he f e.size (by omega) (s.size + 1) p (Nat.le_refl _) (by omega) (by omega)
      have em : mx (e.size : Int) 1 = ((e.size : Nat) : Int) := by unfold mx; omega
      refine ⟨x, p', c', f', j1, Ev.itep rfl (Ev.iten h0 ?_), by rw [em]; exact j3⟩
      exact Ev.step (fun k => by rw [diacriticref01_Until.j0]) j2
  · rw [if_neg hc]
    exact ⟨_, p, c, f, hp, Ev.iten hc (Ev.some rfl), rfl⟩
theorem do_both (t : ByteArray) (ht : t.size ≤ 200) (c f kind n code : Int) : ∃ (p' : Nat) (c' f' : Int), p' ≤ s.size ∧ Ev (fun k => diacriticlaw01_do.f k s (p : Int) (b : Int) c f s (p : Int) (b : Int) c f kind n code t) (s, (p' : Int), (b : Int), c', f', true, s, (p' : Int), (b : Int), c', f') := by
  unfold diacriticlaw01_do.f
  by_cases k0 : kind = 0
  · obtain ⟨x, p', c', f', h1, _, h3, h4⟩ := take_both s hs p hp b hb c f n
    exact ⟨p', c', f', h1, Ev.itep k0 (Ev.bindc h3 (Ev.bindc h4 (Ev.some (by simp))))⟩
  by_cases k1 : kind = 1
  · obtain ⟨l, l1, l2, l3, l4⟩ := left_both s hs p hp b hb c f
    obtain ⟨x, p', c', f', h1, _, h3, h4⟩ := take_both s hs p hp b hb c f (l : Int)
    have hr : octet_In_Rest.f s (p : Int) (b : Int) c f = some (x, s, (p' : Int), (b : Int), c', f') := by
      unfold octet_In_Rest.f
      rw [l4, Option.bind_some, h4]; rfl
    exact ⟨p', c', f', h1, Ev.iten k0 (Ev.itep k1 (Ev.bindc l3 (Ev.bindc h3 (Ev.bindc hr (Ev.some (by simp))))))⟩
  by_cases k2 : kind = 2
  · obtain ⟨x, h1, h2⟩ := peek_both s hs p hp b hb c f n
    exact ⟨p, c, f, hp, Ev.iten k0 (Ev.iten k1 (Ev.itep k2 (Ev.bindc h2 (Ev.bind h1 (Ev.some (by simp))))))⟩
  by_cases k3 : kind = 3
  · obtain ⟨x, p', c', f', h1, h2, h3, h4⟩ := take_both s hs p hp b hb c f ((clamp n : Nat) : Int)
    have hx : x.size ≤ 8 := by have := clamp_le n; omega
    have hB : octet_In_Big.f s (p : Int) (b : Int) c f n = some (((bigN (nats x) : Nat) : Int), s, (p' : Int), (b : Int), c', f') := by
      unfold octet_In_Big.f
      rw [clamp_mn, h4, Option.bind_some]
      simp only
      rw [if_pos (by omega), bytes_ints, bigOf_ints (nats x) (nats_lt x) (by rw [nats_len]; exact hx)]
    have hN := number_ev (nats x) (nats_lt x) (by rw [nats_len]; exact hx)
    rw [strN_nats] at hN
    exact ⟨p', c', f', h1, Ev.iten k0 (Ev.iten k1 (Ev.iten k2 (Ev.itep k3 (Ev.bindc (refsize n) (Ev.bindc h3 (Ev.bindc hB (Ev.bind hN (Ev.some (by simp)))))))))⟩
  by_cases k4 : kind = 4
  · obtain ⟨x, p', c', f', h1, h2, h3, h4⟩ := take_both s hs p hp b hb c f ((clamp n : Nat) : Int)
    have hx : x.size ≤ 8 := by have := clamp_le n; omega
    have hB : octet_In_Small.f s (p : Int) (b : Int) c f n = some (((smN (nats x) : Nat) : Int), s, (p' : Int), (b : Int), c', f') := by
      unfold octet_In_Small.f
      rw [clamp_mn, h4, Option.bind_some]
      simp only
      have := smallOf_ints (nats x) (nats_lt x) (by rw [nats_len]; exact hx) x.size (by rw [nats_len]; omega)
      rw [if_pos hx, bytes_ints, this, List.take_of_length_le (by rw [nats_len]; omega)]
    have hk := refback_ev x (by omega)
    have er : rev x = strN (nats x).reverse := by
      have := rev_str (nats x) (nats_lt x)
      rw [show strOfNums (ints (nats x)) = x from strN_nats x] at this
      exact this
    rw [er] at hk
    have hN := number_ev (nats x).reverse (fun y hy => nats_lt x y (List.mem_reverse.mp hy)) (by rw [List.length_reverse, nats_len]; exact hx)
    rw [← smN_rev] at hN
    exact ⟨p', c', f', h1, Ev.iten k0 (Ev.iten k1 (Ev.iten k2 (Ev.iten k3 (Ev.itep k4 (Ev.bindc (refsize n) (Ev.bindc h3 (Ev.bindc hB (Ev.bind hk (Ev.bind hN (Ev.some (by simp)))))))))))⟩
  by_cases k5 : kind = 5
  · obtain ⟨m, p', c', f', h1, h2, h3⟩ := safe_both s hs p hp b hb c f
    exact ⟨p', c', f', h1, Ev.iten k0 (Ev.iten k1 (Ev.iten k2 (Ev.iten k3 (Ev.iten k4 (Ev.itep k5 (Ev.bind h2 (Ev.bindc h3 (Ev.some (by simp)))))))))⟩
  by_cases k6 : kind = 6
  · obtain ⟨ok, p', c', f', h1, h2, h3⟩ := want_both s hs p hp b hb t ht c f
    exact ⟨p', c', f', h1, Ev.iten k0 (Ev.iten k1 (Ev.iten k2 (Ev.iten k3 (Ev.iten k4 (Ev.iten k5 (Ev.itep k6 (Ev.bind h2 (Ev.bind h3 (Ev.some (by simp))))))))))⟩
  by_cases k7 : kind = 7
  · obtain ⟨x, p', c', f', h1, h2, h3⟩ := until_both s hs p hp b hb t ht c f
    exact ⟨p', c', f', h1, Ev.iten k0 (Ev.iten k1 (Ev.iten k2 (Ev.iten k3 (Ev.iten k4 (Ev.iten k5 (Ev.iten k6 (Ev.itep k7 (Ev.bind h2 (Ev.bindc h3 (Ev.some (by simp)))))))))))⟩
  by_cases k8 : kind = 8
  · obtain ⟨c', f', h1, h2⟩ := fail_both s (p : Int) (b : Int) c f code n
    exact ⟨p, c', f', hp, Ev.iten k0 (Ev.iten k1 (Ev.iten k2 (Ev.iten k3 (Ev.iten k4 (Ev.iten k5 (Ev.iten k6 (Ev.iten k7 (Ev.itep k8 (Ev.bindc h2 (Ev.bindc h1 (Ev.some rfl)))))))))))⟩
  exact ⟨p, c, f, hp, Ev.iten k0 (Ev.iten k1 (Ev.iten k2 (Ev.iten k3 (Ev.iten k4 (Ev.iten k5 (Ev.iten k6 (Ev.iten k7 (Ev.iten k8 (Ev.some rfl)))))))))⟩
end
abbrev Op := S56
theorem rd_op (l : List Op) (i : Nat) (h : i < l.length) : rd_T56 l (i : Int) = l[i] := by
  unfold rd_T56
  rw [Int.toNat_natCast, List.getD_eq_getElem?_getD, List.getElem?_eq_getElem h]; rfl
theorem reads_loop (s : ByteArray) (hs : s.size ≤ 2000) (b : Nat) (hb : b ≤ 1099511627776) (l : List Op) (hl : l.length ≤ 100) : ∀ (d i p : Nat) (c f : Int), i + d = l.length → p ≤ s.size →
    Ev (fun k => diacriticlaw01_OctetReads.l0 k l (l.length : Int) (i : Int) s (p : Int) (b : Int) c f s (p : Int) (b : Int) c f) true
  | 0, i, p, c, f, hi, hp => by
    refine Ev.step (fun k => by rw [diacriticlaw01_OctetReads.l0]) ?_
    exact Ev.iten (by omega) (Ev.bind awake01 (Ev.some rfl))
  | d + 1, i, p, c, f, hi, hp => by
    have hlt : i < l.length := by omega
    refine Ev.step (fun k => by rw [diacriticlaw01_OctetReads.l0]) ?_
    refine Ev.itep (by omega) (Ev.itep (by omega) (Ev.itep (by omega) ?_))
    rw [rd_op l i hlt, show wrap64 ((i : Int) + 1) = ((i + 1 : Nat) : Int) by rw [w64 (by omega)]; omega]
    by_cases h200 : (l[i].f3.size : Int) > 200
    · exact Ev.itep h200 (Ev.bind awake01 (Ev.some rfl))
    · obtain ⟨p', c', f', h1, h2⟩ := do_both s hs p hp b hb l[i].f3 (by omega) c f l[i].f0 l[i].f1 l[i].f2
      obtain ⟨n, l1, l2, l3, l4⟩ := left_both s hs p' h1 b hb c' f'
      refine Ev.iten h200 (Ev.bind h2 (Ev.itep rfl (Ev.bindc l4 (Ev.bindc l3 (Ev.itep rfl (Ev.bindc rfl (Ev.itep rfl (Ev.bindc rfl (Ev.iten (by simp) ?_)))))))))
      exact reads_loop s hs b hb l hl d (i + 1) p' c' f' (by omega) h1
theorem reads_over (s : ByteArray) (x : Int) (l : List Op) : Ev (fun k => diacriticlaw01_OctetReads.j0 k s x l true) true :=
  Ev.step (fun k => by rw [diacriticlaw01_OctetReads.j0]) (Ev.itep rfl (Ev.bind awake01 (Ev.some rfl)))
theorem OctetReads : diacriticlaw01_OctetReads.Pure := by
  intro s x l _ hx _ _
  have hr := wf_i64 hx
  apply Ev.rounds
  unfold diacriticlaw01_OctetReads.f
  by_cases h1 : (s.size : Int) > 2000
  · exact Ev.itep h1 (reads_over _ _ _)
  refine Ev.iten h1 ?_
  by_cases h2 : (l.length : Int) > 100
  · exact Ev.itep h2 (reads_over _ _ _)
  refine Ev.iten h2 ?_
  by_cases h3 : x > 1099511627776
  · rw [decide_eq_true h3]; exact reads_over _ _ _
  rw [decide_eq_false h3]
  refine Ev.step (fun k => by rw [diacriticlaw01_OctetReads.j0]) ?_
  refine Ev.iten (by decide) (Ev.bindc rfl ?_)
  obtain ⟨b, hb⟩ : ∃ b : Nat, mx x 0 = (b : Int) := Int.eq_ofNat_of_zero_le (by unfold mx; omega)
  simp only [hb]
  exact reads_loop s (by omega) b (by unfold mx at hb; omega) l (by omega) l.length 0 0 0 0 (by omega) (Nat.zero_le _)

end Go.Proofs.Ytkcckhlkaknggaa.Pure
