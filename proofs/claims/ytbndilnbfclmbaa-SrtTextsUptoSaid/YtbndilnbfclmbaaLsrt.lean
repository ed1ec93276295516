/- Blocks of texts with times: the program's and the document's pieces, in plain words. -/
import Derived.Test.YtbndilnbfclmbaaPAllx0
import Derived.Test.YtbndilnbfclmbaaPAllx13
import Derived.Test.YtbndilnbfclmbaaPAllx14
import Derived.Test.YtbndilnbfclmbaaPAllx15
import Derived.Test.YtbndilnbfclmbaaPAllx16
import Derived.Test.YtbndilnbfclmbaaPAllx5
import Derived.Test.YtbndilnbfclmbaaLpc
namespace Go.Proofs.Ytbndilnbfclmbaa.Pl
open Go.RowKit Go.Proofs.Ytbndilnbfclmbaa.PAll Go.Proofs.YtbndilnbfclmbaaW.PrintWords Go.Proofs.YtbndilnbfclmbaaW.PrintLast Go.Proofs.YtbndilnbfclmbaaW.PrintMore
set_option linter.unusedVariables false
set_option linter.unusedSimpArgs false

def timesW : ByteArray := ⟨#[48, 48, 58, 48, 48, 58, 48, 48, 44, 48, 48, 48, 32, 45, 45, 62, 32, 48, 48, 58, 48, 48, 58, 48, 48, 44, 48, 48, 48]⟩
def timesB (s : ByteArray) : Bool := decide (29 ≤ s.size) && (likeB (s.extract 0 29) timesW && (decide (s.size = 29) || decide (bt s 29 = 32)))
/-- A line's pieces, the state behind it, and whether it has a form there. -/
def nextS (x : Nat) (s : ByteArray) : List Pc × Nat × Bool :=
  if x = 2 ∧ 0 < s.size then ([(false, textW, s)], 2, true)
  else if x ≠ 1 ∧ s.size = 0 then ([], 0, true)
  else if x = 0 ∧ digitsB s = true then ([mkB s], 1, true)
  else if x = 1 ∧ timesB s = true then ([mkB s], 2, true)
  else ([], x, false)
theorem nextS_le (x : Nat) (hx : x ≤ 2) (s : ByteArray) : (nextS x s).2.1 ≤ 2 := by
  unfold nextS
  split
  · exact Nat.le_refl 2
  · split
    · exact Nat.zero_le 2
    · split
      · exact Nat.le_succ 1
      · split
        · exact Nat.le_refl 2
        · exact hx
theorem nextS_len (x : Nat) (s : ByteArray) : (nextS x s).1.length ≤ 1 := by
  unfold nextS
  split
  · simp
  · split
    · simp
    · split
      · simp
      · split <;> simp
theorem digits_pos (s : ByteArray) (h : digitsB s = true) : 0 < s.size := by
  unfold digitsB at h
  simp only [Bool.and_eq_true, decide_eq_true_eq] at h
  exact h.2
theorem times_pos (s : ByteArray) (h : timesB s = true) : 29 ≤ s.size := by
  unfold timesB at h
  simp only [Bool.and_eq_true, decide_eq_true_eq] at h
  exact h.1
theorem smark_ev (s : ByteArray) (h0 : 0 < s.size) (hs : s.size ≤ 1000000) : srt_mark.f s = some ([mkB s].map toP) := by
  unfold srt_mark.f
  rw [if_neg (fun e => by have := (tl_nil s).mp e; omega), mark1 s (by omega), Option.bind_some]; rfl
theorem next_ev (x : Nat) (hx : x ≤ 2) (s : ByteArray) (hs : s.size ≤ 1000000) : Ev (fun k => srt_state_next.f k (x : Int) s) ((nextS x s).1.map toP, ((nextS x s).2.1 : Int), (nextS x s).2.2) := by
  unfold srt_state_next.f
  by_cases c1 : x = 2 ∧ 0 < s.size
  · have e : nextS x s = ([(false, textW, s)], 2, true) := by unfold nextS; rw [if_pos c1]
    rw [e, ne_nilB, decide_eq_true c1.2]
    refine Ev.itep (by omega) (Ev.step (fun k => by rw [srt_state_next.j0]) ?_)
    exact Ev.itep rfl (Ev.bindc rfl (Ev.some rfl))
  · have hj0 : ∀ {r}, Ev (fun k => srt_state_next.j0 k (x : Int) s 29 false) r → Ev (fun k => if (x : Int) = 2 then srt_state_next.j0 k (x : Int) s 29 (s.toList != ([] : List UInt8)) else srt_state_next.j0 k (x : Int) s 29 false) r := by
      intro r h
      by_cases h2 : (x : Int) = 2
      · rw [ne_nilB, decide_eq_false (fun h => c1 ⟨by omega, h⟩)]
        exact Ev.itep h2 h
      · exact Ev.iten h2 h
    refine hj0 ?_
    refine Ev.step (fun k => by rw [srt_state_next.j0]) (Ev.iten (by decide) ?_)
    by_cases c2 : x ≠ 1 ∧ s.size = 0
    · have e : nextS x s = ([], 0, true) := by unfold nextS; rw [if_neg c1, if_pos c2]
      rw [e]
      refine Ev.iten (by omega) ?_
      rw [eq_nilB, decide_eq_true c2.2]
      refine Ev.step (fun k => by rw [srt_state_next.j1]) ?_
      exact Ev.itep rfl (Ev.some rfl)
    · have hj1 : ∀ {r}, Ev (fun k => srt_state_next.j1 k (x : Int) s 29 false) r → Ev (fun k => if (x : Int) = 1 then srt_state_next.j1 k (x : Int) s 29 false else srt_state_next.j1 k (x : Int) s 29 (s.toList == ([] : List UInt8))) r := by
        intro r h
        by_cases h1 : (x : Int) = 1
        · exact Ev.itep h1 h
        · rw [eq_nilB, decide_eq_false (fun h => c2 ⟨by omega, h⟩)]
          exact Ev.iten h1 h
      refine hj1 ?_
      refine Ev.step (fun k => by rw [srt_state_next.j1]) (Ev.iten (by decide) ?_)
      by_cases c3 : x = 0 ∧ digitsB s = true
      · have e : nextS x s = ([mkB s], 1, true) := by unfold nextS; rw [if_neg c1, if_neg c2, if_pos c3]
        rw [e]
        refine Ev.itep (by omega) (Ev.bind (digits_ev s (by omega)) ?_)
        rw [c3.2]
        exact Ev.step (fun k => by rw [srt_state_next.j2]) (Ev.itep rfl (Ev.bindc (smark_ev s (digits_pos s c3.2) hs) (Ev.some rfl)))
      · have hj2 : ∀ {r}, Ev (fun k => srt_state_next.j2 k (x : Int) s 29 false) r → Ev (fun k => if (x : Int) = 0 then (line_Digits.f k s).bind fun t => srt_state_next.j2 k (x : Int) s 29 t else srt_state_next.j2 k (x : Int) s 29 false) r := by
          intro r h
          by_cases h0 : (x : Int) = 0
          · refine Ev.itep h0 (Ev.bind (digits_ev s (by omega)) ?_)
            have : digitsB s = false := by
              cases hd : digitsB s with
              | false => rfl
              | true => exact absurd ⟨by omega, hd⟩ c3
            rw [this]; exact h
          · exact Ev.iten h0 h
        refine hj2 ?_
        refine Ev.step (fun k => by rw [srt_state_next.j2]) (Ev.iten (by decide) ?_)
        by_cases c4 : x = 1 ∧ timesB s = true
        · have e : nextS x s = ([mkB s], 2, true) := by unfold nextS; rw [if_neg c1, if_neg c2, if_neg c3, if_pos c4]
          rw [e]
          have hp := times_pos s c4.2
          have ht := c4.2
          unfold timesB at ht
          simp only [Bool.and_eq_true, Bool.or_eq_true, decide_eq_true_eq] at ht
          have hz : (s.extract 0 29).size = 29 := by rw [size_ext _ _ _ (by omega) hp]
          refine Ev.itep (by omega) (Ev.itep (by omega) (Ev.itep (by omega) (Ev.itep (by omega) (Ev.bind (like_ev (s.extract 0 29) timesW (by omega)) (Ev.itep ht.2.1 ?_)))))
          by_cases h29 : (s.size : Int) = 29
          · exact Ev.itep h29 (Ev.bindc (smark_ev s (by omega) hs) (Ev.some rfl))
          · have : bt s 29 = 32 := ht.2.2.resolve_left (by omega)
            exact Ev.iten h29 (Ev.itep (by omega) (Ev.itep this (Ev.bindc (smark_ev s (by omega) hs) (Ev.some rfl))))
        · have e : nextS x s = ([], x, false) := by unfold nextS; rw [if_neg c1, if_neg c2, if_neg c3, if_neg c4]
          rw [e]
          by_cases h1 : (x : Int) = 1
          · refine Ev.itep h1 ?_
            by_cases h29 : (s.size : Int) ≥ 29
            · have hz : (s.extract 0 29).size = 29 := by rw [size_ext _ _ _ (by omega) (by omega)]
              refine Ev.itep h29 (Ev.itep (by omega) (Ev.itep (by omega) (Ev.bind (like_ev (s.extract 0 29) timesW (by omega)) ?_)))
              by_cases hl : likeB (s.extract 0 29) timesW = true
              · refine Ev.itep hl ?_
                have hn : ¬ (s.size = 29 ∨ bt s 29 = 32) := by
                  intro h
                  refine c4 ⟨by omega, ?_⟩
                  unfold timesB
                  simp only [Bool.and_eq_true, Bool.or_eq_true, decide_eq_true_eq]
                  exact ⟨by omega, hl, h⟩
                exact Ev.iten (fun h => hn (.inl (by omega))) (Ev.itep (by have := fun h => hn (.inl h); omega) (Ev.iten (fun h => hn (.inr h)) (Ev.some rfl)))
              · exact Ev.iten hl (Ev.some rfl)
            · exact Ev.iten h29 (Ev.some rfl)
          · exact Ev.iten h1 (Ev.some rfl)
theorem times_ev (s : ByteArray) (hs : s.size ≤ 1000000) : Ev (fun k => diacriticref24_Times.f k s) (timesB s) := by
  unfold diacriticref24_Times.f timesB
  by_cases h29 : (s.size : Int) ≥ 29
  · have hz : (s.extract 0 29).size = 29 := by rw [size_ext _ _ _ (by omega) (by omega)]
    rw [decide_eq_true (show 29 ≤ s.size by omega), Bool.true_and]
    refine Ev.itep h29 (Ev.itep (by omega) (Ev.itep (by omega) (Ev.bind (rlike_ev (s.extract 0 29) timesW (by omega)) ?_)))
    by_cases hl : likeB (s.extract 0 29) timesW = true
    · rw [hl, Bool.true_and]
      refine Ev.itep rfl ?_
      by_cases h : (s.size : Int) = 29
      · rw [decide_eq_true (show s.size = 29 by omega)]
        exact Ev.itep h (Ev.some rfl)
      · rw [decide_eq_false (show ¬ s.size = 29 by omega), Bool.false_or]
        exact Ev.iten h (Ev.itep (by omega) (Ev.some (by rw [Bool.eq_iff_iff, beq_iff_eq, decide_eq_true_iff])))
    · rw [Bool.eq_false_iff.mpr hl, Bool.false_and]
      exact Ev.iten (by decide) (Ev.some rfl)
  · rw [decide_eq_false (show ¬ 29 ≤ s.size by omega), Bool.false_and]
    exact Ev.iten h29 (Ev.some rfl)

/-! ### all lines -/
/-- Lines' pieces from a state on; the place that is wrong (-1: none); the state behind them. -/
def walkS : Nat → List Tr → List Pc × Int × Nat
  | x, [] => ([], -1, x)
  | x, y :: r => if (nextS x y.1).2.2 = true then
      (if (walkS (nextS x y.1).2.1 r).2.1 = -1 then ((nextS x y.1).1 ++ endP y ++ (walkS (nextS x y.1).2.1 r).1, -1, (walkS (nextS x y.1).2.1 r).2.2) else ([], (walkS (nextS x y.1).2.1 r).2.1, (walkS (nextS x y.1).2.1 r).2.2))
    else ([], (y.2.2 : Int), (nextS x y.1).2.1)
theorem walkS_neg (r : List Tr) : ∀ x, -1 ≤ (walkS x r).2.1 := by
  induction r with
  | nil => intro x; exact Int.le_refl _
  | cons y r ih =>
    intro x
    rw [walkS]
    split
    · split
      · exact Int.le_refl _
      · exact ih _
    · show (-1 : Int) ≤ ((y.2.2 : Nat) : Int); omega
theorem walk_loop (L : List Tr) (hL : L.length ≤ 100000) (hs : Small L) : ∀ (d i x : Nat) (acc : List S34), i + d = L.length → x ≤ 2 → acc.length ≤ 2 * i →
    Ev (fun k => line_Walk.l0 k acc (L.map toL) ((L.map toL).length : Int) (i : Int) (x : Int))
      (if (walkS x (L.drop i)).2.1 = -1 then (acc ++ (walkS x (L.drop i)).1.map toP, 0, 0, ((walkS x (L.drop i)).2.2 : Int)) else ([], 1, (walkS x (L.drop i)).2.1, ((walkS x (L.drop i)).2.2 : Int)))
  | 0, i, x, acc, hi, hx, ha => by
    refine Ev.step (fun k => by rw [line_Walk.l0]) (Ev.iten (by rw [List.length_map]; omega) (Ev.some ?_))
    rw [List.drop_of_length_le (by omega), walkS, if_pos rfl]; simp
  | d + 1, i, x, acc, hi, hx, ha => by
    have hlt : i < L.length := by omega
    have hy := hs L[i] (List.getElem_mem hlt)
    have pe := next_ev x hx L[i].1 (by omega)
    have pl := nextS_len x L[i].1
    have px := nextS_le x hx L[i].1
    have pq : Ev (fun k => srt_Parse_1.f k L[i].1 (x : Int)) ((nextS x L[i].1).1.map toP, (nextS x L[i].1).2.2, ((nextS x L[i].1).2.1 : Int)) := by
      unfold srt_Parse_1.f
      exact Ev.bind pe (Ev.some rfl)
    refine Ev.step (fun k => by rw [line_Walk.l0]) (Ev.itep (by rw [List.length_map]; omega) (Ev.itep (by omega) (Ev.itep (by rw [List.length_map]; omega) ?_)))
    rw [rdL L i hlt, show wrap64 ((i : Int) + 1) = ((i + 1 : Nat) : Int) by rw [w64 (by omega)]; omega, List.drop_eq_getElem_cons hlt, walkS]
    refine Ev.bind pq ?_
    by_cases h : (nextS x L[i].1).2.2 = true
    · rw [if_pos h]
      refine Ev.itep h (Ev.itep (by rw [List.length_map]; omega) (Ev.bindc rfl ?_))
      by_cases h0 : L[i].2.1.size = 0
      · refine Ev.itep ((tl_nil _).mpr h0) (Ev.eq (walk_loop L hL hs d (i + 1) _ _ (by omega) px (by rw [List.length_append, List.length_map]; omega)) ?_)
        unfold endP
        rw [if_pos h0]
        by_cases hr : (walkS (nextS x L[i].1).2.1 (L.drop (i + 1))).2.1 = -1
        · rw [if_pos hr, if_pos hr, if_pos rfl]; simp
        · rw [if_neg hr, if_neg hr, if_neg hr]
      · refine Ev.iten (fun e => h0 ((tl_nil _).mp e)) (Ev.bindc (mark1 L[i].2.1 (by omega)) (Ev.itep (by rw [List.length_append, List.length_map]; omega) (Ev.eq (walk_loop L hL hs d (i + 1) _ _ (by omega) px (by rw [List.length_append, List.length_append, List.length_map]; simp; omega)) ?_)))
        unfold endP
        rw [if_neg h0]
        by_cases hr : (walkS (nextS x L[i].1).2.1 (L.drop (i + 1))).2.1 = -1
        · rw [if_pos hr, if_pos hr, if_pos rfl]; simp [toP, mkB]
        · rw [if_neg hr, if_neg hr, if_neg hr]
    · rw [if_neg h, if_neg (by show ¬ ((L[i].2.2 : Nat) : Int) = -1; omega)]
      exact Ev.iten h (Ev.some rfl)
/-- The pieces of a text, or the place that is wrong. -/
def parseS (s : ByteArray) : List Pc × Int :=
  if (walkS 0 (cut s)).2.1 = -1 then (if (walkS 0 (cut s)).2.2 = 1 then ([], (s.size : Int)) else ((walkS 0 (cut s)).1, -1)) else ([], (walkS 0 (cut s)).2.1)
theorem parseS_neg (s : ByteArray) : -1 ≤ (parseS s).2 := by
  have := walkS_neg (cut s) 0
  unfold parseS
  split
  · split
    · show (-1 : Int) ≤ ((s.size : Nat) : Int); omega
    · exact Int.le_refl _
  · exact this
theorem parse_ev (s : ByteArray) (hs : s.size ≤ 100000) : Ev (fun k => srt_Parse.f k s) ((parseS s).1.map toP, if (parseS s).2 = -1 then 0 else 1, if (parseS s).2 = -1 then 0 else (parseS s).2) := by
  have hlen := cut_le s
  have w := walk_loop (cut s) (by omega) (small_cut s hs) (cut s).length 0 0 [] (by omega) (by omega) (Nat.zero_le _)
  rw [List.drop_zero, List.nil_append] at w
  unfold srt_Parse.f line_Walk.f
  refine Ev.bind (Ev.bind (lines_ev s (by omega)) w) ?_
  unfold parseS
  by_cases h : (walkS 0 (cut s)).2.1 = -1
  · rw [if_pos h, if_pos h]
    refine Ev.bindc rfl (Ev.iten (by simp) ?_)
    by_cases h1 : (walkS 0 (cut s)).2.2 = 1
    · rw [if_pos h1]
      refine Ev.itep (by show ((walkS 0 (cut s)).2.2 : Int) = 1; omega) (Ev.some ?_)
      rw [if_neg (by show ¬ ((s.size : Nat) : Int) = -1; omega), if_neg (by show ¬ ((s.size : Nat) : Int) = -1; omega)]; rfl
    · rw [if_neg h1]
      exact Ev.iten (by show ¬ ((walkS 0 (cut s)).2.2 : Int) = 1; omega) (Ev.some rfl)
  · rw [if_neg h, if_neg h]
    refine Ev.bindc rfl (Ev.itep (by simp) (Ev.some ?_))
    rw [if_neg h, if_neg h]; rfl

end Go.Proofs.Ytbndilnbfclmbaa.Pl
