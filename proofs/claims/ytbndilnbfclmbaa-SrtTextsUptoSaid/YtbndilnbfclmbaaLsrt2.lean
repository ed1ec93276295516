/- Blocks of texts with times: the document's pieces; whole they are the text; how many blocks there are: plain lemmas. -/

import Derived.Test.YtbndilnbfclmbaaLsrt
namespace Go.Proofs.Ytbndilnbfclmbaa.Pl
open Go.RowKit Go.Proofs.Ytbndilnbfclmbaa.PAll Go.Proofs.YtbndilnbfclmbaaW.PrintWords Go.Proofs.YtbndilnbfclmbaaW.PrintLast Go.Proofs.YtbndilnbfclmbaaW.PrintMore
set_option linter.unusedVariables false
set_option linter.unusedSimpArgs false

/-! ### whole they are the text -/
theorem next_txt (x : Nat) (s : ByteArray) (h : (nextS x s).2.2 = true) : txt (nextS x s).1 = nats s := by
  unfold nextS at h ⊢
  by_cases c1 : x = 2 ∧ 0 < s.size
  · rw [if_pos c1]; simp [txt]
  rw [if_neg c1] at h ⊢
  by_cases c2 : x ≠ 1 ∧ s.size = 0
  · rw [if_pos c2]
    have : nats s = [] := List.eq_nil_of_length_eq_zero (by rw [nats_len]; exact c2.2)
    rw [this]; rfl
  rw [if_neg c2] at h ⊢
  by_cases c3 : x = 0 ∧ digitsB s = true
  · rw [if_pos c3]; simp [txt, mkB]
  rw [if_neg c3] at h ⊢
  by_cases c4 : x = 1 ∧ timesB s = true
  · rw [if_pos c4]; simp [txt, mkB]
  rw [if_neg c4] at h; simp at h
theorem walk_txt (s : ByteArray) : ∀ (L : List Tr) (fr x : Nat), Chain s fr L → (walkS x L).2.1 = -1 → txt (walkS x L).1 = (nats s).drop fr ∧ (walkS x L).1.length ≤ 2 * L.length
  | [], fr, x, hc, _ => by
    have : fr = s.size := hc
    subst this
    rw [walkS, List.drop_of_length_le (by rw [nats_len]; omega)]; exact ⟨rfl, by simp⟩
  | y :: r, fr, x, hc, hn => by
    obtain ⟨h1, h2, h3, h4⟩ := hc
    rw [walkS] at hn ⊢
    by_cases c1 : (nextS x y.1).2.2 = true
    · rw [if_pos c1] at hn ⊢
      by_cases c2 : (walkS (nextS x y.1).2.1 r).2.1 = -1
      · rw [if_pos c2]
        obtain ⟨i1, i2⟩ := walk_txt s r _ _ h4 c2
        have hp := nextS_len x y.1
        have he := endP_len y
        constructor
        · rw [txt_app, txt_app, next_txt x y.1 c1, txt_end, i1, ← nats_app, h3, nats_ext, show fr + y.1.size + y.2.1.size - fr = y.1.size + y.2.1.size by omega, show fr + y.1.size + y.2.1.size = fr + (y.1.size + y.2.1.size) by omega, ← List.drop_drop, List.take_append_drop]
        · simp only [List.length_append, List.length_cons]; omega
      · rw [if_neg c2] at hn
        exact absurd hn c2
    · rw [if_neg c1] at hn
      exact absurd hn (by show ¬ ((y.2.2 : Nat) : Int) = -1; omega)
theorem parse_txt (s : ByteArray) (h : (parseS s).2 = -1) : txt (parseS s).1 = nats s ∧ (parseS s).1.length ≤ 2 * s.size := by
  unfold parseS at h ⊢
  by_cases c : (walkS 0 (cut s)).2.1 = -1
  · rw [if_pos c] at h ⊢
    by_cases c1 : (walkS 0 (cut s)).2.2 = 1
    · rw [if_pos c1] at h
      exact absurd h (by show ¬ ((s.size : Nat) : Int) = -1; omega)
    · rw [if_neg c1]
      obtain ⟨a, b⟩ := walk_txt s (cut s) 0 0 (chain_all s) c
      rw [List.drop_zero] at a
      have := cut_le s
      exact ⟨a, by simp only; omega⟩
  · rw [if_neg c] at h; exact absurd h c
theorem parse_nil (s : ByteArray) (h : (parseS s).2 ≠ -1) : (parseS s).1 = [] := by
  unfold parseS at h ⊢
  split
  · split
    · rfl
    · rename_i a b
      rw [if_pos a, if_neg b] at h; exact absurd rfl h
  · rfl

end Go.Proofs.Ytbndilnbfclmbaa.Pl
