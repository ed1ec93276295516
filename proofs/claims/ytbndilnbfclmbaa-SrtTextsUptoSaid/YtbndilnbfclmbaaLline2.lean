/- The document's lines, digits and forms. -/
import Derived.Test.YtbndilnbfclmbaaPAllx0
import Derived.Test.YtbndilnbfclmbaaPAllx11
import Derived.Test.YtbndilnbfclmbaaPAllx12
import Derived.Test.YtbndilnbfclmbaaPAllx13
import Derived.Test.YtbndilnbfclmbaaPAllx9
import Derived.Test.YtbndilnbfclmbaaLline
namespace Go.Proofs.Ytbndilnbfclmbaa.Pl
open Go.RowKit Go.Proofs.Ytbndilnbfclmbaa.PAll Go.Proofs.YtbndilnbfclmbaaW.PrintWords Go.Proofs.YtbndilnbfclmbaaW.PrintLast Go.Proofs.YtbndilnbfclmbaaW.PrintMore
set_option linter.unusedVariables false
set_option linter.unusedSimpArgs false

def toR (x : ByteArray × ByteArray × Nat) : S29 := ⟨x.1, x.2.1, (x.2.2 : Int)⟩
theorem rlines_loop (s : ByteArray) (hs : s.size ≤ 3000000000000) : ∀ (d fr i : Nat) (acc : List S29), fr ≤ i → i ≤ s.size → s.size - i < d → acc.length ≤ fr →
    Ev (fun k => diacriticref22_Lines.l0 k s acc (fr : Int) (i : Int)) (acc ++ (cutL s d fr i).map toR)
  | 0, fr, i, acc, _, _, h, _ => absurd h (Nat.not_lt_zero _)
  | d + 1, fr, i, acc, h1, h2, h3, h4 => by
    refine Ev.step (fun k => by rw [diacriticref22_Lines.l0]) ?_
    unfold cutL
    by_cases hi : i < s.size
    · refine Ev.itep (by omega) (Ev.itep (by omega) ?_)
      rw [if_pos hi]
      have he := endN_le s i hi
      have w1 : wrap64 ((i : Int) + 1) = ((i + 1 : Nat) : Int) := by rw [w64 (by omega)]; omega
      have w2 : wrap64 ((i : Int) + 2) = ((i + 2 : Nat) : Int) := by rw [w64 (by omega)]; omega
      have w3 : wrap64 (wrap64 (((i + 1 : Nat) : Int) - 1) + 1) = ((i + 1 : Nat) : Int) := by
        rw [w64 (n := ((i + 1 : Nat) : Int) - 1) (by omega), w64 (by omega)]; omega
      have w4 : wrap64 (wrap64 (((i + 2 : Nat) : Int) - 1) + 1) = ((i + 2 : Nat) : Int) := by
        rw [w64 (n := ((i + 2 : Nat) : Int) - 1) (by omega), w64 (by omega)]; omega
      have one : ∀ (hh : endN s i = 1), Ev (fun k => diacriticref22_Lines.l0 k s (acc ++ [(⟨s.extract fr i, s.extract i (i + 1), (fr : Int)⟩ : S29)]) ((i + 1 : Nat) : Int) ((i + 1 : Nat) : Int)) (acc ++ ((s.extract fr i, s.extract i (i + endN s i), fr) :: cutL s d (i + endN s i) (i + endN s i)).map toR) := by
        intro hh
        refine Ev.eq (rlines_loop s hs d (i + 1) (i + 1) _ (by omega) (by omega) (by omega) (by rw [List.length_append]; simp; omega)) ?_
        rw [List.append_assoc, hh]; rfl
      by_cases h10 : bt s (i : Int) = 10
      · have hh : endN s i = 1 := by unfold endN; rw [if_neg (by omega), if_pos (.inl h10)]
        refine Ev.itep h10 (Ev.step (fun k => by rw [diacriticref22_Lines.j1]) (Ev.iten (by decide) (Ev.itep (by omega) (Ev.itep (by omega) (Ev.iten (by omega) ?_)))))
        rw [if_neg (by omega)]
        rw [w1, w3, Int.toNat_natCast, Int.toNat_natCast, Int.toNat_natCast]
        refine Ev.itep (by omega) (Ev.itep (by omega) (Ev.itep (by omega) (Ev.itep (by omega) (Ev.itep (by omega) (Ev.itep (by omega) ?_)))))
        exact one hh
      · refine Ev.iten h10 (Ev.step (fun k => by rw [diacriticref22_Lines.j1]) ?_)
        by_cases h13 : bt s (i : Int) = 13
        · refine Ev.iten (by simp [h13]) (Ev.itep (by omega) (Ev.itep (by omega) (Ev.itep h13 ?_)))
          rw [w1, w2, w3, w4, Int.toNat_natCast, Int.toNat_natCast, Int.toNat_natCast, Int.toNat_natCast]
          by_cases hl : i + 1 < s.size
          · refine Ev.itep (by omega) (Ev.itep (by omega) ?_)
            by_cases hn : bt s ((i + 1 : Nat) : Int) = 10
            · have hh : endN s i = 2 := by unfold endN; rw [if_pos ⟨h13, hl, hn⟩]
              rw [if_neg (by omega)]
              refine Ev.itep hn (Ev.itep (by omega) (Ev.itep (by omega) (Ev.itep (by omega) (Ev.itep (by omega) (Ev.itep (by omega) (Ev.itep (by omega) ?_))))))
              refine Ev.eq (rlines_loop s hs d (i + 2) (i + 2) _ (by omega) (by omega) (by omega) (by rw [List.length_append]; simp; omega)) ?_
              rw [List.append_assoc, hh]; rfl
            · have hh : endN s i = 1 := by unfold endN; rw [if_neg (fun e => hn e.2.2), if_pos (.inr h13)]
              rw [if_neg (by omega)]
              refine Ev.iten hn (Ev.itep (by omega) (Ev.itep (by omega) (Ev.itep (by omega) (Ev.itep (by omega) (Ev.itep (by omega) (Ev.itep (by omega) ?_))))))
              exact one hh
          · have hh : endN s i = 1 := by unfold endN; rw [if_neg (fun e => hl e.2.1), if_pos (.inr h13)]
            rw [if_neg (by omega)]
            refine Ev.iten (by omega) (Ev.itep (by omega) (Ev.itep (by omega) (Ev.itep (by omega) (Ev.itep (by omega) (Ev.itep (by omega) (Ev.itep (by omega) ?_))))))
            exact one hh
        · have hh : endN s i = 0 := by unfold endN; rw [if_neg (by simp [h13]), if_neg (by simp [h10, h13])]
          refine Ev.itep (by simp [h13]) ?_
          rw [if_pos hh, w1]
          exact rlines_loop s hs d fr (i + 1) acc (by omega) (by omega) (by omega) h4
    · refine Ev.iten (by omega) ?_
      rw [if_neg hi]
      by_cases hf : fr < s.size
      · rw [if_pos hf]
        refine Ev.itep (by omega) (Ev.itep (by omega) (Ev.itep (by omega) (Ev.itep (by omega) (Ev.some ?_))))
        rw [Int.toNat_natCast]; rfl
      · rw [if_neg hf]
        exact Ev.iten (by omega) (Ev.some (by simp))
theorem rlines_ev (s : ByteArray) (hs : s.size ≤ 3000000000000) : Ev (fun k => diacriticref22_Lines.f k s) ((cut s).map toR) :=
  rlines_loop s hs (s.size + 1) 0 0 [] (Nat.le_refl _) (Nat.zero_le _) (by omega) (Nat.le_refl _)

theorem rdigit_ok (c : Int) : diacriticref22_Digit.f c = some (digitI c) := by
  unfold diacriticref22_Digit.f digitI
  by_cases h : c ≥ 48
  · rw [if_pos h, decide_eq_true (show 48 ≤ c from h), Bool.true_and]
  · rw [if_neg h, decide_eq_false (show ¬ 48 ≤ c from h), Bool.false_and]
theorem rdigits_loop (s : ByteArray) (hs : s.size ≤ 140737488355328) : ∀ (d i : Nat), i + d = s.size →
    Ev (fun k => diacriticref22_Digits.l0 k s (i : Int)) (((bytesOf s).drop i).all digitI && decide (0 < s.size))
  | 0, i, hi => by
    refine Ev.step (fun k => by rw [diacriticref22_Digits.l0]) ?_
    refine Ev.iten (by omega) (Ev.some ?_)
    rw [List.drop_of_length_le (by rw [len_bytesOf]; omega), List.all_nil, Bool.true_and]
    rw [Bool.eq_iff_iff, decide_eq_true_iff, decide_eq_true_iff]; omega
  | d + 1, i, hi => by
    have hlt : i < s.size := by omega
    refine Ev.step (fun k => by rw [diacriticref22_Digits.l0]) ?_
    refine Ev.itep (by omega) (Ev.itep (by omega) (Ev.bindc (rdigit_ok _) ?_))
    rw [drop_cons s i hlt, List.all_cons]
    by_cases hc : digitI (bt s (i : Int)) = true
    · refine Ev.itep hc ?_
      rw [hc, Bool.true_and, show wrap64 ((i : Int) + 1) = ((i + 1 : Nat) : Int) by rw [w64 (by omega)]; omega]
      exact rdigits_loop s hs d (i + 1) (by omega)
    · refine Ev.iten hc (Ev.some ?_)
      rw [Bool.not_eq_true] at hc
      rw [hc]; rfl
theorem rdigits_ev (s : ByteArray) (hs : s.size ≤ 140737488355328) : Ev (fun k => diacriticref22_Digits.f k s) (digitsB s) := by
  unfold diacriticref22_Digits.f digitsB
  have := rdigits_loop s hs s.size 0 (by omega)
  rw [List.drop_zero] at this
  exact this
theorem rcap_ok (c : Int) : diacriticref22_Capital.f c = some (capI c) := by
  unfold diacriticref22_Capital.f capI
  rw [rdigit_ok, Option.bind_some]
  by_cases h : digitI c = true
  · rw [if_pos h, h, Bool.true_or]
  · rw [if_neg h]
    rw [Bool.not_eq_true] at h
    rw [h, Bool.false_or]
    by_cases h2 : c ≥ 65
    · rw [if_pos h2, decide_eq_true (show 65 ≤ c from h2), Bool.true_and]
    · rw [if_neg h2, decide_eq_false (show ¬ 65 ≤ c from h2), Bool.false_and]
theorem rcaps_loop (s : ByteArray) (hs : s.size ≤ 140737488355328) : ∀ (d i : Nat), i + d = s.size →
    Ev (fun k => diacriticref22_Capitals.l0 k s (i : Int)) (((bytesOf s).drop i).all capI && decide (0 < s.size))
  | 0, i, hi => by
    refine Ev.step (fun k => by rw [diacriticref22_Capitals.l0]) ?_
    refine Ev.iten (by omega) (Ev.some ?_)
    rw [List.drop_of_length_le (by rw [len_bytesOf]; omega), List.all_nil, Bool.true_and]
    rw [Bool.eq_iff_iff, decide_eq_true_iff, decide_eq_true_iff]; omega
  | d + 1, i, hi => by
    have hlt : i < s.size := by omega
    refine Ev.step (fun k => by rw [diacriticref22_Capitals.l0]) ?_
    refine Ev.itep (by omega) (Ev.itep (by omega) (Ev.bindc (rcap_ok _) ?_))
    rw [drop_cons s i hlt, List.all_cons]
    by_cases hc : capI (bt s (i : Int)) = true
    · refine Ev.itep hc ?_
      rw [hc, Bool.true_and, show wrap64 ((i : Int) + 1) = ((i + 1 : Nat) : Int) by rw [w64 (by omega)]; omega]
      exact rcaps_loop s hs d (i + 1) (by omega)
    · refine Ev.iten hc (Ev.some ?_)
      rw [Bool.not_eq_true] at hc
      rw [hc]; rfl
theorem rcaps_ev (s : ByteArray) (hs : s.size ≤ 140737488355328) : Ev (fun k => diacriticref22_Capitals.f k s) (capsB s) := by
  unfold diacriticref22_Capitals.f capsB
  have := rcaps_loop s hs s.size 0 (by omega)
  rw [List.drop_zero] at this
  exact this
theorem rlike_loop (s f : ByteArray) (hs : s.size ≤ 140737488355320) (hf : s.size = f.size) : ∀ (d i : Nat), i + d = s.size →
    Ev (fun k => diacriticref22_Like.l0 k s f (i : Int)) (likeL ((bytesOf s).drop i) ((bytesOf f).drop i))
  | 0, i, hi => by
    refine Ev.step (fun k => by rw [diacriticref22_Like.l0]) ?_
    refine Ev.iten (by omega) (Ev.some ?_)
    rw [List.drop_of_length_le (by rw [len_bytesOf]; omega)]; rfl
  | d + 1, i, hi => by
    have hlt : i < s.size := by omega
    refine Ev.step (fun k => by rw [diacriticref22_Like.l0]) ?_
    rw [drop_cons s i hlt, drop_cons f i (by omega)]
    have w1 : wrap64 ((i : Int) + 1) = ((i + 1 : Nat) : Int) := by rw [w64 (by omega)]; omega
    refine Ev.itep (by omega) (Ev.itep (by omega) (Ev.itep (by omega) ?_))
    rw [w1]
    show Ev _ ((if bt f (i : Int) = 48 then digitI (bt s (i : Int)) else decide (bt f (i : Int) = bt s (i : Int))) && likeL ((bytesOf s).drop (i + 1)) ((bytesOf f).drop (i + 1)))
    have ih := rlike_loop s f hs hf d (i + 1) (by omega)
    by_cases h48 : bt f (i : Int) = 48
    · refine Ev.itep h48 (Ev.bindc (rdigit_ok _) ?_)
      rw [if_pos h48]
      by_cases hd : digitI (bt s (i : Int)) = true
      · refine Ev.itep hd ?_
        rw [hd, Bool.true_and]; exact ih
      · refine Ev.iten hd (Ev.some ?_)
        rw [Bool.not_eq_true] at hd
        rw [hd]; rfl
    · refine Ev.iten h48 ?_
      rw [if_neg h48]
      by_cases hc : bt f (i : Int) = bt s (i : Int)
      · refine Ev.itep hc ?_
        rw [decide_eq_true hc, Bool.true_and]; exact ih
      · refine Ev.iten hc (Ev.some ?_)
        rw [decide_eq_false hc]; rfl
theorem rlike_ev (s f : ByteArray) (hs : s.size ≤ 140737488355320) : Ev (fun k => diacriticref22_Like.f k s f) (likeB s f) := by
  unfold diacriticref22_Like.f likeB
  by_cases h : s.size = f.size
  · refine Ev.itep (by omega) ?_
    rw [decide_eq_true h, Bool.true_and]
    exact rlike_loop s f hs h s.size 0 (by omega)
  · refine Ev.iten (by omega) (Ev.some ?_)
    rw [decide_eq_false h]; rfl

end Go.Proofs.Ytbndilnbfclmbaa.Pl
