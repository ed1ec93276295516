/- How many blocks a text has: plain lemmas. -/
import Derived.Test.YtbndilnbfclmbaaPAllx20
import Derived.Test.YtbndilnbfclmbaaLsrt2
namespace Go.Proofs.Ytbndilnbfclmbaa.Pl
open Go.RowKit Go.Proofs.Ytbndilnbfclmbaa.PAll Go.Proofs.YtbndilnbfclmbaaW.PrintWords Go.Proofs.YtbndilnbfclmbaaW.PrintLast Go.Proofs.YtbndilnbfclmbaaW.PrintMore
set_option linter.unusedVariables false
set_option linter.unusedSimpArgs false

def isD (p : Pc) : Bool := p.1 && digitsB p.2.2
def isT (p : Pc) : Bool := p.1 && timesB p.2.2
def cntD (L : List Pc) : Nat := L.countP isD
def cntT (L : List Pc) : Nat := L.countP isT
theorem count_loop (L : List Pc) (hL : L.length ≤ 1000000) (hs : ∀ x ∈ L, x.2.2.size ≤ 1000000) : ∀ (d i n : Nat), i + d = L.length → n ≤ i →
    Ev (fun k => srt_Count.l0 k (n : Int) (L.map toP) ((L.map toP).length : Int) (i : Int)) (((n + cntD (L.drop i)) : Nat) : Int)
  | 0, i, n, hi, hn => by
    refine Ev.step (fun k => by rw [srt_Count.l0]) (Ev.iten (by rw [List.length_map]; omega) (Ev.some ?_))
    rw [List.drop_of_length_le (by omega)]; simp [cntD]
  | d + 1, i, n, hi, hn => by
    have hlt : i < L.length := by omega
    have hx := hs L[i] (List.getElem_mem hlt)
    refine Ev.step (fun k => by rw [srt_Count.l0]) (Ev.itep (by rw [List.length_map]; omega) (Ev.itep (by omega) (Ev.itep (by rw [List.length_map]; omega) ?_)))
    rw [rdP L i hlt, show wrap64 ((i : Int) + 1) = ((i + 1 : Nat) : Int) by rw [w64 (by omega)]; omega, List.drop_eq_getElem_cons hlt]
    have ih0 := count_loop L hL hs d (i + 1) n (by omega) (by omega)
    have ih1 := count_loop L hL hs d (i + 1) (n + 1) (by omega) (by omega)
    by_cases hm : L[i].1 = true
    · refine Ev.itep hm (Ev.bind (digits_ev L[i].2.2 (by omega)) ?_)
      by_cases hd : digitsB L[i].2.2 = true
      · have e : cntD (L[i] :: L.drop (i + 1)) = cntD (L.drop (i + 1)) + 1 := by
          unfold cntD; rw [List.countP_cons_of_pos]; unfold isD; rw [hm, hd]; rfl
        rw [e, show wrap64 ((n : Int) + 1) = ((n + 1 : Nat) : Int) by rw [w64 (by omega)]; omega]
        exact Ev.itep hd (Ev.eq ih1 (by omega))
      · have e : cntD (L[i] :: L.drop (i + 1)) = cntD (L.drop (i + 1)) := by
          unfold cntD; rw [List.countP_cons_of_neg]; unfold isD; rw [hm, Bool.eq_false_iff.mpr hd]; decide
        rw [e]; exact Ev.iten hd ih0
    · have e : cntD (L[i] :: L.drop (i + 1)) = cntD (L.drop (i + 1)) := by
        unfold cntD; rw [List.countP_cons_of_neg]; unfold isD; rw [Bool.eq_false_iff.mpr hm, Bool.false_and]; decide
      rw [e]; exact Ev.iten hm ih0
theorem txt_mem (L : List Pc) : ∀ x ∈ L, x.2.2.size ≤ (txt L).length := by
  induction L with
  | nil => intro x hx; simp at hx
  | cons y r ih =>
    intro x hx
    rw [txt_cons, List.length_append, nats_len]
    rcases List.mem_cons.mp hx with rfl | hx
    · omega
    · have := ih x hx; omega
theorem count_ev (s : ByteArray) (hs : s.size ≤ 100000) : Ev (fun k => srt_Count.f k s) ((cntD (parseS s).1 : Nat) : Int) := by
  have hl : (parseS s).1.length ≤ 2 * s.size ∧ ∀ x ∈ (parseS s).1, x.2.2.size ≤ s.size := by
    by_cases h : (parseS s).2 = -1
    · obtain ⟨a, b⟩ := parse_txt s h
      refine ⟨b, fun x hx => ?_⟩
      have := txt_mem _ x hx
      rwa [a, nats_len] at this
    · rw [parse_nil s h]; exact ⟨by simp, fun x hx => by simp at hx⟩
  have c := count_loop (parseS s).1 (by omega) (fun x hx => by have := hl.2 x hx; omega) (parseS s).1.length 0 0 (by omega) (Nat.le_refl _)
  rw [List.drop_zero, Nat.zero_add] at c
  unfold srt_Count.f
  exact Ev.bind (parse_ev s hs) c
/-! ### as many numbers as times -/
theorem like_dig (c : Int) (cs fs : List Int) (h : likeL (c :: cs) (48 :: fs) = true) : digitI c = true := by
  rw [likeL, if_pos rfl] at h
  simp only [Bool.and_eq_true] at h
  exact h.1
/-- A line of times has a colon in its third place; it is no number. -/
theorem times_not (s : ByteArray) (h : timesB s = true) : digitsB s = false := by
  have hp := times_pos s h
  unfold timesB at h
  simp only [Bool.and_eq_true] at h
  have hl := h.2.1
  unfold likeB at hl
  simp only [Bool.and_eq_true] at hl
  have hb : bytesOf (s.extract 0 29) = bt s 0 :: bt s 1 :: bt s 2 :: ((bytesOf s).drop 3).take 26 := by
    rw [bytesOf_ext, List.drop_zero]
    have := drop_cons s 0 (by omega)
    have h1 := drop_cons s 1 (by omega)
    have h2 := drop_cons s 2 (by omega)
    rw [List.drop_zero] at this
    rw [this, h1, h2]; rfl
  have hw : bytesOf timesW = 48 :: 48 :: 58 :: (bytesOf timesW).drop 3 := rfl
  have hl2 := hl.2
  rw [hb, hw, likeL, likeL, likeL] at hl2
  simp only [Bool.and_eq_true] at hl2
  have h58 : bt s 2 = 58 := by
    have := hl2.2.2.1
    rw [if_neg (by decide)] at this
    simp only [decide_eq_true_eq] at this
    exact this.symm
  cases hd : digitsB s with
  | false => rfl
  | true =>
    unfold digitsB at hd
    simp only [Bool.and_eq_true, List.all_eq_true] at hd
    have hm : bt s 2 ∈ bytesOf s := by
      have := drop_cons s 2 (by omega)
      exact List.mem_of_mem_drop (i := 2) (by rw [this]; simp)
    have := hd.1 _ hm
    rw [h58] at this
    exact absurd this (by decide)
theorem end_not (e : List Nat) (r : List Nat) (h : endOk e r ∨ e = []) : digitsB (strN e) = false ∧ timesB (strN e) = false := by
  have hs : (strN e).size ≤ 2 := by
    rw [size_strN]
    rcases h with (rfl | rfl | ⟨rfl, _⟩) | rfl <;> simp
  refine ⟨?_, ?_⟩
  · rcases h with (rfl | rfl | ⟨rfl, _⟩) | rfl <;> decide +kernel
  · cases ht : timesB (strN e) with
    | false => rfl
    | true => have := times_pos _ ht; omega
theorem cnt_app (a b : List Pc) : cntD (a ++ b) = cntD a + cntD b ∧ cntT (a ++ b) = cntT a + cntT b := by simp [cntD, cntT, List.countP_append]
theorem cnt_end (x : Tr) (h : digitsB x.2.1 = false ∧ timesB x.2.1 = false) : cntD (endP x) = 0 ∧ cntT (endP x) = 0 := by
  unfold endP
  split
  · exact ⟨rfl, rfl⟩
  · constructor
    · unfold cntD; rw [List.countP_cons_of_neg]
      · rfl
      · unfold isD mkB; rw [h.1]; simp
    · unfold cntT; rw [List.countP_cons_of_neg]
      · rfl
      · unfold isT mkB; rw [h.2]; simp
/-- What a line adds: a number's line one number, a line of times one of times. -/
theorem next_cnt (x : Nat) (hx : x ≤ 2) (s : ByteArray) (h : (nextS x s).2.2 = true) :
    cntD (nextS x s).1 + (if x = 1 then 1 else 0) = cntT (nextS x s).1 + (if (nextS x s).2.1 = 1 then 1 else 0) := by
  unfold nextS at h ⊢
  by_cases c1 : x = 2 ∧ 0 < s.size
  · rw [if_pos c1, if_neg (by omega)]; rfl
  rw [if_neg c1] at h ⊢
  by_cases c2 : x ≠ 1 ∧ s.size = 0
  · rw [if_pos c2, if_neg c2.1]; rfl
  rw [if_neg c2] at h ⊢
  by_cases c3 : x = 0 ∧ digitsB s = true
  · rw [if_pos c3, if_neg (by omega)]
    have ht : timesB s = false := by
      cases ht : timesB s with
      | false => rfl
      | true => have := times_not s ht; rw [c3.2] at this; exact absurd this (by decide)
    have e1 : cntD [mkB s] = 1 := by unfold cntD; rw [List.countP_cons_of_pos]; · rfl
                                     · unfold isD mkB; rw [c3.2]; rfl
    have e2 : cntT [mkB s] = 0 := by unfold cntT; rw [List.countP_cons_of_neg]; · rfl
                                     · unfold isT mkB; rw [ht]; simp
    simp only [e1, e2]; rfl
  rw [if_neg c3] at h ⊢
  by_cases c4 : x = 1 ∧ timesB s = true
  · rw [if_pos c4, if_pos c4.1]
    have hd := times_not s c4.2
    have e1 : cntD [mkB s] = 0 := by unfold cntD; rw [List.countP_cons_of_neg]; · rfl
                                     · unfold isD mkB; rw [hd]; simp
    have e2 : cntT [mkB s] = 1 := by unfold cntT; rw [List.countP_cons_of_pos]; · rfl
                                     · unfold isT mkB; rw [c4.2]; rfl
    simp only [e1, e2]; rfl
  rw [if_neg c4] at h; simp at h
theorem walk_cnt : ∀ (L : List Ln) (p x : Nat), x ≤ 2 → Pl.Good L → (walkS x (posL p L)).2.1 = -1 →
    cntD (walkS x (posL p L)).1 + (if x = 1 then 1 else 0) = cntT (walkS x (posL p L)).1 + (if (walkS x (posL p L)).2.2 = 1 then 1 else 0)
  | [], p, x, hx, _, _ => by rw [posL, walkS]; rfl
  | y :: r, p, x, hx, g, hn => by
    rw [posL, walkS] at hn ⊢
    by_cases c1 : (nextS x (strN y.1)).2.2 = true
    · rw [if_pos c1] at hn ⊢
      by_cases c2 : (walkS (nextS x (strN y.1)).2.1 (posL (p + y.1.length + y.2.length) r)).2.1 = -1
      · rw [if_pos c2]
        have ih := walk_cnt r (p + y.1.length + y.2.length) _ (nextS_le x hx _) g.2.2 c2
        have hc := next_cnt x hx _ c1
        have he := cnt_end (strN y.1, strN y.2, p) (end_not y.2 (flatL r) (by rcases g.2.1 with ⟨h, _, _⟩ | h; · exact .inr h
                                                                              · exact .inl h))
        simp only [(cnt_app _ _).1, (cnt_app _ _).2, he.1, he.2]
        omega
      · rw [if_neg c2] at hn; exact absurd hn c2
    · rw [if_neg c1] at hn
      exact absurd hn (by show ¬ ((p : Nat) : Int) = -1; omega)
theorem parse_cnt (s : ByteArray) : cntD (parseS s).1 = cntT (parseS s).1 := by
  obtain ⟨L, g, e, c⟩ := cut_is s
  unfold parseS
  by_cases h : (walkS 0 (cut s)).2.1 = -1
  · rw [if_pos h]
    by_cases h1 : (walkS 0 (cut s)).2.2 = 1
    · rw [if_pos h1]; rfl
    · rw [if_neg h1]
      rw [c] at h h1 ⊢
      have := walk_cnt L 0 0 (by omega) g h
      rw [if_neg (by decide), if_neg h1] at this
      exact this
  · rw [if_neg h]; rfl

end Go.Proofs.Ytbndilnbfclmbaa.Pl
