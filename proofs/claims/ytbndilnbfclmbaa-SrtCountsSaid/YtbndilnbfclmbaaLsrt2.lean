/- Blocks of texts with times: the document's pieces; whole they are the text; how many blocks there are: plain lemmas. -/
import Derived.Test.YtbndilnbfclmbaaPAllx0
import Derived.Test.YtbndilnbfclmbaaPAllx16
import Derived.Test.YtbndilnbfclmbaaPAllx17
import Derived.Test.YtbndilnbfclmbaaLsrt
namespace Go.Proofs.Ytbndilnbfclmbaa.Pl
open Go.RowKit Go.Proofs.Ytbndilnbfclmbaa.PAll Go.Proofs.YtbndilnbfclmbaaW.PrintWords Go.Proofs.YtbndilnbfclmbaaW.PrintLast Go.Proofs.YtbndilnbfclmbaaW.PrintMore
set_option linter.unusedVariables false
set_option linter.unusedSimpArgs false

/-! ### the document's pieces -/
theorem rend (x0 : ByteArray) (L : List Tr) (hL : L.length ≤ 100000) (i : Nat) (hlt : i < L.length) (st : Nat) (A : List S50) (hA : A.length < 2000000) (r : List S50 × Int)
    (K : Ev (fun k => diacriticref24_Parse.l0 k x0 (A ++ (endP L[i]).map toQ) (L.map toR) (st : Int) ((i + 1 : Nat) : Int)) r) :
    Ev (fun k => if 0 ≤ (i : Int) then (if (i : Int) < ((L.map toR).length : Int) then (if ((rd_T29 (L.map toR) (i : Int)).f1).toList = ([] : List UInt8) then (diacriticref24_Parse.l0 k x0 A (L.map toR) (st : Int) (wrap64 ((i : Int) + 1))) else ((diacriticref22_Put.f A ((rd_T29 (L.map toR) (i : Int)).f1)).bind fun t => (diacriticref24_Parse.l0 k x0 t (L.map toR) (st : Int) (wrap64 ((i : Int) + 1))))) else (none)) else (none)) r := by
  rw [rdR L i hlt, show wrap64 ((i : Int) + 1) = ((i + 1 : Nat) : Int) by rw [w64 (by omega)]; omega]
  refine Ev.itep (by omega) (Ev.itep (by rw [List.length_map]; omega) ?_)
  unfold endP at K
  by_cases h0 : L[i].2.1.size = 0
  · rw [if_pos h0, List.map_nil, List.append_nil] at K
    exact Ev.itep ((tl_nil _).mpr h0) K
  · rw [if_neg h0] at K
    exact Ev.iten (fun e => h0 ((tl_nil _).mp e)) (Ev.bindc (put_ok A L[i].2.1 (by omega)) K)
def resS (z : Nat) (A : List S50) (m : List Pc × Int × Nat) : List S50 × Int :=
  if m.2.1 = -1 then (if m.2.2 = 1 then ([], (z : Int)) else (A ++ m.1.map toQ, -1)) else ([], m.2.1)
theorem resS_step (z : Nat) (A : List S50) (x : Nat) (y : Tr) (r : List Tr) (p : List Pc) (x2 : Nat) (h : nextS x y.1 = (p, x2, true)) : resS z (A ++ p.map toQ ++ (endP y).map toQ) (walkS x2 r) = resS z A (walkS x (y :: r)) := by
  rw [walkS, h]
  simp only [if_true]
  unfold resS
  by_cases c : (walkS x2 r).2.1 = -1
  · rw [if_pos c, if_pos c, if_pos rfl]
    simp only [List.map_append, List.append_assoc]
  · rw [if_neg c, if_neg c, if_neg c]
theorem rparse_loop (x0 : ByteArray) (L : List Tr) (hL : L.length ≤ 100000) (hs : Small L) : ∀ (d i x : Nat) (acc : List S50), i + d = L.length → x ≤ 2 → acc.length ≤ 2 * i →
    Ev (fun k => diacriticref24_Parse.l0 k x0 acc (L.map toR) (x : Int) (i : Int)) (resS x0.size acc (walkS x (L.drop i)))
  | 0, i, x, acc, hi, hx, ha => by
    rw [List.drop_of_length_le (by omega), walkS]
    refine Ev.step (fun k => by rw [diacriticref24_Parse.l0]) (Ev.iten (by rw [List.length_map]; omega) ?_)
    unfold resS
    rw [if_pos rfl]
    by_cases h1 : x = 1
    · rw [if_pos h1]; exact Ev.itep (by omega) (Ev.some rfl)
    · rw [if_neg h1]; exact Ev.iten (by omega) (Ev.some (by simp))
  | d + 1, i, x, acc, hi, hx, ha => by
    have hlt : i < L.length := by omega
    have hy := hs L[i] (List.getElem_mem hlt)
    rw [List.drop_eq_getElem_cons hlt]
    have good : ∀ (p : List Pc) (x2 : Nat), nextS x L[i].1 = (p, x2, true) → Ev (fun k => diacriticref24_Parse.l0 k x0 (acc ++ p.map toQ ++ (endP L[i]).map toQ) (L.map toR) (x2 : Int) ((i + 1 : Nat) : Int)) (resS x0.size acc (walkS x (L[i] :: L.drop (i + 1)))) := by
      intro p x2 h
      have hp := nextS_len x L[i].1
      have hx2 := nextS_le x hx L[i].1
      rw [h] at hp hx2
      have he := endP_len L[i]
      rw [← resS_step x0.size acc x L[i] (L.drop (i + 1)) p x2 h]
      exact rparse_loop x0 L hL hs d (i + 1) x2 _ (by omega) hx2 (by simp only [List.length_append, List.length_map]; simp only at hp; omega)
    have bad : nextS x L[i].1 = ([], x, false) → resS x0.size acc (walkS x (L[i] :: L.drop (i + 1))) = ([], (L[i].2.2 : Int)) := by
      intro h
      rw [walkS, h]
      simp only
      rw [if_neg (by decide)]
      unfold resS
      rw [if_neg (by show ¬ ((L[i].2.2 : Nat) : Int) = -1; omega)]
    refine Ev.step (fun k => by rw [diacriticref24_Parse.l0]) (Ev.itep (by rw [List.length_map]; omega) (Ev.itep (by omega) ?_))
    rw [rdR L i hlt]
    show Ev (fun k => if (x : Int) = 0 then diacriticref24_Parse.j1 k x0 acc (L.map toR) (x : Int) (i : Int) L[i].1 (L[i].1.toList != ([] : List UInt8)) else diacriticref24_Parse.j1 k x0 acc (L.map toR) (x : Int) (i : Int) L[i].1 false) _
    have hx3 : x = 0 ∨ x = 1 ∨ x = 2 := by omega
    have hj1 : ∀ {r}, (x = 0 → L[i].1.size = 0) → Ev (fun k => diacriticref24_Parse.j1 k x0 acc (L.map toR) (x : Int) (i : Int) L[i].1 false) r → Ev (fun k => if (x : Int) = 0 then diacriticref24_Parse.j1 k x0 acc (L.map toR) (x : Int) (i : Int) L[i].1 (L[i].1.toList != ([] : List UInt8)) else diacriticref24_Parse.j1 k x0 acc (L.map toR) (x : Int) (i : Int) L[i].1 false) r := by
      intro r h0 h
      by_cases h1 : (x : Int) = 0
      · rw [ne_nilB, decide_eq_false (by have := h0 (by omega); omega)]
        exact Ev.itep h1 h
      · exact Ev.iten h1 h
    by_cases hz : L[i].1.size = 0
    · refine hj1 (fun _ => hz) (Ev.step (fun k => by rw [diacriticref24_Parse.j1]) (Ev.iten (by decide) ?_))
      rcases hx3 with rfl | rfl | rfl
      · have hn : nextS 0 L[i].1 = ([], 0, true) := by unfold nextS; rw [if_neg (by omega), if_pos ⟨by decide, hz⟩]
        have g := good _ _ hn
        rw [List.map_nil, List.append_nil] at g
        refine Ev.iten (by decide) (Ev.iten (by decide) ?_)
        refine Ev.step (fun k => by rw [diacriticref24_Parse.j2]) (Ev.iten (by decide) (Ev.iten (by decide) ?_))
        exact rend x0 L hL i hlt 0 acc (by omega) _ g
      · have hn : nextS 1 L[i].1 = ([], 1, false) := by
          unfold nextS
          rw [if_neg (by omega), if_neg (by omega), if_neg (by omega), if_neg]
          intro h; have := times_pos _ h.2; omega
        have ht : timesB L[i].1 = false := by
          cases h : timesB L[i].1 with
          | false => rfl
          | true => have := times_pos _ h; omega
        rw [bad hn]
        refine Ev.itep rfl (Ev.bind (times_ev L[i].1 (by omega)) ?_)
        rw [ht]
        refine Ev.iten (by decide) (Ev.itep (by omega) (Ev.itep (by rw [List.length_map]; omega) (Ev.some ?_)))
        rw [rdR L i hlt]; rfl
      · have hn : nextS 2 L[i].1 = ([], 0, true) := by unfold nextS; rw [if_neg (by omega), if_pos ⟨by decide, hz⟩]
        have g := good _ _ hn
        rw [List.map_nil, List.append_nil] at g
        refine Ev.iten (by decide) (Ev.itep rfl ?_)
        rw [eq_nilB, decide_eq_true hz]
        refine Ev.step (fun k => by rw [diacriticref24_Parse.j2]) (Ev.itep rfl ?_)
        exact rend x0 L hL i hlt 0 acc (by omega) _ g
    · rcases hx3 with rfl | rfl | rfl
      · refine Ev.itep rfl ?_
        rw [ne_nilB, decide_eq_true (show 0 < L[i].1.size by omega)]
        refine Ev.step (fun k => by rw [diacriticref24_Parse.j1]) (Ev.itep rfl (Ev.bind (rdigits_ev L[i].1 (by omega)) ?_))
        by_cases hd : digitsB L[i].1 = true
        · have hn : nextS 0 L[i].1 = ([mkB L[i].1], 1, true) := by unfold nextS; rw [if_neg (by omega), if_neg (by omega), if_pos ⟨rfl, hd⟩]
          refine Ev.itep hd (Ev.bindc (put_ok acc L[i].1 (by omega)) ?_)
          exact rend x0 L hL i hlt 1 _ (by simp; omega) _ (good _ _ hn)
        · have hn : nextS 0 L[i].1 = ([], 0, false) := by unfold nextS; rw [if_neg (by omega), if_neg (by omega), if_neg (fun h => hd h.2), if_neg (by omega)]
          rw [bad hn]
          refine Ev.iten hd (Ev.itep (by omega) (Ev.itep (by rw [List.length_map]; omega) (Ev.some ?_)))
          rw [rdR L i hlt]; rfl
      · refine hj1 (by omega) ?_
        refine Ev.step (fun k => by rw [diacriticref24_Parse.j1]) ?_
        refine Ev.iten (by decide) (Ev.itep rfl (Ev.bind (times_ev L[i].1 (by omega)) ?_))
        by_cases ht : timesB L[i].1 = true
        · have hn : nextS 1 L[i].1 = ([mkB L[i].1], 2, true) := by unfold nextS; rw [if_neg (by omega), if_neg (by omega), if_neg (by omega), if_pos ⟨rfl, ht⟩]
          refine Ev.itep ht (Ev.bindc (put_ok acc L[i].1 (by omega)) ?_)
          exact rend x0 L hL i hlt 2 _ (by simp; omega) _ (good _ _ hn)
        · have hn : nextS 1 L[i].1 = ([], 1, false) := by unfold nextS; rw [if_neg (by omega), if_neg (by omega), if_neg (by omega), if_neg (fun h => ht h.2)]
          rw [bad hn]
          refine Ev.iten ht (Ev.itep (by omega) (Ev.itep (by rw [List.length_map]; omega) (Ev.some ?_)))
          rw [rdR L i hlt]; rfl
      · have hn : nextS 2 L[i].1 = ([(false, textW, L[i].1)], 2, true) := by unfold nextS; rw [if_pos ⟨rfl, by omega⟩]
        refine hj1 (by omega) ?_
        refine Ev.step (fun k => by rw [diacriticref24_Parse.j1]) ?_
        refine Ev.iten (by decide) (Ev.iten (by decide) (Ev.itep rfl ?_))
        rw [eq_nilB, decide_eq_false hz]
        refine Ev.step (fun k => by rw [diacriticref24_Parse.j2]) ?_
        refine Ev.iten (by decide) (Ev.itep rfl (Ev.bindc (write_ok acc textW L[i].1 (by omega)) ?_))
        exact rend x0 L hL i hlt 2 _ (by simp; omega) _ (good _ _ hn)
theorem rparse_ev (s : ByteArray) (hs : s.size ≤ 100000) : Ev (fun k => diacriticref24_Parse.f k s) ((parseS s).1.map toQ, (parseS s).2) := by
  have hlen := cut_le s
  have w := rparse_loop s (cut s) (by omega) (small_cut s hs) (cut s).length 0 0 [] (by omega) (by omega) (Nat.zero_le _)
  rw [List.drop_zero] at w
  unfold diacriticref24_Parse.f
  refine Ev.eq (Ev.bind (rlines_ev s (by omega)) w) ?_
  unfold resS parseS
  by_cases h : (walkS 0 (cut s)).2.1 = -1
  · rw [if_pos h, if_pos h]
    by_cases h1 : (walkS 0 (cut s)).2.2 = 1
    · rw [if_pos h1, if_pos h1]; rfl
    · rw [if_neg h1, if_neg h1]; rfl
  · rw [if_neg h, if_neg h]; rfl
/-! ### whole they are the text -/
theorem next_txt (x : Nat) (s : ByteArray) (h : (nextS x s).2.2 = true) : txt (nextS x s).1 = nats s := by
  unfold nextS at h ⊢
  by_cases c1 : x = 2 ∧ 0 < s.size
  · rw [if_pos c1]; simp [txt]
  rw [if_neg c1] at h ⊢
  by_cases c2 : x ≠ 1 ∧ s.size = 0
  · rw [if_pos c2]
    have : nats s = [] := List.eq_nil_of_length_eq_zero (by rw [nats_len]; exact c2.2)
    rw [this]; rfl
  rw [if_neg c2] at h ⊢
  by_cases c3 : x = 0 ∧ digitsB s = true
  · rw [if_pos c3]; simp [txt, mkB]
  rw [if_neg c3] at h ⊢
  by_cases c4 : x = 1 ∧ timesB s = true
  · rw [if_pos c4]; simp [txt, mkB]
  rw [if_neg c4] at h; simp at h
theorem walk_txt (s : ByteArray) : ∀ (L : List Tr) (fr x : Nat), Chain s fr L → (walkS x L).2.1 = -1 → txt (walkS x L).1 = (nats s).drop fr ∧ (walkS x L).1.length ≤ 2 * L.length
  | [], fr, x, hc, _ => by
    have : fr = s.size := hc
    subst this
    rw [walkS, List.drop_of_length_le (by rw [nats_len]; omega)]; exact ⟨rfl, by simp⟩
  | y :: r, fr, x, hc, hn => by
    obtain ⟨h1, h2, h3, h4⟩ := hc
    rw [walkS] at hn ⊢
    by_cases c1 : (nextS x y.1).2.2 = true
    · rw [if_pos c1] at hn ⊢
      by_cases c2 : (walkS (nextS x y.1).2.1 r).2.1 = -1
      · rw [if_pos c2]
        obtain ⟨i1, i2⟩ := walk_txt s r _ _ h4 c2
        have hp := nextS_len x y.1
        have he := endP_len y
        constructor
        · rw [txt_app, txt_app, next_txt x y.1 c1, txt_end, i1, ← nats_app, h3, nats_ext, show fr + y.1.size + y.2.1.size - fr = y.1.size + y.2.1.size by omega, show fr + y.1.size + y.2.1.size = fr + (y.1.size + y.2.1.size) by omega, ← List.drop_drop, List.take_append_drop]
        · simp only [List.length_append, List.length_cons]; omega
      · rw [if_neg c2] at hn
        exact absurd hn c2
    · rw [if_neg c1] at hn
      exact absurd hn (by show ¬ ((y.2.2 : Nat) : Int) = -1; omega)
theorem parse_txt (s : ByteArray) (h : (parseS s).2 = -1) : txt (parseS s).1 = nats s ∧ (parseS s).1.length ≤ 2 * s.size := by
  unfold parseS at h ⊢
  by_cases c : (walkS 0 (cut s)).2.1 = -1
  · rw [if_pos c] at h ⊢
    by_cases c1 : (walkS 0 (cut s)).2.2 = 1
    · rw [if_pos c1] at h
      exact absurd h (by show ¬ ((s.size : Nat) : Int) = -1; omega)
    · rw [if_neg c1]
      obtain ⟨a, b⟩ := walk_txt s (cut s) 0 0 (chain_all s) c
      rw [List.drop_zero] at a
      have := cut_le s
      exact ⟨a, by simp only; omega⟩
  · rw [if_neg c] at h; exact absurd h c
theorem parse_nil (s : ByteArray) (h : (parseS s).2 ≠ -1) : (parseS s).1 = [] := by
  unfold parseS at h ⊢
  split
  · split
    · rfl
    · rename_i a b
      rw [if_pos a, if_neg b] at h; exact absurd rfl h
  · rfl

end Go.Proofs.Ytbndilnbfclmbaa.Pl
