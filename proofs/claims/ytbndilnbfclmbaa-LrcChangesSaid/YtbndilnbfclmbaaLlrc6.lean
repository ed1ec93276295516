/- A song's lines that are made, or changed: plain lemmas. -/

import Derived.Test.YtbndilnbfclmbaaLlrc5
namespace Go.Proofs.Ytbndilnbfclmbaa.Pl
open Go.RowKit Go.Proofs.Ytbndilnbfclmbaa.PAll Go.Proofs.YtbndilnbfclmbaaW.PrintWords Go.Proofs.YtbndilnbfclmbaaW.PrintLast
set_option linter.unusedVariables false
set_option linter.unusedSimpArgs false

theorem low_byte {a : List Nat} (h : ∀ x ∈ a, lowN x = true) : ∀ x ∈ a, 97 ≤ x ∧ x ≤ 122 := by
  intro x hx
  have := h x hx
  simp only [lowN, Bool.and_eq_true, decide_eq_true_eq] at this
  exact this
theorem low_byt {a : List Nat} (h : ∀ x ∈ a, lowN x = true) : Byt a := fun x hx => by have := low_byte h x hx; omega
theorem low_noE {a : List Nat} (h : ∀ x ∈ a, lowN x = true) : noE a := fun x hx => by have := low_byte h x hx; omega
theorem mom_low (c : Nat) (r : List Nat) (hb : Byt (c :: r)) (h : lowN c = true) : momB (strN (c :: r)) = false := by
  have hc : 97 ≤ c := (low_byte (a := [c]) (by simpa using h) c (by simp)).1
  have hd : digitI (c : Int) = false := by unfold digitI; simp; omega
  have hn : bytesOf (strN (c :: r)) = ints (c :: r) := by rw [bytes_ints, nats_strN hb]
  have e1 : ∀ f : ByteArray, bytesOf f = 48 :: (bytesOf f).tail → likeB (strN (c :: r)) f = false := by
    intro f hf
    unfold likeB
    rw [hn, hf, ints, List.map_cons, likeL, if_pos rfl, hd]; simp
  unfold momB
  rw [e1 _ rfl, e1 _ rfl, e1 _ rfl]; rfl
theorem tg_not (l : List Nat) (h : l.head? ≠ some 91) : tg l = ([], [], false) := by
  cases l with
  | nil => rfl
  | cons c t =>
    have : c ≠ 91 := by simpa using h
    rw [tg, if_neg this]
theorem time_not (l : List Nat) (h : l.head? ≠ some 91) : timeN l = 0 := by
  unfold timeN
  rw [tg_not l h]; rfl
theorem tg_of (a r : List Nat) (ha : ∀ x ∈ a, x ≠ 93) : tg (91 :: (a ++ 93 :: r)) = (a, r, true) := by
  obtain ⟨h1, h2, h3⟩ := in_split a r ha
  rw [tg, if_pos rfl, h1, h2, h3]
theorem time_of (a r : List Nat) (ha : ∀ x ∈ a, x ≠ 93) : timeN (91 :: (a ++ 93 :: r)) = if momB (strN a) = true then a.length + 2 else 0 := by
  unfold timeN
  rw [tg_of a r ha]
  simp
theorem low_head {a : List Nat} (h : ∀ x ∈ a, lowN x = true) : a.head? ≠ some 91 := by
  cases a with
  | nil => simp
  | cons c r =>
    have := low_byte h c (by simp)
    simp only [List.head?_cons, ne_eq, Option.some.injEq]; omega
/-- A name, a colon and a value in brackets. -/
theorem note_pcs (name value : List Nat) (hn : ∀ x ∈ name, lowN x = true) (h0 : name ≠ []) (hv : ∀ x ∈ value, x ≠ 93) (hb : Byt value) :
    pcs (91 :: (name ++ 58 :: (value ++ [93]))) = ([mk ([91] ++ (name ++ [58])), (false, strN name, strN value), mk [93]], true) := by
  have ha : ∀ x ∈ name ++ 58 :: value, x ≠ 93 := by
    intro x hx
    rw [List.mem_append] at hx
    rcases hx with hx | hx
    · have := low_byte hn x hx; omega
    · rcases List.mem_cons.mp hx with rfl | hx
      · decide
      · exact hv x hx
  have e : (91 :: (name ++ 58 :: (value ++ [93]))) = 91 :: ((name ++ 58 :: value) ++ 93 :: []) := by simp
  have hm : momB (strN (name ++ 58 :: value)) = false := by
    cases name with
    | nil => exact absurd rfl h0
    | cons c r =>
      refine mom_low c _ ?_ (hn c (by simp))
      intro x hx
      have hx : x ∈ (c :: r) ++ 58 :: value := hx
      rw [List.mem_append] at hx
      rcases hx with hx | hx
      · exact low_byt hn x hx
      · rcases List.mem_cons.mp hx with rfl | hx
        · decide
        · exact hb x hx
  have hnm : nmN (name ++ 58 :: value) = name := nm_app name _ hn (by intro u r hu; injection hu with hu; rw [← hu]; decide)
  rw [e]
  unfold pcs
  rw [if_neg (by simp), time_of _ _ ha, if_neg (by rw [hm]; simp), tg_of _ _ ha, if_pos rfl]
  simp only
  unfold noteP
  rw [hnm, if_pos]
  · rw [show name.length + 1 = (name ++ [58]).length by simp, show name ++ 58 :: value = (name ++ [58]) ++ value by simp, List.drop_left]
  · refine ⟨h0, by simp, ?_, rfl⟩
    rw [List.getD_eq_getElem?_getD, List.getElem?_append_right (Nat.le_refl _)]; simp

/-! ### changed texts -/
def chg (b : ByteArray) (x : Pc) : Pc := if x.1 = true then x else (x.1, x.2.1, b)
theorem chg_mk (b : ByteArray) (l : List Nat) : chg b (mk l) = mk l := by unfold chg mk; rw [if_pos rfl]
theorem txt_cons (x : Pc) (r : List Pc) : txt (x :: r) = nats x.2.2 ++ txt r := by simp [txt]
theorem txt_mk (l : List Nat) (h : Byt l) (r : List Pc) : txt (mk l :: r) = l ++ txt r := by rw [txt_cons, mk, nats_strN h]
theorem tms_chg (b : List Nat) (hb : ∀ x ∈ b, lowN x = true) (b0 : b ≠ []) : ∀ (d : Nat) (l : List Nat), Byt l → l.length < d →
    Byt (txt ((tms d l).map (chg (strN b)))) ∧ (noE l → noE (txt ((tms d l).map (chg (strN b))))) ∧ (txt ((tms d l).map (chg (strN b))) = [] ↔ l = []) ∧ (txt ((tms d l).map (chg (strN b)))).length ≤ l.length + b.length ∧
    (∀ e, (txt ((tms d l).map (chg (strN b)))).length < e → tms e (txt ((tms d l).map (chg (strN b)))) = (tms d l).map (chg (strN b))) ∧ (timeN l ≠ 0 → timeN (txt ((tms d l).map (chg (strN b)))) ≠ 0)
  | 0, l, _, h => absurd h (by omega)
  | d + 1, l, hl, h => by
    by_cases ht : timeN l = 0
    · by_cases h0 : l = []
      · subst h0
        have e0 : tms (d + 1) [] = [] := by rw [tms, if_neg (by rw [ht]; decide), if_pos rfl]
        rw [e0]
        refine ⟨fun x hx => by simp [txt] at hx, fun _ x hx => by simp [txt] at hx, by simp [txt], by simp [txt], ?_, fun e => absurd ht e⟩
        intro e he
        obtain ⟨e, rfl⟩ : ∃ m, e = m + 1 := ⟨e - 1, by omega⟩
        show tms (e + 1) [] = []
        rw [tms, if_neg (by rw [ht]; decide), if_pos rfl]
      · have e1 : tms (d + 1) l = [(false, textW, strN l)] := by rw [tms, if_neg (by rw [ht]; decide), if_neg h0]
        have e2 : txt ((tms (d + 1) l).map (chg (strN b))) = b := by
          rw [e1, List.map_cons, List.map_nil, txt_cons]
          simp only [chg]
          rw [if_neg (by decide), nats_strN (low_byt hb)]; simp [txt]
        rw [e2]
        refine ⟨low_byt hb, fun _ => low_noE hb, ⟨fun e => absurd e b0, fun e => absurd e h0⟩, by omega, ?_, fun e => absurd ht e⟩
        intro e he
        obtain ⟨e, rfl⟩ : ∃ m, e = m + 1 := ⟨e - 1, by omega⟩
        rw [tms, if_neg (by rw [time_not b (low_head hb)]; decide), if_neg b0, e1]
        simp [chg]
    · obtain ⟨f1, f2, f3, f4, f5, f6⟩ := time_facts l hl ht
      obtain ⟨g1, g2⟩ := time_take l hl ht
      have h93 : ∀ x ∈ (tg l).1, x ≠ 93 := by
        have := (mom_no _ f2).2
        intro x hx
        rw [nats_strN (tg_lt l hl)] at this
        exact this x hx
      generalize hA : (tg l).1 = A at *
      generalize hR : (tg l).2.1 = R at *
      have e1 : tms (d + 1) l = mk ([91] ++ (A ++ [93])) :: tms d R := by rw [tms, if_pos ht, g1, g2]
      have hlR : Byt R := fun x hx => hl x (by rw [f1]; simp [hx])
      have hlA : Byt ([91] ++ (A ++ [93])) := fun x hx => hl x (by rw [f1]; simp at hx ⊢; rcases hx with h | h | h <;> simp [h])
      have hlen : R.length < d := by
        have := congrArg List.length f1
        simp at this; omega
      obtain ⟨i1, i2, i3, i4, i5, i6⟩ := tms_chg b hb b0 d R hlR hlen
      generalize hT : txt ((tms d R).map (chg (strN b))) = T at i1 i2 i3 i4 i5 i6
      have e2 : txt ((tms (d + 1) l).map (chg (strN b))) = [91] ++ (A ++ [93]) ++ T := by
        rw [e1, List.map_cons, chg_mk, txt_mk _ hlA, hT]
      have e3 : [91] ++ (A ++ [93]) ++ T = 91 :: (A ++ 93 :: T) := by simp
      have hLl : l.length = A.length + 2 + R.length := by
        have := congrArg List.length f1
        simp at this; omega
      rw [e2]
      refine ⟨byt_app hlA i1, ?_, ⟨fun e => absurd e (by simp), fun e => absurd e (by rw [f1]; simp)⟩, ?_, ?_, ?_⟩
      · intro hn x hx
        rw [List.mem_append] at hx
        rcases hx with hx | hx
        · exact hn x (by rw [f1]; simp at hx ⊢; rcases hx with h | h | h <;> simp [h])
        · exact i2 (fun y hy => hn y (by rw [f1]; simp [hy])) x hx
      · simp only [List.length_append, List.length_cons, List.length_nil]; omega
      · intro e he
        obtain ⟨e, rfl⟩ : ∃ m, e = m + 1 := ⟨e - 1, by omega⟩
        have ht' : timeN ([91] ++ (A ++ [93]) ++ T) = A.length + 2 := by rw [e3, time_of A T h93, if_pos f2]
        have hz : A.length + 2 = ([91] ++ (A ++ [93])).length := by simp
        rw [tms, if_pos (by rw [ht']; omega), ht', hz, List.take_left, List.drop_left, i5 e (by simp only [List.length_append, List.length_cons, List.length_nil] at he; omega), e1, List.map_cons, chg_mk]
      · intro _
        rw [e3, time_of A T h93, if_pos f2]; omega
theorem pcs_chg (b : List Nat) (hb : ∀ x ∈ b, lowN x = true) (b0 : b ≠ []) (l : List Nat) (hl : Byt l) (h : (pcs l).2 = true) :
    Byt (txt ((pcs l).1.map (chg (strN b)))) ∧ (noE l → noE (txt ((pcs l).1.map (chg (strN b))))) ∧ (txt ((pcs l).1.map (chg (strN b))) = [] ↔ l = []) ∧ (txt ((pcs l).1.map (chg (strN b)))).length ≤ l.length + b.length ∧
    pcs (txt ((pcs l).1.map (chg (strN b)))) = ((pcs l).1.map (chg (strN b)), true) := by
  by_cases h0 : l = []
  · subst h0
    have e : pcs [] = ([], true) := by unfold pcs; rw [if_pos rfl]
    rw [e]
    exact ⟨fun x hx => by simp [txt] at hx, fun _ x hx => by simp [txt] at hx, by simp [txt], by simp [txt], e⟩
  · by_cases ht : timeN l = 0
    · by_cases hg : (tg l).2.2 = true
      · have hp : pcs l = noteP (tg l).1 (tg l).2.1 := by
          unfold pcs; rw [if_neg h0, if_neg (by rw [ht]; decide), if_pos hg]
        rw [hp] at h ⊢
        unfold noteP at h ⊢
        by_cases hc : nmN (tg l).1 ≠ [] ∧ (nmN (tg l).1).length < (tg l).1.length ∧ (tg l).1.getD (nmN (tg l).1).length 0 = 58 ∧ (tg l).2.1 = []
        · rw [if_pos hc]
          obtain ⟨c1, c2, c3, c4⟩ := hc
          have low := nm_low (tg l).1
          generalize hnm : nmN (tg l).1 = name at *
          have e2 : txt (([mk ([91] ++ (name ++ [58])), (false, strN name, strN ((tg l).1.drop (name.length + 1))), mk [93]] : List Pc).map (chg (strN b))) = 91 :: (name ++ 58 :: (b ++ [93])) := by
            have hq : Byt ([91] ++ (name ++ [58])) := by
              intro x hx
              simp at hx
              rcases hx with rfl | hx | rfl
              · decide
              · exact low_byt low x hx
              · decide
            rw [List.map_cons, List.map_cons, List.map_cons, List.map_nil, chg_mk, chg_mk, txt_mk _ hq, txt_cons, txt_mk _ (by intro x hx; simp at hx; omega)]
            simp only [chg]
            rw [if_neg (by decide), nats_strN (low_byt hb)]
            simp [txt]
          rw [e2]
          have hl2 : l = 91 :: (name ++ 58 :: ((tg l).1.drop (name.length + 1) ++ [93])) := by
            cases l with
            | nil => exact absurd rfl h0
            | cons c t =>
              have hcc : c = 91 := by
                by_cases hcc : c = 91
                · exact hcc
                · rw [tg, if_neg hcc] at hg; simp at hg
              subst hcc
              simp only [tg, if_true] at *
              have := (split_in t hg).1
              rw [c4] at this
              conv => lhs; rw [this]
              congr 1
              have hs := nm_split (inN t)
              rw [hnm] at hs
              have hdrop : (inN t).drop name.length = 58 :: (inN t).drop (name.length + 1) := by
                rw [List.drop_eq_getElem_cons c2]
                congr 1
                rw [List.getD_eq_getElem?_getD, List.getElem?_eq_getElem c2] at c3
                exact c3
              rw [hdrop] at hs
              conv => lhs; lhs; rw [hs.1]
              simp
          have hlen := congrArg List.length hl2
          simp only [List.length_cons, List.length_append, List.length_nil] at hlen
          refine ⟨?_, ?_, ⟨fun e => absurd e (by simp), fun e => absurd e h0⟩, ?_, ?_⟩
          · intro x hx
            simp at hx
            rcases hx with rfl | hx | rfl | hx | rfl
            · decide
            · exact low_byt low x hx
            · decide
            · exact low_byt hb x hx
            · decide
          · intro _ x hx
            simp at hx
            rcases hx with rfl | hx | rfl | hx | rfl
            · decide
            · exact low_noE low x hx
            · decide
            · exact low_noE hb x hx
            · decide
          · simp only [List.length_cons, List.length_append, List.length_nil]; omega
          · rw [note_pcs name b low c1 (fun x hx => by have := low_byte hb x hx; omega) (low_byt hb)]
            simp only [List.map_cons, List.map_nil, chg_mk]
            simp [chg]
        · rw [if_neg hc] at h; simp at h
      · have hp : pcs l = ([], false) := by
          unfold pcs; rw [if_neg h0, if_neg (by rw [ht]; decide), if_neg hg]
        rw [hp] at h; simp at h
    · have hp : pcs l = (tms (l.length + 1) l, true) := by
        unfold pcs; rw [if_neg h0, if_pos ht]
      rw [hp]
      simp only
      obtain ⟨i1, i2, i3, i4, i5, i6⟩ := tms_chg b hb b0 (l.length + 1) l hl (by omega)
      refine ⟨i1, i2, i3, i4, ?_⟩
      unfold pcs
      rw [if_neg (fun e => h0 (i3.mp e)), if_pos (i6 ht), i5 _ (by omega)]

end Go.Proofs.Ytbndilnbfclmbaa.Pl
