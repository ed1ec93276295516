/- The document's pieces of a song's line. -/
import Derived.Test.YtbndilnbfclmbaaPAllx0
import Derived.Test.YtbndilnbfclmbaaPAllx17
import Derived.Test.YtbndilnbfclmbaaPAllx20
import Derived.Test.YtbndilnbfclmbaaPAllx21
import Derived.Test.YtbndilnbfclmbaaLlrc2
namespace Go.Proofs.Ytbndilnbfclmbaa.Pl
open Go.RowKit Go.Proofs.Ytbndilnbfclmbaa.PAll Go.Proofs.YtbndilnbfclmbaaW.PrintWords Go.Proofs.YtbndilnbfclmbaaW.PrintLast Go.Proofs.YtbndilnbfclmbaaW.PrintMore
set_option linter.unusedVariables false
set_option linter.unusedSimpArgs false

theorem put_ok (acc : List S50) (l : List Nat) (h : acc.length < 3000000000) : diacriticref22_Put.f acc (strN l) = some (acc ++ [mk l].map toQ) := by
  unfold diacriticref22_Put.f
  rw [if_pos (by omega)]; rfl
theorem write_ok (acc : List S50) (a b : ByteArray) (h : acc.length < 3000000000) : diacriticref22_Write.f acc a b = some (acc ++ [((false, a, b) : Pc)].map toQ) := by
  unfold diacriticref22_Write.f
  rw [if_pos (by omega)]; rfl
theorem ext_drop (l : List Nat) (hl : ∀ x ∈ l, x < 256) (i : Nat) : (strN l).extract i (strN l).size = strN (l.drop i) := by
  rw [ext_strN l hl, List.take_of_length_le (by rw [List.length_drop, size_strN]; omega)]
theorem rpieces_loop (l : List Nat) (hl : ∀ x ∈ l, x < 256) (hz : l.length ≤ 1000000) : ∀ (d i : Nat) (acc : List S50), i ≤ l.length → l.length - i < d → (0 < i ∨ timeN (l.drop i) ≠ 0) → acc.length ≤ i →
    Ev (fun k => diacriticref26_Pieces.l0 k (strN l) acc (i : Int)) (acc ++ (tms d (l.drop i)).map toQ, true)
  | 0, i, acc, _, h, _, _ => absurd h (Nat.not_lt_zero _)
  | d + 1, i, acc, h1, h2, h3, h4 => by
    have hd : ∀ x ∈ l.drop i, x < 256 := fun x hx => hl x (List.mem_of_mem_drop hx)
    have te : Ev (fun k => diacriticref26_time.f k ((strN l).extract ((i : Int)).toNat (strN l).size)) ((timeN (l.drop i) : Nat) : Int) := by
      rw [Int.toNat_natCast, ext_drop l hl]
      have := time_ev (strN (l.drop i)) (by rw [size_strN, List.length_drop]; omega)
      rwa [nats_strN hd] at this
    refine Ev.step (fun k => by rw [diacriticref26_Pieces.l0]) (Ev.itep (by omega) (Ev.itep (by rw [size_strN]; omega) (Ev.bind te ?_)))
    unfold tms
    by_cases ht : timeN (l.drop i) ≠ 0
    · rw [if_pos ht]
      obtain ⟨f1, f2, f3, f4, f5, f6⟩ := time_facts _ hd ht
      rw [List.length_drop] at f6
      have w1 : wrap64 ((i : Int) + ((timeN (l.drop i) : Nat) : Int)) = ((i + timeN (l.drop i) : Nat) : Int) := by rw [w64 (by omega)]; omega
      refine Ev.itep (by omega) (Ev.bind te ?_)
      rw [w1]
      refine Ev.itep (by omega) (Ev.itep (by rw [size_strN]; omega) ?_)
      rw [Int.toNat_natCast, Int.toNat_natCast, ext_strN l hl, show i + timeN (l.drop i) - i = timeN (l.drop i) by omega]
      refine Ev.bindc (put_ok acc _ (by omega)) ?_
      refine Ev.eq (rpieces_loop l hl hz d (i + timeN (l.drop i)) _ (by omega) (by omega) (.inl (by omega)) (by rw [List.length_append]; simp; omega)) ?_
      rw [List.append_assoc, ← List.drop_drop]; rfl
    · rw [if_neg ht]
      have hi : 0 < i := by omega
      refine Ev.iten (by omega) (Ev.itep (by omega) ?_)
      by_cases c : i < l.length
      · rw [if_neg (show ¬ l.drop i = [] from fun e => by have := congrArg List.length e; rw [List.length_drop] at this; simp at this; omega)]
        refine Ev.itep (by rw [size_strN]; omega) ?_
        rw [Int.toNat_natCast, ext_drop l hl]
        exact Ev.bindc (write_ok acc _ _ (by omega)) (Ev.some rfl)
      · rw [if_pos (show l.drop i = [] from List.drop_of_length_le (by omega))]
        exact Ev.iten (by rw [size_strN]; omega) (Ev.some (by simp))

/-! ### a name and what it tells -/
theorem nm_low (t : List Nat) : ∀ x ∈ nmN t, lowN x = true := by
  induction t with
  | nil => intro x hx; simp [nmN] at hx
  | cons b t ih =>
    intro x hx
    by_cases hb : lowN b = true
    · rw [nmN, List.takeWhile_cons_of_pos hb, List.mem_cons] at hx
      rcases hx with rfl | hx
      · exact hb
      · exact ih x hx
    · rw [nmN, List.takeWhile_cons_of_neg hb] at hx
      simp at hx
theorem nm_split (t : List Nat) : t = nmN t ++ t.drop (nmN t).length ∧ (∀ x ∈ nmN t, x ≠ 93) ∧ (nmN t).length ≤ t.length := by
  have h := List.takeWhile_append_dropWhile (p := lowN) (l := t)
  have hle : (nmN t).length ≤ t.length := (List.takeWhile_sublist (l := t) lowN).length_le
  refine ⟨?_, ?_, hle⟩
  · have : t.drop (nmN t).length = t.dropWhile lowN := by
      conv => lhs; rhs; rw [← h]
      exact List.drop_left
    rw [this]; exact h.symm
  · intro x hx e
    have : lowN x = true := nm_low t x hx
    rw [e] at this
    exact absurd this (by decide)
theorem nm_next (t : List Nat) (u : Nat) (U : List Nat) (h : t.drop (nmN t).length = u :: U) : lowN u = false := by
  induction t with
  | nil => simp [nmN] at h
  | cons b t ih =>
    by_cases hb : lowN b = true
    · rw [nmN, List.takeWhile_cons_of_pos hb, List.length_cons, List.drop_succ_cons] at h
      exact ih h
    · rw [nmN, List.takeWhile_cons_of_neg hb] at h
      simp at h
      rw [← h.1]
      rw [Bool.not_eq_true] at hb
      exact hb
theorem nm_app (a U : List Nat) (ha : ∀ x ∈ a, lowN x = true) (hU : ∀ u r, U = u :: r → lowN u = false) : nmN (a ++ U) = a := by
  induction a with
  | nil =>
    cases U with
    | nil => rfl
    | cons u r =>
      have := hU u r rfl
      rw [List.nil_append, nmN, List.takeWhile_cons_of_neg (by rw [this]; decide)]
  | cons b a ih =>
    rw [List.cons_append, nmN, List.takeWhile_cons_of_pos (ha b (by simp))]
    exact congrArg _ (ih (fun x hx => ha x (by simp [hx])))
theorem in_app (a U : List Nat) (ha : ∀ x ∈ a, x ≠ 93) : inN (a ++ U) = a ++ inN U ∧ reN (a ++ U) = reN U ∧ hasN (a ++ U) = hasN U := by
  induction a with
  | nil => exact ⟨rfl, rfl, rfl⟩
  | cons b a ih =>
    have hb := ha b (by simp)
    obtain ⟨h1, h2, h3⟩ := ih (fun x hx => ha x (by simp [hx]))
    rw [List.cons_append, inN_cons _ _ hb, reN_cons _ _ hb, hasN_cons _ _ hb, h1]
    exact ⟨rfl, h2, h3⟩
/-- Is the first closing bracket the last byte? -/
def endB : List Nat → Bool
  | [] => false
  | x :: r => if x = 93 then decide (r = []) else endB r
theorem endB_eq (U : List Nat) : endB U = (hasN U && decide (reN U = [])) := by
  induction U with
  | nil => rfl
  | cons b U ih =>
    rw [endB]
    by_cases hb : b = 93
    · subst hb; rw [if_pos rfl, hasN_93, reN_93, Bool.true_and]
    · rw [if_neg hb, hasN_cons _ _ hb, reN_cons _ _ hb]; exact ih
theorem endB_last (U : List Nat) (h : endB U = true) : U = inN U ++ [93] := by
  rw [endB_eq, Bool.and_eq_true, decide_eq_true_iff] at h
  have := (split_in U h.1).1
  rwa [h.2] at this
/-- What the note is, of what stands behind the opening bracket. -/
def noteS (t : List Nat) : List Pc × Bool :=
  if nmN t ≠ [] ∧ (nmN t).length < t.length ∧ t.getD (nmN t).length 0 = 58 ∧ endB (t.drop (nmN t).length) = true then ([mk ([91] ++ (nmN t ++ [58])), (false, strN (nmN t), strN ((inN t).drop ((nmN t).length + 1))), mk [93]], true) else ([], false)
theorem noteS_eq (t : List Nat) : noteS t = if hasN t = true then noteP (inN t) (reN t) else ([], false) := by
  obtain ⟨h1, h2, h3⟩ := nm_split t
  have h4 := nm_next t
  have h5 := nm_low t
  unfold noteS
  generalize hU : t.drop (nmN t).length = U at h1 h4 ⊢
  generalize hnm : nmN t = nm at h1 h2 h3 h5 hU ⊢
  subst h1
  obtain ⟨a1, a2, a3⟩ := in_app nm U h2
  have hg : (nm ++ U).getD nm.length 0 = U.getD 0 0 := by
    rw [List.getD_eq_getElem?_getD, List.getD_eq_getElem?_getD, List.getElem?_append_right (Nat.le_refl _), Nat.sub_self]
  rw [a1, a2, a3, hg]
  have hl : (nm ++ U).length = nm.length + U.length := List.length_append
  rw [hl]
  cases U with
  | nil =>
    rw [if_neg (fun e => by have := e.2.1; simp at this), if_neg (by decide)]
  | cons u U =>
    have hu := h4 u U rfl
    by_cases hb : u = 93
    · subst hb
      rw [if_neg (fun e => absurd e.2.2.1 (by simp)), inN_93, reN_93, hasN_93, if_pos rfl, List.append_nil]
      unfold noteP
      rw [if_neg]
      intro e
      have := e.2.1
      have h6 := nm_app nm [] h5 (fun u r h => by simp at h)
      rw [List.append_nil] at h6
      rw [h6] at this
      omega
    · rw [inN_cons _ _ hb, reN_cons _ _ hb, hasN_cons _ _ hb, endB, if_neg hb, endB_eq]
      have h6 : nmN (nm ++ u :: inN U) = nm := nm_app nm _ h5 (fun u' r h => by injection h with h _; rw [← h]; exact hu)
      by_cases hh : hasN U = true
      · rw [if_pos hh, hh, Bool.true_and]
        unfold noteP
        rw [h6]
        have hl2 : (nm ++ u :: inN U).length = nm.length + ((inN U).length + 1) := by rw [List.length_append, List.length_cons]
        have hg2 : (nm ++ u :: inN U).getD nm.length 0 = u := by
          rw [List.getD_eq_getElem?_getD, List.getElem?_append_right (Nat.le_refl _), Nat.sub_self]; rfl
        rw [hl2, hg2]
        by_cases hc : nm ≠ [] ∧ u = 58 ∧ reN U = []
        · rw [if_pos ⟨hc.1, by rw [List.length_cons]; omega, hc.2.1, decide_eq_true hc.2.2⟩, if_pos ⟨hc.1, by omega, hc.2.1, hc.2.2⟩]
        · rw [if_neg (fun e => hc ⟨e.1, e.2.2.1, of_decide_eq_true e.2.2.2⟩), if_neg (fun e => hc ⟨e.1, e.2.2.1, e.2.2.2⟩)]
      · rw [if_neg hh]
        rw [Bool.not_eq_true] at hh
        rw [hh, Bool.false_and, if_neg (fun e => absurd e.2.2.2 (by decide))]
theorem rnot (l : List Nat) (acc : List S50) (n : Int) : Ev (fun k => diacriticref26_Pieces.j3 k (strN l) acc n true) (([] : List S50), false) :=
  Ev.step (fun k => by rw [diacriticref26_Pieces.j3]) (Ev.itep rfl (Ev.some rfl))
/-- What the document tells of '[' t, n the colon's place, if the closing bracket is the last byte. -/
def rnote (l : List Nat) (n : Nat) (b : Bool) : List S50 × Bool :=
  if b = true then ([mk (l.take (n + 1)), (false, strN ((l.drop 1).take (n - 1)), strN ((l.drop (n + 1)).take (l.length - 1 - (n + 1)))), mk [93]].map toQ, true) else ([], false)
theorem scan_loop (l : List Nat) (hl : ∀ x ∈ l, x < 256) (hz : l.length ≤ 1000000) (n : Nat) (hn : 1 ≤ n) (hn2 : n < l.length) (h58 : l[n] = 58) : ∀ (d i : Nat), i + d = l.length → n ≤ i →
    Ev (fun k => diacriticref26_Pieces.l2 k (strN l) ([] : List S50) (n : Int) (i : Int)) (rnote l n (if i = l.length then decide (l[l.length - 1] = 93) else endB (l.drop i)))
  | 0, i, hi, hni => by
    have hlt : l.length - 1 < l.length := by omega
    have hb := bt_strN l hl (l.length - 1) hlt
    have w1 : wrap64 (((strN l).size : Int) - 1) = ((l.length - 1 : Nat) : Int) := by rw [size_strN, w64 (by omega)]; omega
    have w2 : wrap64 ((n : Int) + 1) = ((n + 1 : Nat) : Int) := by rw [w64 (by omega)]; omega
    refine Ev.step (fun k => by rw [diacriticref26_Pieces.l2]) (Ev.iten (by rw [size_strN]; omega) ?_)
    rw [w1, w2, hb, if_pos (show i = l.length by omega)]
    refine Ev.itep (by omega) (Ev.itep (by rw [size_strN]; omega) ?_)
    by_cases c : l[l.length - 1] = 93
    · have hne : n ≠ l.length - 1 := by
        intro e
        subst e
        omega
      rw [decide_eq_true c]
      refine Ev.itep (by omega) (Ev.itep (by omega) (Ev.itep (by rw [size_strN]; omega) ?_))
      rw [Int.toNat_natCast, Int.toNat_natCast, Int.toNat_natCast, ext_strN l hl, ext_strN l hl, ext_strN l hl, List.drop_zero, Nat.sub_zero]
      refine Ev.bindc (put_ok _ _ (by simp)) (Ev.itep (by omega) (Ev.itep (by rw [size_strN]; omega) (Ev.itep (by omega) (Ev.itep (by rw [size_strN]; omega) ?_))))
      refine Ev.bindc (write_ok _ _ _ (by simp)) (Ev.bindc (put_ok _ [93] (by simp)) (Ev.some ?_))
      unfold rnote
      rw [if_pos rfl]; rfl
    · rw [decide_eq_false c]
      exact Ev.iten (by omega) (Ev.some (by unfold rnote; rw [if_neg (by decide)]))
  | d + 1, i, hi, hni => by
    have hlt : i < l.length := by omega
    have hb := bt_strN l hl i hlt
    have hd := List.drop_eq_getElem_cons hlt
    have w1 : wrap64 (((strN l).size : Int) - 1) = ((l.length - 1 : Nat) : Int) := by rw [size_strN, w64 (by omega)]; omega
    have w2 : wrap64 ((i : Int) + 1) = ((i + 1 : Nat) : Int) := by rw [w64 (by omega)]; omega
    have ih := scan_loop l hl hz n hn hn2 h58 d (i + 1) (by omega) (by omega)
    refine Ev.step (fun k => by rw [diacriticref26_Pieces.l2]) (Ev.itep (by rw [size_strN]; omega) (Ev.itep (by omega) ?_))
    rw [hb, w1, w2, if_neg (show ¬ i = l.length by omega), hd, endB]
    by_cases c : l[i] = 93
    · refine Ev.itep (by omega) ?_
      rw [if_pos c]
      by_cases e : i = l.length - 1
      · subst e
        have e0 : l.drop (l.length - 1 + 1) = [] := List.drop_of_length_le (by omega)
        rw [e0, decide_eq_true rfl]
        refine Ev.iten (by omega) ?_
        rw [if_pos (by omega), decide_eq_true c] at ih
        exact ih
      · have e0 : ¬ l.drop (i + 1) = [] := fun h => by have := congrArg List.length h; rw [List.length_drop] at this; simp at this; omega
        rw [decide_eq_false e0]
        exact Ev.itep (by omega) (Ev.some (by unfold rnote; rw [if_neg (by decide)]))
    · refine Ev.iten (by omega) ?_
      rw [if_neg c]
      by_cases e : i + 1 = l.length
      · have e0 : l.drop (i + 1) = [] := List.drop_of_length_le (by omega)
        have e1 : l.length - 1 = i := by omega
        have e2 : ¬ l[l.length - 1] = 93 := by simpa only [e1] using c
        rw [if_pos e, decide_eq_false e2] at ih
        rw [e0]
        exact ih
      · rw [if_neg e] at ih
        exact ih
theorem colon_ev (l : List Nat) (hl : ∀ x ∈ l, x < 256) (hz : l.length ≤ 1000000) (h0 : 0 < l.length) (n : Nat) (h91 : l[0] = 91) :
    Ev (fun k => diacriticref26_Pieces.j2 k (strN l) ([] : List S50) (n : Int)) (rnote l n (decide (2 ≤ n ∧ n < l.length ∧ l.getD n 0 = 58 ∧ endB (l.drop n) = true))) := by
  have hb := bt_strN l hl 0 h0
  have no : ¬ (2 ≤ n ∧ n < l.length ∧ l.getD n 0 = 58 ∧ endB (l.drop n) = true) → Ev (fun k => diacriticref26_Pieces.j3 k (strN l) ([] : List S50) (n : Int) true) (rnote l n (decide (2 ≤ n ∧ n < l.length ∧ l.getD n 0 = 58 ∧ endB (l.drop n) = true))) := by
    intro h
    rw [decide_eq_false h]
    exact Ev.eq (rnot l _ _) (by unfold rnote; rw [if_neg (by decide)])
  refine Ev.step (fun k => by rw [diacriticref26_Pieces.j2]) (Ev.itep (by rw [size_strN]; omega) ?_)
  have hb' : bt (strN l) 0 = 91 := by
    have hb2 : bt (strN l) 0 = ((l[0] : Nat) : Int) := hb
    rw [hb2, h91]; rfl
  refine Ev.itep hb' ?_
  by_cases c1 : n < 2
  · exact Ev.itep (by omega) (no (by omega))
  · refine Ev.iten (by omega) ?_
    by_cases c2 : n < l.length
    · refine Ev.iten (by rw [size_strN]; omega) (Ev.itep (by omega) (Ev.itep (by rw [size_strN]; omega) ?_))
      have hg : l.getD n 0 = l[n] := by rw [List.getD_eq_getElem?_getD, List.getElem?_eq_getElem c2]; rfl
      rw [bt_strN l hl n c2]
      by_cases c3 : l[n] = 58
      · have e3 : (((l[n] : Nat) : Int) != 58) = false := by rw [c3]; rfl
        rw [e3]
        refine Ev.step (fun k => by rw [diacriticref26_Pieces.j3]) (Ev.iten (by decide) ?_)
        refine Ev.eq (scan_loop l hl hz n (by omega) c2 c3 (l.length - n) n (by omega) (Nat.le_refl _)) ?_
        rw [if_neg (show ¬ n = l.length by omega)]
        congr 1
        rw [Bool.eq_iff_iff, decide_eq_true_iff]
        exact ⟨fun h => ⟨by omega, c2, by rw [hg]; exact c3, h⟩, fun h => h.2.2.2⟩
      · have e3 : (((l[n] : Nat) : Int) != 58) = true := by rw [bne_iff_ne]; omega
        rw [e3]
        exact no (fun h => c3 (by rw [← hg]; exact h.2.2.1))
    · exact Ev.itep (by rw [size_strN]; omega) (no (by omega))
theorem rletters_loop (l : List Nat) (hl : ∀ x ∈ l, x < 256) (hz : l.length ≤ 1000000) (r : List S50 × Bool) : ∀ (d i : Nat), i + d = l.length →
    Ev (fun k => diacriticref26_Pieces.j2 k (strN l) ([] : List S50) ((i + (nmN (l.drop i)).length : Nat) : Int)) r →
    Ev (fun k => diacriticref26_Pieces.l1 k (strN l) ([] : List S50) (i : Int)) r
  | 0, i, hi, h => by
    refine Ev.step (fun k => by rw [diacriticref26_Pieces.l1]) (Ev.iten (by rw [size_strN]; omega) ?_)
    rw [List.drop_of_length_le (by omega)] at h
    exact h
  | d + 1, i, hi, h => by
    have hlt : i < l.length := by omega
    have hb := bt_strN l hl i hlt
    have hd := List.drop_eq_getElem_cons hlt
    have w1 : wrap64 ((i : Int) + 1) = ((i + 1 : Nat) : Int) := by rw [w64 (by omega)]; omega
    refine Ev.step (fun k => by rw [diacriticref26_Pieces.l1]) (Ev.itep (by rw [size_strN]; omega) (Ev.itep (by omega) ?_))
    rw [hb, w1]
    rw [hd] at h
    by_cases c1 : l[i] ≥ 97
    · refine Ev.itep (by omega) ?_
      by_cases c2 : l[i] ≤ 122
      · have hlow : lowN l[i] = true := by simp [lowN, c2]; omega
        refine Ev.itep (by omega) (rletters_loop l hl hz r d (i + 1) (by omega) ?_)
        rw [nmN, List.takeWhile_cons_of_pos hlow, List.length_cons] at h
        rw [show i + 1 + (nmN (l.drop (i + 1))).length = i + ((nmN (l.drop (i + 1))).length + 1) by omega]
        exact h
      · have hlow : ¬ lowN l[i] = true := by simp [lowN]; omega
        rw [nmN, List.takeWhile_cons_of_neg hlow] at h
        exact Ev.iten (by omega) h
    · have hlow : ¬ lowN l[i] = true := by simp [lowN]; omega
      rw [nmN, List.takeWhile_cons_of_neg hlow] at h
      exact Ev.iten (by omega) h

end Go.Proofs.Ytbndilnbfclmbaa.Pl
