/- A song's line: the program's and the document's pieces are the same; whole they are the line. -/
import Derived.Test.YtbndilnbfclmbaaPAllx0
import Derived.Test.YtbndilnbfclmbaaPAllx19
import Derived.Test.YtbndilnbfclmbaaPAllx20
import Derived.Test.YtbndilnbfclmbaaPAllx21
import Derived.Test.YtbndilnbfclmbaaLlrc3
namespace Go.Proofs.Ytbndilnbfclmbaa.Pl
open Go.RowKit Go.Proofs.Ytbndilnbfclmbaa.PAll Go.Proofs.YtbndilnbfclmbaaW.PrintWords Go.Proofs.YtbndilnbfclmbaaW.PrintLast Go.Proofs.YtbndilnbfclmbaaW.PrintMore
set_option linter.unusedVariables false
set_option linter.unusedSimpArgs false

theorem note_parts (t : List Nat) (h : nmN t ≠ [] ∧ (nmN t).length < t.length ∧ t.getD (nmN t).length 0 = 58 ∧ endB (t.drop (nmN t).length) = true) :
    ∃ V, t = nmN t ++ 58 :: (V ++ [93]) ∧ inN t = nmN t ++ 58 :: V := by
  obtain ⟨h1, h2, h3⟩ := nm_split t
  obtain ⟨a, b, c, e⟩ := h
  generalize hU : t.drop (nmN t).length = U at h1 e
  generalize hnm : nmN t = nm at h1 h2 h3 a b c hU ⊢
  subst h1
  have hl := endB_last U e
  obtain ⟨a1, a2, a3⟩ := in_app nm U h2
  have hg : (nm ++ U).getD nm.length 0 = U.getD 0 0 := by
    rw [List.getD_eq_getElem?_getD, List.getD_eq_getElem?_getD, List.getElem?_append_right (Nat.le_refl _), Nat.sub_self]
  rw [hg] at c
  cases U with
  | nil => simp at c
  | cons u U =>
    have hu : u = 58 := c
    subst hu
    rw [inN_cons _ _ (by decide)] at hl a1
    refine ⟨inN U, ?_, a1⟩
    rw [List.cons_append] at hl
    injection hl with _ hl
    rw [← hl]
theorem rnote_eq (t : List Nat) (ht : t.length ≤ 1000000) : rnote (91 :: t) (1 + (nmN t).length) (decide (2 ≤ 1 + (nmN t).length ∧ 1 + (nmN t).length < (91 :: t).length ∧ (91 :: t).getD (1 + (nmN t).length) 0 = 58 ∧ endB ((91 :: t).drop (1 + (nmN t).length)) = true)) = ((noteS t).1.map toQ, (noteS t).2) := by
  have hp : 0 < (nmN t).length ↔ nmN t ≠ [] := List.length_pos_iff
  have hg : (91 :: t).getD (1 + (nmN t).length) 0 = t.getD (nmN t).length 0 := by
    rw [Nat.add_comm, List.getD_eq_getElem?_getD, List.getD_eq_getElem?_getD, List.getElem?_cons_succ]
  have hd : (91 :: t).drop (1 + (nmN t).length) = t.drop (nmN t).length := by rw [Nat.add_comm, List.drop_succ_cons]
  rw [hg, hd, List.length_cons]
  unfold noteS
  by_cases h : nmN t ≠ [] ∧ (nmN t).length < t.length ∧ t.getD (nmN t).length 0 = 58 ∧ endB (t.drop (nmN t).length) = true
  · have := hp.mpr h.1
    rw [if_pos h, decide_eq_true ⟨by omega, by omega, h.2.2⟩]
    unfold rnote
    rw [if_pos rfl]
    obtain ⟨V, e1, e2⟩ := note_parts t h
    have x1 : (91 :: t).take (1 + (nmN t).length + 1) = [91] ++ (nmN t ++ [58]) := by
      rw [show 1 + (nmN t).length + 1 = (nmN t ++ [58]).length + 1 by simp; omega, List.take_succ_cons]
      have : t = (nmN t ++ [58]) ++ (V ++ [93]) := by rw [List.append_assoc]; exact e1
      conv => lhs; rhs; rhs; rw [this]
      rw [List.take_left]; rfl
    have x2 : ((91 :: t).drop 1).take (1 + (nmN t).length - 1) = nmN t := by
      rw [List.drop_succ_cons, List.drop_zero, show 1 + (nmN t).length - 1 = (nmN t).length by omega]
      conv => lhs; rhs; rw [e1]
      rw [List.take_left]
    have x3 : ((91 :: t).drop (1 + (nmN t).length + 1)).take (t.length + 1 - 1 - (1 + (nmN t).length + 1)) = (inN t).drop ((nmN t).length + 1) := by
      have hl : t.length = (nmN t).length + (1 + (V.length + 1)) := by
        have := congrArg List.length e1
        simp only [List.length_append, List.length_cons, List.length_nil] at this
        omega
      rw [show 1 + (nmN t).length + 1 = (nmN t).length + 1 + 1 by omega, List.drop_succ_cons]
      have y1 : t.drop ((nmN t).length + 1) = V ++ [93] := by
        rw [← List.drop_drop]
        conv => lhs; rhs; rhs; rw [e1]
        rw [List.drop_left]; rfl
      have y2 : (inN t).drop ((nmN t).length + 1) = V := by
        rw [e2, ← List.drop_drop, List.drop_left]; rfl
      rw [y1, y2, show t.length + 1 - 1 - ((nmN t).length + 1 + 1) = V.length by omega, List.take_left]
    rw [List.length_cons, x1, x2, x3]
  · rw [if_neg h, decide_eq_false (fun e => h ⟨hp.mp (by omega), by omega, e.2.2⟩)]
    unfold rnote
    rw [if_neg (by decide)]; rfl
theorem rpieces_ev (l : List Nat) (hl : ∀ x ∈ l, x < 256) (hz : l.length ≤ 1000000) : Ev (fun k => diacriticref26_Pieces.f k (strN l)) ((pcs l).1.map toQ, (pcs l).2) := by
  unfold diacriticref26_Pieces.f pcs
  by_cases h0 : l = []
  · rw [if_pos h0]
    exact Ev.itep ((strN_nil l).mpr h0) (Ev.some rfl)
  · rw [if_neg h0]
    refine Ev.iten (fun e => h0 ((strN_nil l).mp e)) ?_
    by_cases ht : timeN l ≠ 0
    · rw [if_pos ht]
      exact rpieces_loop l hl hz (l.length + 1) 0 [] (Nat.zero_le _) (by omega) (.inr ht) (Nat.le_refl _)
    · rw [if_neg ht]
      have ht0 : timeN l = 0 := by omega
      have te : Ev (fun k => diacriticref26_time.f k ((strN l).extract ((0 : Int)).toNat (strN l).size)) ((timeN l : Nat) : Int) := by
        have := time_ev (strN l) (by rw [size_strN]; omega)
        rw [nats_strN hl] at this
        have e : (strN l).extract ((0 : Int)).toNat (strN l).size = strN l := ext_all _
        rw [e]
        exact this
      refine Ev.step (fun k => by rw [diacriticref26_Pieces.l0]) (Ev.itep (by omega) (Ev.itep (by omega) (Ev.bind te ?_)))
      rw [ht0]
      refine Ev.iten (by omega) (Ev.iten (by omega) ?_)
      cases l with
      | nil => exact absurd rfl h0
      | cons c t =>
        rw [List.length_cons] at hz
        refine rletters_loop (c :: t) hl (by rw [List.length_cons]; omega) _ t.length 1 (by rw [List.length_cons]; omega) ?_
        rw [List.drop_succ_cons, List.drop_zero]
        by_cases hc : c = 91
        · subst hc
          refine Ev.eq (colon_ev (91 :: t) hl (by rw [List.length_cons]; omega) (by simp) (1 + (nmN t).length) rfl) ?_
          rw [rnote_eq t (by omega), noteS_eq]
          have e : tg (91 :: t) = (inN t, reN t, hasN t) := rfl
          rw [e]
        · have e : tg (c :: t) = ([], [], false) := by simp [tg, hc]
          rw [e, if_neg (by decide)]
          have hb := bt_strN (c :: t) hl 0 (by simp)
          refine Ev.step (fun k => by rw [diacriticref26_Pieces.j2]) (Ev.itep (by rw [size_strN, List.length_cons]; omega) ?_)
          have hb2 : bt (strN (c :: t)) 0 = ((c : Nat) : Int) := hb
          rw [hb2]
          exact Ev.iten (by omega) (Ev.eq (rnot _ _ _) rfl)

/-! ### the same pieces -/
theorem same_loop (L : List Pc) (hL : L.length ≤ 100000000) : ∀ (d i : Nat), i + d = L.length → Ev (fun k => diacriticlaw22_Same.l0 k (L.map toQ) (L.map toP) ((L.map toP).length : Int) (i : Int)) true
  | 0, i, hi => Ev.step (fun k => by rw [diacriticlaw22_Same.l0]) (Ev.iten (by rw [List.length_map]; omega) (Ev.some rfl))
  | d + 1, i, hi => by
    have hlt : i < L.length := by omega
    have e1 : rd_T34 (L.map toP) (i : Int) = toP L[i] := by
      simp [rd_T34, List.getD_eq_getElem?_getD, List.getElem?_eq_getElem hlt]
    have e2 : rd_T50 (L.map toQ) (i : Int) = toQ L[i] := by
      simp [rd_T50, List.getD_eq_getElem?_getD, List.getElem?_eq_getElem hlt]
    refine Ev.step (fun k => by rw [diacriticlaw22_Same.l0]) ?_
    rw [e1, e2, show wrap64 ((i : Int) + 1) = ((i + 1 : Nat) : Int) by rw [w64 (by omega)]; omega]
    refine Ev.itep (by rw [List.length_map]; omega) (Ev.itep (by omega) (Ev.itep (by rw [List.length_map]; omega) (Ev.itep (by rw [List.length_map]; omega) ?_)))
    have hb : ((toP L[i]).f0 != (toQ L[i]).f0) = false := bne_self_eq_false _
    rw [hb]
    exact Ev.iten (by decide) (Ev.itep rfl (Ev.itep rfl (same_loop L hL d (i + 1) (by omega))))
theorem same_ev (L : List Pc) (hL : L.length ≤ 100000000) : Ev (fun k => diacriticlaw22_Same.f k (L.map toP) (L.map toQ)) true := by
  unfold diacriticlaw22_Same.f
  exact Ev.itep (by rw [List.length_map, List.length_map]) (same_loop L hL L.length 0 (by omega))
/-- The pieces' texts, one behind the other. -/
def txt (L : List Pc) : List Nat := (L.map fun x => nats x.2.2).flatten
theorem txt_app (a b : List Pc) : txt (a ++ b) = txt a ++ txt b := by simp [txt]
theorem cat_txt (L : List Pc) : cat ((L.map toP).map (·.f2)) = strN (txt L) := by
  have e : (L.map toP).map (·.f2) = (L.map fun x => nats x.2.2).map strN := by
    rw [List.map_map, List.map_map]
    apply List.map_congr_left
    intro x _
    exact (strN_nats _).symm
  rw [e, strN_cat]; rfl
theorem tms_txt : ∀ (d : Nat) (l : List Nat), (∀ x ∈ l, x < 256) → l.length < d → txt (tms d l) = l ∧ (tms d l).length ≤ l.length
  | 0, l, _, h => absurd h (Nat.not_lt_zero _)
  | d + 1, l, hl, h => by
    unfold tms
    by_cases ht : timeN l ≠ 0
    · rw [if_pos ht]
      obtain ⟨f1, f2, f3, f4, f5, f6⟩ := time_facts l hl ht
      obtain ⟨i1, i2⟩ := tms_txt d (l.drop (timeN l)) (fun x hx => hl x (List.mem_of_mem_drop hx)) (by rw [List.length_drop]; omega)
      rw [List.length_drop] at i2
      refine ⟨?_, by rw [List.length_cons]; omega⟩
      show nats (strN (l.take (timeN l))) ++ txt (tms d (l.drop (timeN l))) = l
      rw [nats_strN (fun x hx => hl x (List.mem_of_mem_take hx)), i1, List.take_append_drop]
    · rw [if_neg ht]
      by_cases h0 : l = []
      · rw [if_pos h0, h0]; exact ⟨rfl, Nat.le_refl _⟩
      · rw [if_neg h0]
        have := List.length_pos_iff.mpr h0
        refine ⟨?_, by simp; omega⟩
        show nats (strN l) ++ [] = l
        rw [nats_strN hl, List.append_nil]
theorem pcs_txt (l : List Nat) (hl : ∀ x ∈ l, x < 256) (h : (pcs l).2 = true) : txt (pcs l).1 = l ∧ (pcs l).1.length ≤ l.length + 3 := by
  unfold pcs at h ⊢
  by_cases h0 : l = []
  · rw [if_pos h0, h0]; exact ⟨rfl, by simp⟩
  · rw [if_neg h0] at h ⊢
    by_cases ht : timeN l ≠ 0
    · rw [if_pos ht]
      obtain ⟨a, b⟩ := tms_txt (l.length + 1) l hl (by omega)
      exact ⟨a, by simp only; omega⟩
    · rw [if_neg ht] at h ⊢
      by_cases h3 : (tg l).2.2 = true
      · rw [if_pos h3] at h ⊢
        cases l with
        | nil => exact absurd rfl h0
        | cons c t =>
          have hc : c = 91 := by
            refine Decidable.byContradiction fun hne => ?_
            simp [tg, hne] at h3
          subst hc
          have e : tg (91 :: t) = (inN t, reN t, hasN t) := rfl
          rw [e] at h h3 ⊢
          simp only at h h3 ⊢
          have key : noteP (inN t) (reN t) = noteS t := by rw [noteS_eq, if_pos h3]
          rw [key] at h ⊢
          unfold noteS at h ⊢
          by_cases hc : nmN t ≠ [] ∧ (nmN t).length < t.length ∧ t.getD (nmN t).length 0 = 58 ∧ endB (t.drop (nmN t).length) = true
          · rw [if_pos hc]
            obtain ⟨V, e1, e2⟩ := note_parts t hc
            refine ⟨?_, by simp⟩
            have y2 : (inN t).drop ((nmN t).length + 1) = V := by
              rw [e2, ← List.drop_drop, List.drop_left]; rfl
            rw [y2]
            have hV : ∀ x ∈ V, x < 256 := fun x hx => hl x (by rw [e1]; simp [hx])
            have hn : ∀ x ∈ nmN t, x < 256 := fun x hx => hl x (by rw [e1]; simp [hx])
            have m1 : ∀ x ∈ [91] ++ (nmN t ++ [58]), x < 256 := by
              intro x hx
              simp only [List.mem_append, List.mem_singleton] at hx
              rcases hx with rfl | h | rfl
              · decide
              · exact hn x h
              · decide
            show nats (strN ([91] ++ (nmN t ++ [58]))) ++ (nats (strN V) ++ (nats (strN [93]) ++ [])) = 91 :: t
            rw [nats_strN m1, nats_strN hV, nats_strN (by simp)]
            conv => rhs; rw [e1]
            simp
          · rw [if_neg hc] at h
            exact absurd h (by decide)
      · rw [if_neg h3] at h
        exact absurd h (by decide)

end Go.Proofs.Ytbndilnbfclmbaa.Pl
