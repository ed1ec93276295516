/- Blocks behind blocks: plain lemmas. -/

import Derived.Test.YtbndilnbfclmbaaLsrt3
namespace Go.Proofs.Ytbndilnbfclmbaa.Pl
open Go.RowKit Go.Proofs.Ytbndilnbfclmbaa.PAll Go.Proofs.YtbndilnbfclmbaaW.PrintWords Go.Proofs.YtbndilnbfclmbaaW.PrintLast Go.Proofs.YtbndilnbfclmbaaW.PrintMore
set_option linter.unusedVariables false
set_option linter.unusedSimpArgs false

/-- Of lines' texts alone: have they a form, the state behind them, how many numbers. -/
def wT : Nat → List ByteArray → Bool × Nat × Nat
  | x, [] => (true, x, 0)
  | x, s :: r => if (nextS x s).2.2 = true then ((wT (nextS x s).2.1 r).1, (wT (nextS x s).2.1 r).2.1, cntD (nextS x s).1 + (wT (nextS x s).2.1 r).2.2) else (false, 0, 0)
def texts (L : List Ln) : List ByteArray := L.map fun x => strN x.1
theorem wT_app : ∀ (A B : List ByteArray) (x : Nat), (wT x A).1 = true → wT x (A ++ B) = ((wT (wT x A).2.1 B).1, (wT (wT x A).2.1 B).2.1, (wT x A).2.2 + (wT (wT x A).2.1 B).2.2)
  | [], B, x, _ => by simp [wT]
  | s :: A, B, x, h => by
    rw [wT] at h
    by_cases c : (nextS x s).2.2 = true
    · rw [if_pos c] at h
      have ih := wT_app A B _ h
      rw [List.cons_append, wT, if_pos c, wT, if_pos c, ih]
      simp only [Nat.add_assoc]
    · rw [if_neg c] at h; simp at h
theorem walk_wT : ∀ (L : List Ln) (p x : Nat), Pl.Good L → ((walkS x (posL p L)).2.1 = -1 ↔ (wT x (texts L)).1 = true) ∧
    ((wT x (texts L)).1 = true → (walkS x (posL p L)).2.2 = (wT x (texts L)).2.1 ∧ cntD (walkS x (posL p L)).1 = (wT x (texts L)).2.2)
  | [], p, x, _ => by
    rw [posL, walkS]
    exact ⟨⟨fun _ => rfl, fun _ => rfl⟩, fun _ => ⟨rfl, rfl⟩⟩
  | y :: r, p, x, g => by
    obtain ⟨i1, i2⟩ := walk_wT r (p + y.1.length + y.2.length) (nextS x (strN y.1)).2.1 g.2.2
    have he := cnt_end (strN y.1, strN y.2, p) (end_not y.2 (flatL r) (by rcases g.2.1 with ⟨h, _, _⟩ | h; · exact .inr h
                                                                          · exact .inl h))
    have et : texts (y :: r) = strN y.1 :: texts r := rfl
    rw [posL, walkS, et, wT]
    by_cases c1 : (nextS x (strN y.1)).2.2 = true
    · rw [if_pos c1, if_pos c1]
      by_cases c2 : (walkS (nextS x (strN y.1)).2.1 (posL (p + y.1.length + y.2.length) r)).2.1 = -1
      · rw [if_pos c2]
        obtain ⟨j1, j2⟩ := i2 (i1.mp c2)
        refine ⟨⟨fun _ => i1.mp c2, fun _ => rfl⟩, fun _ => ⟨j1, ?_⟩⟩
        simp only [(cnt_app _ _).1, he.1, j2]
        omega
      · rw [if_neg c2]
        refine ⟨⟨fun h => absurd h c2, fun h => absurd (i1.mpr h) c2⟩, fun h => absurd (i1.mpr h) c2⟩
    · rw [if_neg c1, if_neg c1]
      refine ⟨⟨fun h => absurd h (by show ¬ ((p : Nat) : Int) = -1; omega), fun h => by simp at h⟩, fun h => by simp at h⟩
theorem parse_wT (s : ByteArray) (L : List Ln) (g : Pl.Good L) (hc : cut s = posL 0 L) : ((parseS s).2 = -1 ↔ ((wT 0 (texts L)).1 = true ∧ (wT 0 (texts L)).2.1 ≠ 1)) ∧ ((parseS s).2 = -1 → cntD (parseS s).1 = (wT 0 (texts L)).2.2) := by
  obtain ⟨i1, i2⟩ := walk_wT L 0 0 g
  unfold parseS
  rw [hc]
  by_cases c : (walkS 0 (posL 0 L)).2.1 = -1
  · rw [if_pos c]
    obtain ⟨j1, j2⟩ := i2 (i1.mp c)
    by_cases c1 : (walkS 0 (posL 0 L)).2.2 = 1
    · rw [if_pos c1]
      refine ⟨⟨fun h => absurd h (by show ¬ ((s.size : Nat) : Int) = -1; omega), fun h => absurd (j1 ▸ c1) h.2⟩, fun h => absurd h (by show ¬ ((s.size : Nat) : Int) = -1; omega)⟩
    · rw [if_neg c1]
      exact ⟨⟨fun _ => ⟨i1.mp c, j1 ▸ c1⟩, fun _ => rfl⟩, fun _ => j2⟩
  · rw [if_neg c]
    exact ⟨⟨fun h => absurd h c, fun h => absurd (i1.mpr h.1) c⟩, fun h => absurd h c⟩
theorem flat_ne {y : Ln} {r : List Ln} (g : Pl.Good (y :: r)) : flatL (y :: r) ≠ [] := by
  rw [flatL]
  intro h
  have h1 := (List.append_eq_nil_iff.mp h).1
  have h2 := (List.append_eq_nil_iff.mp (List.append_eq_nil_iff.mp h).2).1
  rcases g.2.1 with ⟨_, e, _⟩ | e | e | ⟨e, _⟩
  · exact e h1
  · rw [e] at h2; simp at h2
  · rw [e] at h2; simp at h2
  · rw [e] at h2; simp at h2
/-- Two ends behind good lines, and good lines behind them: one line that is empty, or two. -/
theorem good_join (Lb : List Ln) (gb : Pl.Good Lb) : ∀ (La : List Ln), Pl.Good La → ∃ Lt E, Pl.Good Lt ∧ flatL Lt = flatL La ++ ([10, 10] ++ flatL Lb) ∧ texts Lt = texts La ++ (E ++ texts Lb) ∧ (E = [strN []] ∨ E = [strN [], strN []])
  | [], _ => by
    refine ⟨([], [10]) :: ([], [10]) :: Lb, [strN [], strN []], ?_, ?_, rfl, .inr rfl⟩
    · exact ⟨fun x hx => by simp at hx, .inr (.inr (.inl rfl)), fun x hx => by simp at hx, .inr (.inr (.inl rfl)), gb⟩
    · simp [flatL]
  | [x], g => by
    obtain ⟨t, e⟩ := x
    have ht : noE t := g.1
    have n0 : noE ([] : List Nat) := fun x hx => by simp at hx
    have h := g.2.1
    simp only at h
    rcases h with ⟨rfl, _, _⟩ | rfl | rfl | ⟨rfl, _⟩
    · refine ⟨(t, [10]) :: ([], [10]) :: Lb, [strN []], ⟨ht, .inr (.inr (.inl rfl)), n0, .inr (.inr (.inl rfl)), gb⟩, by simp [flatL], rfl, .inl rfl⟩
    · refine ⟨(t, [13, 10]) :: ([], [10]) :: ([], [10]) :: Lb, [strN [], strN []], ⟨ht, .inr (.inl rfl), n0, .inr (.inr (.inl rfl)), n0, .inr (.inr (.inl rfl)), gb⟩, by simp [flatL], rfl, .inr rfl⟩
    · refine ⟨(t, [10]) :: ([], [10]) :: ([], [10]) :: Lb, [strN [], strN []], ⟨ht, .inr (.inr (.inl rfl)), n0, .inr (.inr (.inl rfl)), n0, .inr (.inr (.inl rfl)), gb⟩, by simp [flatL], rfl, .inr rfl⟩
    · refine ⟨(t, [13, 10]) :: ([], [10]) :: Lb, [strN []], ⟨ht, .inr (.inl rfl), n0, .inr (.inr (.inl rfl)), gb⟩, by simp [flatL], rfl, .inl rfl⟩
  | x :: y :: r, g => by
    obtain ⟨Lt, E, h1, h2, h3, h4⟩ := good_join Lb gb (y :: r) g.2.2
    have hne := flat_ne g.2.2
    refine ⟨x :: Lt, E, ⟨g.1, ?_, h1⟩, ?_, ?_, h4⟩
    · rcases g.2.1 with ⟨_, _, e⟩ | e | e | ⟨e, h10⟩
      · exact absurd e (by simp)
      · exact .inr (.inl e)
      · exact .inr (.inr (.inl e))
      · refine .inr (.inr (.inr ⟨e, ?_⟩))
        rw [h2, head_app hne]; exact h10
    · rw [show flatL (x :: Lt) = x.1 ++ (x.2 ++ flatL Lt) from rfl, h2, show flatL (x :: y :: r) = x.1 ++ (x.2 ++ flatL (y :: r)) from rfl]; simp only [List.append_assoc]
    · show strN x.1 :: texts Lt = _
      rw [h3]; rfl
theorem next_empty (x : Nat) (h : x ≠ 1) : nextS x (strN []) = ([], 0, true) := by
  unfold nextS
  have : (strN []).size = 0 := rfl
  rw [if_neg (by omega), if_pos ⟨h, this⟩]
theorem wT_empty (E : List ByteArray) (hE : E = [strN []] ∨ E = [strN [], strN []]) (x : Nat) (h : x ≠ 1) : wT x E = (true, 0, 0) := by
  rcases hE with rfl | rfl
  · rw [wT, next_empty x h]; rfl
  · rw [wT, next_empty x h]
    simp only [if_true]
    rw [wT, next_empty 0 (by decide)]; rfl
/-- Blocks, an empty line, blocks: they have a form, and the blocks of both. -/
theorem join_blocks (a b : ByteArray) (ha : (parseS a).2 = -1) (hb : (parseS b).2 = -1) : (parseS (a ++ (⟨#[10, 10]⟩ : ByteArray) ++ b)).2 = -1 ∧ cntD (parseS (a ++ (⟨#[10, 10]⟩ : ByteArray) ++ b)).1 = cntD (parseS a).1 + cntD (parseS b).1 := by
  obtain ⟨La, ga, ea, ca⟩ := cut_is a
  obtain ⟨Lb, gb, eb, cb⟩ := cut_is b
  obtain ⟨pa1, pa2⟩ := parse_wT a La ga ca
  obtain ⟨pb1, pb2⟩ := parse_wT b Lb gb cb
  obtain ⟨a1, a2⟩ := pa1.mp ha
  obtain ⟨b1, b2⟩ := pb1.mp hb
  obtain ⟨Lt, E, gt, et, tt, hE⟩ := good_join Lb gb La ga
  have es : a ++ (⟨#[10, 10]⟩ : ByteArray) ++ b = strN (flatL Lt) := by
    apply nats_inj
    rw [nats_strN]
    · rw [nats_app, nats_app, et, ea, eb, show nats (⟨#[10, 10]⟩ : ByteArray) = [10, 10] from rfl, List.append_assoc]
    · rw [et, ea, eb]
      exact byt_app (nats_lt a) (byt_app (fun x hx => by simp at hx; omega) (nats_lt b))
  have hbt : Byt (flatL Lt) := by
    rw [et, ea, eb]
    exact byt_app (nats_lt a) (byt_app (fun x hx => by simp at hx; omega) (nats_lt b))
  have ct := cut_good Lt gt hbt
  rw [← es] at ct
  obtain ⟨pt1, pt2⟩ := parse_wT _ Lt gt ct
  have hw : wT 0 (texts Lt) = (true, (wT 0 (texts Lb)).2.1, (wT 0 (texts La)).2.2 + (wT 0 (texts Lb)).2.2) := by
    rw [tt, wT_app _ _ 0 a1]
    have he := wT_empty E hE (wT 0 (texts La)).2.1 a2
    have h2 := wT_app E (texts Lb) (wT 0 (texts La)).2.1 (by rw [he])
    rw [h2, he]
    simp only [b1, Nat.zero_add]
  have ht : (parseS (a ++ (⟨#[10, 10]⟩ : ByteArray) ++ b)).2 = -1 := pt1.mpr (by rw [hw]; exact ⟨rfl, b2⟩)
  refine ⟨ht, ?_⟩
  rw [pt2 ht, hw, pa2 ha, pb2 hb]

end Go.Proofs.Ytbndilnbfclmbaa.Pl
