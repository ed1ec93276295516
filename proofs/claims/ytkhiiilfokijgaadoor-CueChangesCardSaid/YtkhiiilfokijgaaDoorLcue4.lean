/- A sheet's line in pieces: the line with another text in the place of its text. -/

import Derived.Test.YtkhiiilfokijgaaDoorLcue3
namespace Go.Proofs.YtkhiiilfokijgaaDoor.Pl
open Go.RowKit Go.Proofs.YtkhiiilfokijgaaDoor.PAll Go.Proofs.YtkhiiilfokijgaaDoorW.PrintWords Go.Proofs.YtkhiiilfokijgaaDoorW.PrintLast Go.Proofs.YtkhiiilfokijgaaDoorW.PrintMore
set_option linter.unusedVariables false
set_option linter.unusedSimpArgs false

def lowN (c : Nat) : Bool := decide (97 ≤ c) && decide (c ≤ 122)
theorem low_byte {a : List Nat} (h : ∀ x ∈ a, lowN x = true) : ∀ x ∈ a, 97 ≤ x ∧ x ≤ 122 := by
  intro x hx
  have := h x hx
  simpa [lowN] using this
theorem low_byt {a : List Nat} (h : ∀ x ∈ a, lowN x = true) : Byt a := fun x hx => by have := low_byte h x hx; omega
theorem low_noE {a : List Nat} (h : ∀ x ∈ a, lowN x = true) : noE a := fun x hx => by have := low_byte h x hx; omega
def chg (b : ByteArray) (x : Pc) : Pc := if x.1 = true then x else (x.1, x.2.1, b)
theorem chg_mk (b : ByteArray) (l : List Nat) : chg b (mk l) = mk l := by unfold chg mk; rw [if_pos rfl]
theorem chg_mks (b : ByteArray) (l : List Nat) : (mks l).map (chg b) = mks l := by
  unfold mks
  split
  · rfl
  · rw [List.map_cons, chg_mk]; rfl
theorem chg_text (b nm s : ByteArray) : chg b (false, nm, s) = (false, nm, b) := by unfold chg; rw [if_neg (by simp)]
theorem tw_all {α : Type} (p : α → Bool) (l : List α) : ∀ x ∈ l.takeWhile p, p x = true := by
  induction l with
  | nil => intro x hx; simp at hx
  | cons c l ih =>
    intro x hx
    rw [List.takeWhile_cons] at hx
    split at hx
    · rename_i hc
      rcases List.mem_cons.mp hx with rfl | hx
      · exact hc
      · exact ih x hx
    · simp at hx
theorem tw_app {α : Type} (p : α → Bool) (i r : List α) (hi : ∀ x ∈ i, p x = true) (hr : ∀ c t, r = c :: t → p c = false) : (i ++ r).takeWhile p = i ∧ (i ++ r).dropWhile p = r := by
  induction i with
  | nil =>
    cases r with
    | nil => exact ⟨rfl, rfl⟩
    | cons c t =>
      have := hr c t rfl
      simp [this]
  | cons c i ih =>
    have hc := hi c (by simp)
    obtain ⟨h1, h2⟩ := ih (fun x hx => hi x (by simp [hx]))
    rw [List.cons_append, List.takeWhile_cons, List.dropWhile_cons, hc]
    simp only [if_true]
    exact ⟨by rw [h1], h2⟩
theorem cap_not_blank (c : Nat) (h : cpN c = true) : blN c = false := by
  have := (cap_iff c).mp h
  simp [blN]; omega
theorem cut_of (I W R : List Nat) (hI : ∀ x ∈ I, blN x = true) (hW : ∀ x ∈ W, cpN x = true) (w0 : W ≠ []) (hR : ∀ c t, R = c :: t → cpN c = false) :
    indN (I ++ (W ++ R)) = I ∧ wrdN (I ++ (W ++ R)) = W ∧ rstN (I ++ (W ++ R)) = R := by
  have h1 := tw_app blN I (W ++ R) hI (by
    intro c t e
    cases W with
    | nil => exact absurd rfl w0
    | cons d W =>
      rw [List.cons_append, List.cons.injEq] at e
      rw [← e.1]
      exact cap_not_blank d (hW d (by simp)))
  have h2 := tw_app cpN W R hW hR
  refine ⟨h1.1, ?_, ?_⟩
  · unfold wrdN aftN; rw [h1.2]; exact h2.1
  · unfold rstN aftN; rw [h1.2]; exact h2.2
theorem low_count {b : List Nat} (hb : ∀ x ∈ b, lowN x = true) : b.count 34 = 0 := by
  rw [List.count_eq_zero]
  intro h
  have := low_byte hb 34 h
  omega
section
variable (b : List Nat) (hb : ∀ x ∈ b, lowN x = true) (b0 : b ≠ [])
include hb b0
theorem valC_chg (fr : List Nat) (nm : ByteArray) (s be : List Nat) (hf : Byt fr) (hs : Byt s) (hbe : Byt be) (h : (valC fr nm s be).2 = true) :
    ∃ s', txt ((valC fr nm s be).1.map (chg (strN b))) = fr ++ (s' ++ be) ∧ valC fr nm s' be = ((valC fr nm s be).1.map (chg (strN b)), true) ∧ Byt s' ∧ noE s' ∧ s' ≠ [] ∧ s'.length ≤ s.length + b.length := by
  have bl := List.length_pos_iff.mpr b0
  have e : ∀ s', valC fr nm s' be = ((valC fr nm s be).1.map (chg (strN b)), true) → Byt s' → txt ((valC fr nm s be).1.map (chg (strN b))) = fr ++ (s' ++ be) := by
    intro s' h1 h2
    have := (valC_txt fr nm s' be hf h2 hbe (by rw [h1])).1
    rw [h1] at this
    exact this
  by_cases c0 : s.count 34 = 0
  · by_cases n0 : s = []
    · unfold valC at h
      rw [if_pos c0, if_pos n0] at h; exact absurd h (by simp)
    · have v1 : valC fr nm s be = ([mk fr, (false, nm, strN s)] ++ mks be, true) := by unfold valC; rw [if_pos c0, if_neg n0]
      have v2 : valC fr nm b be = ((valC fr nm s be).1.map (chg (strN b)), true) := by
        rw [v1]
        unfold valC
        rw [if_pos (low_count hb), if_neg b0, List.map_append, chg_mks, List.map_cons, List.map_cons, List.map_nil, chg_mk, chg_text]
      exact ⟨b, e b v2 (low_byt hb), v2, low_byt hb, low_noE hb, b0, by omega⟩
  · by_cases c2 : s.count 34 = 2 ∧ s.getD 0 0 = 34 ∧ s.getD (s.length - 1) 0 = 34
    · have v1 : valC fr nm s be = ([mk (fr ++ [34]), (false, nm, strN ((s.drop 1).take (s.length - 2))), mk ([34] ++ be)], true) := by unfold valC; rw [if_neg c0, if_pos c2]
      have hl := congrArg List.length (quoted s c2.1 c2.2.1 c2.2.2).1
      simp only [List.length_cons, List.length_append, List.length_nil] at hl
      have hbt : Byt (34 :: (b ++ [34])) := by
        intro x hx
        simp only [List.mem_cons, List.mem_append, List.not_mem_nil, or_false] at hx
        rcases hx with hx | hx | hx
        · omega
        · exact low_byt hb x hx
        · omega
      have hne : noE (34 :: (b ++ [34])) := by
        intro x hx
        simp only [List.mem_cons, List.mem_append, List.not_mem_nil, or_false] at hx
        rcases hx with hx | hx | hx
        · omega
        · exact low_noE hb x hx
        · omega
      have cc : (34 :: (b ++ [34])).count 34 = 2 := by
        have := low_count hb
        rw [List.count_cons, List.count_append, this]; rfl
      have v2 : valC fr nm (34 :: (b ++ [34])) be = ((valC fr nm s be).1.map (chg (strN b)), true) := by
        rw [v1]
        unfold valC
        rw [if_neg (by rw [cc]; decide), if_pos]
        · rw [List.map_cons, List.map_cons, List.map_cons, List.map_nil, chg_mk, chg_mk, chg_text]
          have el : (34 :: (b ++ [34])).length - 2 = b.length := by simp
          rw [el, List.drop_succ_cons, List.drop_zero, List.take_left]
        · refine ⟨cc, rfl, ?_⟩
          have el : (34 :: (b ++ [34])).length - 1 = b.length + 1 := by simp
          rw [el]
          simp [List.getD_eq_getElem?_getD]
      exact ⟨_, e _ v2 hbt, v2, hbt, hne, by simp, by simp only [List.length_cons, List.length_append, List.length_nil]; omega⟩
    · unfold valC at h
      rw [if_neg c0, if_neg c2] at h; exact absurd h (by simp)
theorem fileC_chg (fr a : List Nat) (hf : Byt fr) (ha : Byt a) (h : (fileC fr a).2 = true) :
    ∃ a', txt ((fileC fr a).1.map (chg (strN b))) = fr ++ a' ∧ fileC fr a' = ((fileC fr a).1.map (chg (strN b)), true) ∧ Byt a' ∧ (noE a → noE a') ∧ a' ≠ [] ∧ a'.length ≤ a.length + b.length := by
  rcases last_spec a ha with ⟨h1, _⟩ | ⟨u, k, h1, h2, h3⟩
  · unfold fileC at h
    rw [h1, if_pos (by decide)] at h; exact absurd h (by simp)
  · have e1 : a.take u.length = u := by rw [h1, List.take_left]
    have e2 : a.drop u.length = 32 :: k := by rw [h1, List.drop_left]
    have e3 : a.drop (u.length + 1) = k := by rw [← List.drop_drop, e2]; rfl
    have hal : a.length = u.length + (k.length + 1) := by rw [h1]; simp
    have hk : Byt (32 :: k) := fun x hx => ha x (by rw [h1]; simp at hx ⊢; rcases hx with h | h <;> simp [h])
    have hu : Byt u := fun x hx => ha x (by rw [h1]; simp [hx])
    by_cases c1 : capsB (strN k) = true
    · have v1 : fileC fr a = valC fr fileW u (32 :: k) := by
        unfold fileC
        rw [h2, Int.toNat_natCast, if_neg (by omega), e3, if_pos c1, e1, e2]
      rw [v1] at h ⊢
      obtain ⟨s', t1, t2, t3, t4, t5, t6⟩ := valC_chg b hb b0 fr fileW u (32 :: k) hf hu hk h
      have hb' : Byt (s' ++ 32 :: k) := byt_app t3 hk
      have hl' := last_of hb' h3
      refine ⟨s' ++ 32 :: k, t1, ?_, hb', ?_, by simp, by rw [List.length_append, List.length_cons]; omega⟩
      · unfold fileC
        rw [hl', Int.toNat_natCast, if_neg (by omega), ← List.drop_drop, List.drop_left, List.take_left]
        rw [show (32 :: k).drop 1 = k from rfl, if_pos c1]
        exact t2
      · intro hn x hx
        rw [List.mem_append] at hx
        rcases hx with hx | hx
        · exact t4 x hx
        · exact hn x (by rw [h1]; simp at hx ⊢; rcases hx with h | h <;> simp [h])
    · unfold fileC at h
      rw [h2, Int.toNat_natCast, if_neg (by omega), e3, if_neg c1] at h; exact absurd h (by simp)
theorem pcs_chg (l : List Nat) (hl : Byt l) (h : (pcs l).2 = true) :
    Byt (txt ((pcs l).1.map (chg (strN b)))) ∧ (noE l → noE (txt ((pcs l).1.map (chg (strN b))))) ∧ (txt ((pcs l).1.map (chg (strN b))) = [] ↔ l = []) ∧ (txt ((pcs l).1.map (chg (strN b)))).length ≤ l.length + b.length ∧
    pcs (txt ((pcs l).1.map (chg (strN b)))) = ((pcs l).1.map (chg (strN b)), true) := by
  have hp := cut_parts l
  have bi := byt_ind hl
  have bw := byt_wrd hl
  have br := byt_rst hl
  have hI : ∀ x ∈ indN l, blN x = true := tw_all blN l
  have hW : ∀ x ∈ wrdN l, cpN x = true := tw_all cpN _
  -- lines without a text of somebody's
  have same : (pcs l).1.map (chg (strN b)) = (pcs l).1 → Byt (txt ((pcs l).1.map (chg (strN b)))) ∧ (noE l → noE (txt ((pcs l).1.map (chg (strN b))))) ∧ (txt ((pcs l).1.map (chg (strN b))) = [] ↔ l = []) ∧ (txt ((pcs l).1.map (chg (strN b)))).length ≤ l.length + b.length ∧
      pcs (txt ((pcs l).1.map (chg (strN b)))) = ((pcs l).1.map (chg (strN b)), true) := by
    intro e
    rw [e, (pcs_txt l hl h).1]
    exact ⟨hl, fun x => x, Iff.rfl, by omega, by rw [← h]⟩
  by_cases w0 : wrdN l = []
  · refine same ?_
    have hq := h
    unfold pcs at hq ⊢
    rw [if_pos w0] at hq ⊢
    by_cases r0 : rstN l = []
    · rw [if_pos r0]; exact chg_mks _ _
    · rw [if_neg r0] at hq; exact absurd hq (by simp)
  by_cases g : rstN l ≠ [] ∧ (rstN l).getD 0 0 ≠ 32
  · unfold pcs at h
    rw [if_neg w0, if_pos g] at h; exact absurd h (by simp)
  by_cases r0 : rstN l = []
  · by_cases c1 : wrdN l = remN
    · refine same ?_
      unfold pcs
      rw [if_neg w0, if_neg g, if_pos c1, if_pos r0]; exact chg_mks _ _
    · unfold pcs at h
      rw [if_neg w0, if_neg g, if_neg c1, if_pos r0] at h; exact absurd h (by simp)
  have hr := rst_head r0 g
  have ba : Byt ((rstN l).drop 1) := fun x hx => br x (List.mem_of_mem_drop hx)
  have bfr : Byt (indN l ++ (wrdN l ++ [32])) := by
    intro x hx
    rw [List.mem_append, List.mem_append] at hx
    rcases hx with hx | hx | hx
    · exact bi x hx
    · exact bw x hx
    · simp at hx; omega
  have hl2 : l = indN l ++ (wrdN l ++ [32]) ++ (rstN l).drop 1 := by
    conv => lhs; rw [hp, hr]
    simp
  have l0 : l ≠ [] := by rw [hl2]; simp
  have nfr : noE l → noE (indN l ++ (wrdN l ++ [32])) := fun hn x hx => hn x (by rw [hl2]; exact List.mem_append_left _ hx)
  have nar : noE l → noE ((rstN l).drop 1) := fun hn x hx => hn x (by rw [hl2]; exact List.mem_append_right _ hx)
  have hll : l.length = (indN l ++ (wrdN l ++ [32])).length + ((rstN l).drop 1).length := by
    conv => lhs; rw [hl2]
    rw [List.length_append]
  -- a line of the same front with another text
  have built : ∀ A' : List Nat, indN (indN l ++ (wrdN l ++ [32]) ++ A') = indN l ∧ wrdN (indN l ++ (wrdN l ++ [32]) ++ A') = wrdN l ∧ rstN (indN l ++ (wrdN l ++ [32]) ++ A') = 32 :: A' := by
    intro A'
    have := cut_of (indN l) (wrdN l) (32 :: A') hI hW w0 (by intro c t e; injection e with e; rw [← e]; decide)
    have e : indN l ++ (wrdN l ++ [32]) ++ A' = indN l ++ (wrdN l ++ 32 :: A') := by simp
    rw [e]; exact this
  have done : ∀ (A' : List Nat), txt ((pcs l).1.map (chg (strN b))) = indN l ++ (wrdN l ++ [32]) ++ A' → Byt A' → (noE l → noE A') → A'.length ≤ ((rstN l).drop 1).length + b.length →
      pcs (indN l ++ (wrdN l ++ [32]) ++ A') = ((pcs l).1.map (chg (strN b)), true) →
      Byt (txt ((pcs l).1.map (chg (strN b)))) ∧ (noE l → noE (txt ((pcs l).1.map (chg (strN b))))) ∧ (txt ((pcs l).1.map (chg (strN b))) = [] ↔ l = []) ∧ (txt ((pcs l).1.map (chg (strN b)))).length ≤ l.length + b.length ∧
      pcs (txt ((pcs l).1.map (chg (strN b)))) = ((pcs l).1.map (chg (strN b)), true) := by
    intro A' e1 e2 e3 e4 e5
    rw [e1]
    refine ⟨byt_app bfr e2, ?_, ⟨fun x => absurd x (by simp), fun x => absurd x l0⟩, by rw [List.length_append]; omega, e5⟩
    intro hn x hx
    rw [List.mem_append] at hx
    rcases hx with hx | hx
    · exact nfr hn x hx
    · exact e3 hn x hx
  have g' : ∀ A' : List Nat, ¬ ((32 :: A' : List Nat) ≠ [] ∧ (32 :: A').getD 0 0 ≠ 32) := fun A' x => x.2 rfl
  by_cases c1 : wrdN l = remN
  · have v1 : pcs l = ([mk (indN l ++ (wrdN l ++ [32])), (false, remW, strN ((rstN l).drop 1))], true) := by
      unfold pcs
      rw [if_neg w0, if_neg g, if_pos c1, if_neg r0]
    have v2 : (pcs l).1.map (chg (strN b)) = [mk (indN l ++ (wrdN l ++ [32])), (false, remW, strN b)] := by
      rw [v1, List.map_cons, List.map_cons, List.map_nil, chg_mk, chg_text]
    refine done b ?_ (low_byt hb) (fun _ => low_noE hb) (by omega) ?_
    · rw [v2, txt_mk _ bfr, txt_cons, txt_nil, nats_strN (low_byt hb), List.append_nil]
    · obtain ⟨q1, q2, q3⟩ := built b
      rw [v2]
      unfold pcs
      rw [q1, q2, q3, if_neg w0, if_neg (g' b), if_pos c1, if_neg (by simp)]
      rfl
  by_cases c2 : wrdN l = titN ∨ wrdN l = perN ∨ wrdN l = sonN
  · have v1 : pcs l = valC (indN l ++ (wrdN l ++ [32])) (smaB (wrdN l)) ((rstN l).drop 1) [] := by
      unfold pcs
      rw [if_neg w0, if_neg g, if_neg c1, if_neg r0, if_pos c2]
    have hv := h
    rw [v1] at hv
    obtain ⟨s', t1, t2, t3, t4, t5, t6⟩ := valC_chg b hb b0 _ _ _ [] bfr ba (fun x hx => by simp at hx) hv
    refine done s' ?_ t3 (fun _ => t4) t6 ?_
    · rw [v1, t1, List.append_nil]
    · obtain ⟨q1, q2, q3⟩ := built s'
      rw [v1, ← t2]
      unfold pcs
      rw [q1, q2, q3, if_neg w0, if_neg (g' s'), if_neg c1, if_neg (by simp), if_pos c2]
      rfl
  by_cases c3 : wrdN l = filN
  · have v1 : pcs l = fileC (indN l ++ (wrdN l ++ [32])) ((rstN l).drop 1) := by
      unfold pcs
      rw [if_neg w0, if_neg g, if_neg c1, if_neg r0, if_neg c2, if_pos c3]
    have hv := h
    rw [v1] at hv
    obtain ⟨a', t1, t2, t3, t4, t5, t6⟩ := fileC_chg b hb b0 _ _ bfr ba hv
    refine done a' ?_ t3 (fun hn => t4 (nar hn)) t6 ?_
    · rw [v1, t1]
    · obtain ⟨q1, q2, q3⟩ := built a'
      rw [v1, ← t2]
      unfold pcs
      rw [q1, q2, q3, if_neg w0, if_neg (g' a'), if_neg c1, if_neg (by simp), if_neg c2, if_pos c3]
      rfl
  · refine same ?_
    have hq := h
    unfold pcs at hq ⊢
    rw [if_neg w0, if_neg g, if_neg c1, if_neg r0, if_neg c2, if_neg c3] at hq ⊢
    by_cases a0 : (rstN l).drop 1 = []
    · rw [if_pos a0] at hq; exact absurd hq (by simp)
    rw [if_neg a0] at hq ⊢
    by_cases c4 : plB (wrdN l) ((rstN l).drop 1) = true
    · rw [if_pos c4]; exact chg_mks _ _
    · rw [if_neg c4] at hq; exact absurd hq (by simp)
end
end Go.Proofs.YtkhiiilfokijgaaDoor.Pl
