/- Blocks that are made of any lines that aren't empty have just these as texts: the plain law. -/
import Derived.Test.YtbndilnbfclmbaaPAllx16
import Derived.Test.YtbndilnbfclmbaaPAllx22
import Derived.Test.YtbndilnbfclmbaaLsrt4
namespace Go.Proofs.Ytbndilnbfclmbaa.Pure
open Go.RowKit Go.Proofs.Ytbndilnbfclmbaa.PAll Go.Proofs.Ytbndilnbfclmbaa.Pl Go.Proofs.YtbndilnbfclmbaaW.PrintWords Go.Proofs.YtbndilnbfclmbaaW.PrintLast
set_option linter.unusedVariables false
set_option linter.unusedSimpArgs false

theorem awake24 : Ev (fun k => diacriticlaw24_awake.f k) true := Ev.of diacriticlaw24_awake.mono (k := 100) (by kernel_rfl)
def tT : List Nat := [48, 49, 58, 48, 50, 58, 48, 51, 44, 48, 48, 52, 32, 45, 45, 62, 32, 48, 53, 58, 48, 54, 58, 48, 55, 44, 48, 48, 56, 32, 120]
def frontB : ByteArray := ⟨#[55, 10, 48, 49, 58, 48, 50, 58, 48, 51, 44, 48, 48, 52, 32, 45, 45, 62, 32, 48, 53, 58, 48, 54, 58, 48, 55, 44, 48, 48, 56, 32, 120, 10]⟩
def blk (s : ByteArray) : List Ln := [([55], [10]), (tT, [10]), (nats s, [10]), ([], [10])]
def blks : List ByteArray → List Ln
  | [] => []
  | s :: r => blk s ++ blks r
theorem d7 : digitsB (strN [55]) = true := by decide +kernel
theorem tTt : timesB (strN tT) = true := by decide +kernel
def endM : Pc := mkB (strN [10])
def pcB (s : ByteArray) : List Pc := [mkB (strN [55]), endM, mkB (strN tT), endM, (false, textW, s), endM, endM]
def pcBs : List ByteArray → List Pc
  | [] => []
  | s :: r => pcB s ++ pcBs r
theorem walk_blks : ∀ (l : List ByteArray) (p : Nat), (∀ s ∈ l, 0 < s.size) → walkS 0 (posL p (blks l)) = (pcBs l, -1, 0)
  | [], p, _ => rfl
  | s :: r, p, h => by
    have ih := fun p => walk_blks r p (fun x hx => h x (by simp [hx]))
    have hs : 0 < s.size := h s (by simp)
    have n1 : nextS 0 (strN [55]) = ([mkB (strN [55])], 1, true) := by
      unfold nextS
      rw [if_neg (by omega), if_neg (by rw [size_strN]; simp), if_pos ⟨rfl, d7⟩]
    have n2 : nextS 1 (strN tT) = ([mkB (strN tT)], 2, true) := by
      unfold nextS
      rw [if_neg (by omega), if_neg (by omega), if_neg (by omega), if_pos ⟨rfl, tTt⟩]
    have n3 : nextS 2 (strN (nats s)) = ([(false, textW, s)], 2, true) := by
      unfold nextS
      rw [strN_nats, if_pos ⟨rfl, hs⟩]
    have n4 := next_empty 2 (by decide)
    have he : ∀ (a : ByteArray) (q : Nat), endP (a, strN [10], q) = [endM] := fun a q => rfl
    have e : blks (s :: r) = ([55], [10]) :: (tT, [10]) :: (nats s, [10]) :: ([], [10]) :: blks r := rfl
    rw [e, posL, posL, posL, posL, walkS, n1]
    simp only [if_true]
    rw [walkS, n2]
    simp only [if_true]
    rw [walkS, n3]
    simp only [if_true]
    rw [walkS, n4]
    simp only [if_true, ih, he]
    rfl
theorem good_blks : ∀ (l : List ByteArray), (∀ s ∈ l, noE (nats s)) → Pl.Good (blks l)
  | [], _ => trivial
  | s :: r, h => by
    have ih := good_blks r (fun x hx => h x (by simp [hx]))
    refine ⟨?_, .inr (.inr (.inl rfl)), ?_, .inr (.inr (.inl rfl)), h s (by simp), .inr (.inr (.inl rfl)), ?_, .inr (.inr (.inl rfl)), ih⟩
    · intro x hx; simp at hx; omega
    · show ∀ x ∈ tT, x ≠ 10 ∧ x ≠ 13
      decide
    · intro x hx; simp at hx
theorem flat_blks_app (a b : List ByteArray) : blks (a ++ b) = blks a ++ blks b := by
  induction a with
  | nil => rfl
  | cons s r ih => rw [List.cons_append, blks, blks, ih, List.append_assoc]
theorem flat_blk (s : ByteArray) : flatL (blk s) = nats (frontB ++ s ++ (⟨#[10, 10]⟩ : ByteArray)) := by
  rw [nats_app, nats_app, show nats frontB = [55, 10] ++ (tT ++ [10]) from rfl, show nats (⟨#[10, 10]⟩ : ByteArray) = [10, 10] from rfl]
  simp [flatL, blk]
theorem byt_blks (l : List ByteArray) : Byt (flatL (blks l)) := by
  induction l with
  | nil => intro x hx; simp [blks, flatL] at hx
  | cons s r ih =>
    rw [blks, flatL_app]
    refine byt_app ?_ ih
    rw [flat_blk]; exact nats_lt _
theorem len_blks (l : List ByteArray) (h : ∀ s ∈ l, s.size ≤ 100) : (flatL (blks l)).length ≤ 200 * l.length := by
  induction l with
  | nil => simp [blks, flatL]
  | cons s r ih =>
    have h1 := ih (fun x hx => h x (by simp [hx]))
    have h2 := h s (by simp)
    have z1 : frontB.size = 34 := rfl
    have z2 : (⟨#[10, 10]⟩ : ByteArray).size = 2 := rfl
    rw [blks, flatL_app, List.length_append, flat_blk, nats_len, size_app, size_app, z1, z2, List.length_cons]; omega
def okS (s : ByteArray) : Prop := s.size ≤ 100 ∧ 0 < s.size ∧ noE (nats s)
theorem parse_blks (l : List ByteArray) (h : ∀ s ∈ l, okS s) : parseS (strN (flatL (blks l))) = (pcBs l, -1) := by
  have hc := cut_good (blks l) (good_blks l (fun s hs => (h s hs).2.2)) (byt_blks l)
  unfold parseS
  rw [hc, walk_blks l 0 (fun s hs => (h s hs).2.1), if_pos rfl, if_neg (by show ¬ ((0 : Nat) = 1); decide)]
theorem cnt_blks (l : List ByteArray) : cntD (pcBs l) = l.length := by
  have he : digitsB (strN [10]) = false := by decide +kernel
  have ht : digitsB (strN tT) = false := by decide +kernel
  induction l with
  | nil => rfl
  | cons s r ih =>
    rw [pcBs, (cnt_app _ _).1, ih, List.length_cons]
    have : cntD (pcB s) = 1 := by
      unfold cntD pcB
      simp only [List.countP_cons, List.countP_nil, isD, mkB, endM, d7, he, ht]
      rfl
    omega
def notM (L : List Pc) : List ByteArray := (L.filter fun x => !x.1).map fun x => x.2.2
theorem notM_blks (l : List ByteArray) : notM (pcBs l) = l := by
  induction l with
  | nil => rfl
  | cons s r ih =>
    unfold notM at ih ⊢
    rw [pcBs, List.filter_append, List.map_append, ih]; rfl
theorem rd_at (l : List ByteArray) (i : Nat) (h : i < l.length) : rdOf ByteArray.empty l (i : Int) = l[i] := by
  unfold rdOf
  rw [Int.toNat_natCast, List.getD_eq_getElem?_getD, List.getElem?_eq_getElem h]; rfl
theorem texts_l2 (l : List ByteArray) (hl : l.length ≤ 20) (h : ∀ s ∈ l, okS s) : ∀ (d i : Nat), i + d = l.length → Ev (fun k => diacriticlaw24_SrtTexts.l2 k l (strN (flatL (blks l))) l (l.length : Int) (i : Int)) true
  | 0, i, hi => by
    have hz := len_blks l (fun s hs => (h s hs).1)
    have c := count_ev (strN (flatL (blks l))) (by rw [size_strN]; omega)
    rw [parse_blks l h, cnt_blks] at c
    refine Ev.step (fun k => by rw [diacriticlaw24_SrtTexts.l2]) (Ev.iten (by omega) (Ev.bind awake24 (Ev.itep rfl ?_)))
    exact Ev.bind c (Ev.some (beq_self_eq_true _))
  | d + 1, i, hi => by
    refine Ev.step (fun k => by rw [diacriticlaw24_SrtTexts.l2]) (Ev.itep (by omega) (Ev.itep (by omega) (Ev.itep (by omega) (Ev.itep (by omega) (Ev.itep rfl ?_)))))
    rw [show wrap64 ((i : Int) + 1) = ((i + 1 : Nat) : Int) by rw [w64 (by omega)]; omega]
    exact texts_l2 l hl h d (i + 1) (by omega)
theorem texts_l1 (l : List ByteArray) (hl : l.length ≤ 20) (h : ∀ s ∈ l, okS s) (L : List Pc) (hL : L = pcBs l) (hLl : L.length ≤ 1000) : ∀ (d i : Nat) (acc : List ByteArray), i + d = L.length → acc ++ notM (L.drop i) = l → acc.length ≤ i →
    Ev (fun k => diacriticlaw24_SrtTexts.l1 k l (strN (flatL (blks l))) acc (L.map toP) ((L.map toP).length : Int) (i : Int) 0 0) true
  | 0, i, acc, hi, ha, hal => by
    rw [List.drop_of_length_le (by omega)] at ha
    have ha : acc = l := by simpa [notM] using ha
    subst ha
    refine Ev.step (fun k => by rw [diacriticlaw24_SrtTexts.l1]) ?_
    refine Ev.iten (by rw [List.length_map]; omega) ?_
    refine Ev.bindc rfl ?_
    refine Ev.iten (by decide) ?_
    simp only [bne_self_eq_false]
    refine Ev.step (fun k => by rw [diacriticlaw24_SrtTexts.j2]) (Ev.iten (by decide) ?_)
    exact texts_l2 acc hl h acc.length 0 (by omega)
  | d + 1, i, acc, hi, ha, hal => by
    have hlt : i < L.length := by omega
    rw [List.drop_eq_getElem_cons hlt] at ha
    refine Ev.step (fun k => by rw [diacriticlaw24_SrtTexts.l1]) (Ev.itep (by rw [List.length_map]; omega) (Ev.itep (by omega) (Ev.itep (by rw [List.length_map]; omega) ?_)))
    rw [rdP L i hlt, show wrap64 ((i : Int) + 1) = ((i + 1 : Nat) : Int) by rw [w64 (by omega)]; omega]
    by_cases hm : L[i].1 = true
    · have e : notM (L[i] :: L.drop (i + 1)) = notM (L.drop (i + 1)) := by
        unfold notM; rw [List.filter_cons_of_neg]; rw [hm]; decide
      rw [e] at ha
      exact Ev.itep hm (texts_l1 l hl h L hL hLl d (i + 1) acc (by omega) ha (by omega))
    · have e : notM (L[i] :: L.drop (i + 1)) = L[i].2.2 :: notM (L.drop (i + 1)) := by
        unfold notM; rw [List.filter_cons_of_pos, List.map_cons]; rw [Bool.eq_false_iff.mpr hm]; rfl
      rw [e] at ha
      refine Ev.iten hm (Ev.itep (by omega) ?_)
      exact texts_l1 l hl h L hL hLl d (i + 1) (acc ++ [L[i].2.2]) (by omega) (by rw [List.append_assoc]; exact ha) (by rw [List.length_append, List.length_singleton]; omega)
theorem len_pcBs (l : List ByteArray) : (pcBs l).length = 7 * l.length := by
  induction l with
  | nil => rfl
  | cons s r ih => rw [pcBs, List.length_append, ih, List.length_cons]; simp [pcB]; omega
theorem texts_l0 (l : List ByteArray) (hl : l.length ≤ 20) (hsz : ∀ s ∈ l, s.size ≤ 1048576) : ∀ (d i : Nat), i + d = l.length → (∀ s ∈ l.take i, okS s) →
    Ev (fun k => diacriticlaw24_SrtTexts.l0 k l (strN (flatL (blks (l.take i)))) l (l.length : Int) (i : Int)) true
  | 0, i, hi, h => by
    rw [List.take_of_length_le (by omega)] at h ⊢
    have hz := len_blks l (fun s hs => (h s hs).1)
    have p := parse_ev (strN (flatL (blks l))) (by rw [size_strN]; omega)
    rw [parse_blks l h] at p
    have hp := len_pcBs l
    refine Ev.step (fun k => by rw [diacriticlaw24_SrtTexts.l0]) (Ev.iten (by omega) (Ev.bind p ?_))
    exact texts_l1 l hl h (pcBs l) rfl (by omega) (pcBs l).length 0 [] (by omega) (by rw [List.drop_zero, List.nil_append]; exact notM_blks l) (Nat.zero_le _)
  | d + 1, i, hi, h => by
    have hlt : i < l.length := by omega
    have hz := len_blks (l.take i) (fun s hs => (h s hs).1)
    rw [List.length_take] at hz
    refine Ev.step (fun k => by rw [diacriticlaw24_SrtTexts.l0]) (Ev.itep (by omega) (Ev.itep (by omega) (Ev.itep (by omega) ?_)))
    rw [rd_at l i hlt, show wrap64 ((i : Int) + 1) = ((i + 1 : Nat) : Int) by rw [w64 (by omega)]; omega]
    generalize hs : l[i] = s
    by_cases h100 : (s.size : Int) > 100
    · have hbig := hsz l[i] (List.getElem_mem hlt)
      rw [hs] at hbig
      exact Ev.bind (rlines_ev s (by omega)) (Ev.itep h100 (Ev.bind awake24 (Ev.some rfl)))
    refine Ev.bind (rlines_ev s (by omega)) (Ev.iten h100 ?_)
    rw [List.length_map]
    by_cases h1 : ((cut s).length : Int) = 1
    · obtain ⟨x, hx⟩ : ∃ x, cut s = [x] := List.length_eq_one_iff.mp (by omega)
      rw [hx]
      refine Ev.itep (by simp) (Ev.itep (by simp) ?_)
      show Ev (fun k => if (x.2.1).toList = ([] : List UInt8) then _ else _) true
      by_cases h3 : x.2.1.size = 0
      · have hne : noE (nats s) := one_line s (by rw [hx]; simp) (by
          intro y hy
          rw [hx] at hy
          simp at hy
          rw [← hy]; exact h3)
        have hpos : 0 < s.size := by
          rcases Nat.eq_zero_or_pos s.size with h0 | h0
          · have := cut_le s
            rw [hx, h0] at this; simp at this
          · exact h0
        have ok : okS s := ⟨by omega, hpos, hne⟩
        have z1 : frontB.size = 34 := rfl
        have z2 : (⟨#[10, 10]⟩ : ByteArray).size = 2 := rfl
        refine Ev.itep ((tl_nil _).mpr h3) (Ev.itep (by omega) (Ev.itep (by show (frontB ++ s).size + 2 ≤ _; rw [size_app, z1]; omega) (Ev.itep (by show _ + (frontB ++ s ++ _).size ≤ _; rw [size_strN, size_app, size_app, z1, z2]; omega) ?_)))
        have e : strN (flatL (blks (l.take i))) ++ (frontB ++ s ++ (⟨#[10, 10]⟩ : ByteArray)) = strN (flatL (blks (l.take (i + 1)))) := by
          rw [List.take_succ_eq_append_getElem hlt, flat_blks_app, flatL_app, hs, strN_app]
          congr 1
          rw [show blks [s] = blk s ++ [] from rfl, List.append_nil, flat_blk, strN_nats]
        have ih := texts_l0 l hl hsz d (i + 1) (by omega) (by
          intro y hy
          rw [List.take_succ_eq_append_getElem hlt, List.mem_append, List.mem_singleton] at hy
          rcases hy with hy | rfl
          · exact h y hy
          · rw [hs]; exact ok)
        rw [← e] at ih
        exact ih
      · exact Ev.iten (fun e => h3 ((tl_nil _).mp e)) (Ev.bind awake24 (Ev.some rfl))
    · exact Ev.iten h1 (Ev.bind awake24 (Ev.some rfl))
/-- At texts of some length: the document's lines of a text are told ahead of the test of its length. -/
theorem SrtTexts : ∀ l : List ByteArray, l.length ≤ 9223372036854775807 → (∀ s ∈ l, s.size ≤ 1048576) → ∃ k, diacriticlaw24_SrtTexts.f k l = some true := by
  intro l _ hl
  apply Ev.rounds
  unfold diacriticlaw24_SrtTexts.f
  by_cases hc : (l.length : Int) > 20
  · exact Ev.itep hc (Ev.bind awake24 (Ev.some rfl))
  · refine Ev.iten hc ?_
    exact texts_l0 l (by omega) hl l.length 0 (by omega) (by simp)

end Go.Proofs.Ytbndilnbfclmbaa.Pure
