/- Behind a time any text that doesn't begin with a bracket stands as it is; so does a note without the other one: the plain law. -/
import Derived.Test.YtbndilnbfclmbaaPAllx19
import Derived.Test.YtbndilnbfclmbaaPAllx23
import Derived.Test.YtbndilnbfclmbaaLlrc6
namespace Go.Proofs.Ytbndilnbfclmbaa.Pure
open Go.RowKit Go.Proofs.Ytbndilnbfclmbaa.PAll Go.Proofs.Ytbndilnbfclmbaa.Pl Go.Proofs.YtbndilnbfclmbaaW.PrintWords Go.Proofs.YtbndilnbfclmbaaW.PrintLast
set_option linter.unusedVariables false
set_option linter.unusedSimpArgs false

theorem awake26t : Ev (fun k => diacriticlaw26_awake.f k) true := Ev.of diacriticlaw26_awake.mono (k := 80) (by kernel_rfl)
def tA : List Nat := [53, 57, 58, 53, 57, 46, 57, 57, 57]
theorem momA : momB (strN tA) = true := by decide +kernel
theorem line1 (text : List Nat) (h0 : text ≠ []) (h91 : text.head? ≠ some 91) : pcs (91 :: (tA ++ 93 :: text)) = ([mk ([91] ++ (tA ++ [93])), (false, textW, strN text)], true) := by
  have hA : ∀ x ∈ tA, x ≠ 93 := by decide
  have ht : timeN (91 :: (tA ++ 93 :: text)) = 11 := by rw [time_of _ _ hA, if_pos momA]; rfl
  unfold pcs
  rw [if_neg (by simp), if_pos (by rw [ht]; decide), tms, if_pos (by rw [ht]; decide), ht]
  have e : (91 :: (tA ++ 93 :: text)) = ([91] ++ (tA ++ [93])) ++ text := by simp
  have hz : 11 = ([91] ++ (tA ++ [93])).length := rfl
  obtain ⟨m, hm⟩ : ∃ m, (91 :: (tA ++ 93 :: text)).length = m + 1 := ⟨_, by rw [List.length_cons]⟩
  rw [hm, e, hz, List.take_left, List.drop_left, tms, if_neg (by rw [time_not text h91]; decide), if_neg h0]
def songT (text name value : List Nat) : List Ln := [(91 :: (tA ++ 93 :: text), [13]), (91 :: (name ++ 58 :: (value ++ [93])), [])]
theorem texts_end (x0 x1 x2 : ByteArray) (h0 : x0.size ≤ 200) (h1 : x1.size ≤ 50) (h2 : x2.size ≤ 200) (n0 : nats x0 ≠ []) (n1 : nats x1 ≠ []) (n91 : (nats x0).head? ≠ some 91)
    (hl : ∀ x ∈ nats x1, lowN x = true) (e0 : noE (nats x0)) (e2 : noE (nats x2)) (v93 : ∀ x ∈ nats x2, x ≠ 93) :
    Ev (fun k => diacriticlaw26_LrcTexts.l2 k x0 x1 x2 (x2.size : Int) (x2.size : Int)) true := by
  have z11 : (⟨#[91, 53, 57, 58, 53, 57, 46, 57, 57, 57, 93]⟩ : ByteArray).size = 11 := rfl
  have z13 : (⟨#[13]⟩ : ByteArray).size = 1 := rfl
  have z91 : (⟨#[91]⟩ : ByteArray).size = 1 := rfl
  have z58 : (⟨#[58]⟩ : ByteArray).size = 1 := rfl
  have z93 : (⟨#[93]⟩ : ByteArray).size = 1 := rfl
  have hb0 : Byt (nats x0) := nats_lt x0
  have hb1 : Byt (nats x1) := nats_lt x1
  have hb2 : Byt (nats x2) := nats_lt x2
  have hq1 : Byt (91 :: (tA ++ 93 :: nats x0)) := by
    intro x hx
    simp only [tA, List.mem_cons, List.mem_append, List.not_mem_nil, or_false] at hx
    rcases hx with rfl | (rfl | rfl | rfl | rfl | rfl | rfl | rfl | rfl | rfl) | rfl | hx
    all_goals first | decide | exact hb0 x hx
  have hq2 : Byt (91 :: (nats x1 ++ 58 :: (nats x2 ++ [93]))) := by
    intro x hx
    simp only [List.mem_cons, List.mem_append, List.not_mem_nil, or_false] at hx
    rcases hx with rfl | hx | rfl | hx | rfl
    · decide
    · exact hb1 x hx
    · decide
    · exact hb2 x hx
    · decide
  have hflat : Byt (flatL (songT (nats x0) (nats x1) (nats x2))) := by
    rw [songT, flatL, flatL, flatL]
    refine byt_app hq1 (byt_app (fun x hx => by simp at hx; omega) (byt_app hq2 (fun x hx => by simp at hx)))
  have hgood : Pl.Good (songT (nats x0) (nats x1) (nats x2)) := by
    refine ⟨?_, .inr (.inr (.inr ⟨rfl, by simp [flatL]⟩)), ?_, .inl ⟨rfl, by simp, rfl⟩, trivial⟩
    · intro x hx
      simp only [tA, List.mem_cons, List.mem_append, List.not_mem_nil, or_false] at hx
      rcases hx with rfl | (rfl | rfl | rfl | rfl | rfl | rfl | rfl | rfl | rfl) | rfl | hx
      all_goals first | decide | exact e0 x hx
    · intro x hx
      simp only [List.mem_cons, List.mem_append, List.not_mem_nil, or_false] at hx
      rcases hx with rfl | hx | rfl | hx | rfl
      · decide
      · exact low_noE hl x hx
      · decide
      · exact e2 x hx
      · decide
  have es : (((((((⟨#[91, 53, 57, 58, 53, 57, 46, 57, 57, 57, 93]⟩ : ByteArray) ++ x0) ++ (⟨#[13]⟩ : ByteArray)) ++ (⟨#[91]⟩ : ByteArray)) ++ x1) ++ (⟨#[58]⟩ : ByteArray)) ++ x2) ++ (⟨#[93]⟩ : ByteArray) = strN (flatL (songT (nats x0) (nats x1) (nats x2))) := by
    apply nats_inj
    rw [nats_strN hflat]
    simp only [nats_app]
    rw [show nats (⟨#[91, 53, 57, 58, 53, 57, 46, 57, 57, 57, 93]⟩ : ByteArray) = 91 :: (tA ++ [93]) from rfl, show nats (⟨#[13]⟩ : ByteArray) = [13] from rfl, show nats (⟨#[91]⟩ : ByteArray) = [91] from rfl, show nats (⟨#[58]⟩ : ByteArray) = [58] from rfl, show nats (⟨#[93]⟩ : ByteArray) = [93] from rfl]
    simp [songT, flatL]
  have hn0 := nats_len x0
  have hn1 := nats_len x1
  have hn2 := nats_len x2
  have hc := cut_good _ hgood hflat
  have l1 := line1 (nats x0) n0 n91
  have l2 := note_pcs (nats x1) (nats x2) hl n1 v93 hb2
  have hsong := song_pos (songT (nats x0) (nats x1) (nats x2)) 0 hflat (by
    intro x hx
    simp only [songT, List.mem_cons, List.not_mem_nil, or_false] at hx
    rcases hx with rfl | rfl
    · rw [l1]
    · rw [l2])
  have hsm : Small (cut (strN (flatL (songT (nats x0) (nats x1) (nats x2))))) := by
    rw [hc]
    refine small_pos _ 0 ?_
    intro x hx
    simp only [songT, List.mem_cons, List.not_mem_nil, or_false] at hx
    rcases hx with rfl | rfl
    · simp only [tA, List.length_cons, List.length_append, List.length_nil]; omega
    · simp only [List.length_cons, List.length_append, List.length_nil]; omega
  have hsz : (strN (flatL (songT (nats x0) (nats x1) (nats x2)))).size ≤ 100000 := by
    rw [size_strN]
    simp only [songT, flatL, tA, List.length_cons, List.length_append, List.length_nil]; omega
  have hp := parse_ev _ hsz hsm
  rw [hc, hsong, if_pos rfl, ← es] at hp
  have hsl : songL (songT (nats x0) (nats x1) (nats x2)) = [mk ([91] ++ (tA ++ [93])), (false, textW, x0), mk [13], mk ([91] ++ (nats x1 ++ [58])), (false, x1, x2), mk [93]] := by
    rw [songT, songL, songL, songL, l1, l2]
    simp [strN_nats]
  rw [hsl] at hp
  refine Ev.step (fun k => by rw [diacriticlaw26_LrcTexts.l2]) (Ev.iten (by omega) ?_)
  refine Ev.itep (by omega) (Ev.itep (by simp only [size_app, z11, z13, z91, z58, z93]; omega) (Ev.itep (by simp only [size_app, z11, z13, z91, z58, z93]; omega) (Ev.itep (by simp only [size_app, z11, z13, z91, z58, z93]; omega) (Ev.itep (by simp only [size_app, z11, z13, z91, z58, z93]; omega) (Ev.itep (by simp only [size_app, z11, z13, z91, z58, z93]; omega) (Ev.itep (by simp only [size_app, z11, z13, z91, z58, z93]; omega) ?_))))))
  refine Ev.bind hp (Ev.bind awake26t (Ev.itep rfl (Ev.bindc rfl (Ev.iten (by simp) (Ev.itep rfl (Ev.itep (by simp) (Ev.bindc rfl ?_)))))))
  refine Ev.itep ?_ (Ev.itep (by simp) (Ev.bindc rfl (Ev.some ?_)))
  · show (false == false && (textW.toList == textW.toList && (x0.toList == x0.toList))) = true
    simp
  · show (false == false && (x1.toList == x1.toList && (x2.toList == x2.toList))) = true
    simp
theorem texts_l2 (x0 x1 x2 : ByteArray) (h0 : x0.size ≤ 200) (h1 : x1.size ≤ 50) (h2 : x2.size ≤ 200) (n0 : nats x0 ≠ []) (n1 : nats x1 ≠ []) (n91 : (nats x0).head? ≠ some 91)
    (hl : ∀ x ∈ nats x1, lowN x = true) (e0 : noE (nats x0)) (e2 : noE (nats x2)) : ∀ (d i : Nat), i + d = x2.size → (∀ x ∈ (nats x2).take i, x ≠ 93) →
    Ev (fun k => diacriticlaw26_LrcTexts.l2 k x0 x1 x2 (x2.size : Int) (i : Int)) true
  | 0, i, hi, hv => by
    have : i = x2.size := by omega
    subst this
    rw [List.take_of_length_le (by rw [nats_len]; omega)] at hv
    exact texts_end x0 x1 x2 h0 h1 h2 n0 n1 n91 hl e0 e2 hv
  | d + 1, i, hi, hv => by
    refine Ev.step (fun k => by rw [diacriticlaw26_LrcTexts.l2]) (Ev.itep (by omega) (Ev.itep (by omega) (Ev.itep (by omega) ?_)))
    by_cases h93 : bt x2 (i : Int) = 93
    · exact Ev.itep h93 (Ev.bind awake26t (Ev.some rfl))
    · refine Ev.iten h93 ?_
      rw [show wrap64 ((i : Int) + 1) = ((i + 1 : Nat) : Int) by rw [w64 (by omega)]; omega]
      refine texts_l2 x0 x1 x2 h0 h1 h2 n0 n1 n91 hl e0 e2 d (i + 1) (by omega) ?_
      have hlt : i < (nats x2).length := by rw [nats_len]; omega
      intro x hx
      rw [List.take_succ_eq_append_getElem hlt, List.mem_append, List.mem_singleton] at hx
      rcases hx with hx | rfl
      · exact hv x hx
      · have := bt_nats x2 i (by omega)
        rw [List.getD_eq_getElem?_getD, List.getElem?_eq_getElem hlt] at this
        intro e
        simp only [Option.getD_some] at this
        rw [e] at this
        exact h93 this
theorem l1_step (x0 x1 x2 s : ByteArray) (i : Nat) (hi : i < 2) (hs : rdOf ByteArray.empty [x0, x2] (i : Int) = s) (hz : s.size ≤ 200)
    (K : noE (nats s) → Ev (fun k => diacriticlaw26_LrcTexts.l1 k x0 x1 x2 [x0, x2] 2 ((i + 1 : Nat) : Int)) true) : Ev (fun k => diacriticlaw26_LrcTexts.l1 k x0 x1 x2 [x0, x2] 2 (i : Int)) true := by
  refine Ev.step (fun k => by rw [diacriticlaw26_LrcTexts.l1]) (Ev.itep (by omega) (Ev.itep (by omega) (Ev.itep (by simp; omega) ?_)))
  rw [hs, show wrap64 ((i : Int) + 1) = ((i + 1 : Nat) : Int) by rw [w64 (by omega)]; omega]
  refine Ev.bind (rlines_ev s (by omega)) ?_
  rw [List.length_map]
  by_cases h1 : ((cut s).length : Int) > 1
  · exact Ev.itep h1 (Ev.bind awake26t (Ev.some rfl))
  · refine Ev.iten h1 ?_
    by_cases h2 : ((cut s).length : Int) = 1
    · refine Ev.itep h2 (Ev.itep (by omega) ?_)
      obtain ⟨x, hx⟩ : ∃ x, cut s = [x] := List.length_eq_one_iff.mp (by omega)
      rw [hx]
      show Ev (fun k => if (x.2.1).toList = ([] : List UInt8) then _ else _) true
      by_cases h3 : x.2.1.size = 0
      · refine Ev.itep ((tl_nil _).mpr h3) (K ?_)
        refine one_line s (by omega) ?_
        intro y hy
        rw [hx] at hy
        simp at hy
        rw [← hy]; exact h3
      · exact Ev.iten (fun e => h3 ((tl_nil _).mp e)) (Ev.bind awake26t (Ev.some rfl))
    · refine Ev.iten h2 (K ?_)
      refine one_line s (by omega) ?_
      intro y hy
      have : cut s = [] := List.eq_nil_of_length_eq_zero (by omega)
      rw [this] at hy; simp at hy
theorem texts_l0 (x0 x1 x2 : ByteArray) (h0 : x0.size ≤ 200) (h1 : x1.size ≤ 50) (h2 : x2.size ≤ 200) (n0 : nats x0 ≠ []) (n1 : nats x1 ≠ []) (n91 : (nats x0).head? ≠ some 91) : ∀ (d i : Nat), i + d = x1.size → (∀ x ∈ (nats x1).take i, lowN x = true) →
    Ev (fun k => diacriticlaw26_LrcTexts.l0 k x0 x1 x2 (x1.size : Int) (i : Int)) true
  | 0, i, hi, hv => by
    rw [List.take_of_length_le (by rw [nats_len]; omega)] at hv
    refine Ev.step (fun k => by rw [diacriticlaw26_LrcTexts.l0]) (Ev.iten (by omega) ?_)
    refine Ev.bindc rfl ?_
    refine l1_step x0 x1 x2 x0 0 (by omega) rfl h0 (fun e0 => ?_)
    refine l1_step x0 x1 x2 x2 1 (by omega) rfl h2 (fun e2 => ?_)
    refine Ev.step (fun k => by rw [diacriticlaw26_LrcTexts.l1]) (Ev.iten (by omega) ?_)
    exact texts_l2 x0 x1 x2 h0 h1 h2 n0 n1 n91 hv e0 e2 x2.size 0 (by omega) (by simp)
  | d + 1, i, hi, hv => by
    have hlt : i < (nats x1).length := by rw [nats_len]; omega
    have hbt := bt_nats x1 i (by omega)
    rw [List.getD_eq_getElem?_getD, List.getElem?_eq_getElem hlt] at hbt
    simp only [Option.getD_some] at hbt
    refine Ev.step (fun k => by rw [diacriticlaw26_LrcTexts.l0]) (Ev.itep (by omega) (Ev.itep (by omega) (Ev.itep (by omega) ?_)))
    by_cases c1 : bt x1 (i : Int) < 97
    · exact Ev.itep c1 (Ev.bind awake26t (Ev.some rfl))
    refine Ev.iten c1 ?_
    by_cases c2 : bt x1 (i : Int) > 122
    · exact Ev.itep c2 (Ev.bind awake26t (Ev.some rfl))
    refine Ev.iten c2 ?_
    rw [show wrap64 ((i : Int) + 1) = ((i + 1 : Nat) : Int) by rw [w64 (by omega)]; omega]
    refine texts_l0 x0 x1 x2 h0 h1 h2 n0 n1 n91 d (i + 1) (by omega) ?_
    intro x hx
    rw [List.take_succ_eq_append_getElem hlt, List.mem_append, List.mem_singleton] at hx
    rcases hx with hx | rfl
    · exact hv x hx
    · simp only [lowN, Bool.and_eq_true, decide_eq_true_eq]; omega
theorem texts_over (x0 x1 x2 : ByteArray) : Ev (fun k => diacriticlaw26_LrcTexts.j0 k x0 x1 x2 true) true :=
  Ev.step (fun k => by rw [diacriticlaw26_LrcTexts.j0]) (Ev.itep rfl (Ev.bind awake26t (Ev.some rfl)))
theorem LrcTexts : diacriticlaw26_LrcTexts.Pure := by
  intro x0 x1 x2 _ _ _
  apply Ev.rounds
  unfold diacriticlaw26_LrcTexts.f
  by_cases c0 : (x0.size : Int) > 200
  · exact Ev.itep c0 (texts_over _ _ _)
  refine Ev.iten c0 ?_
  by_cases c2 : (x2.size : Int) > 200
  · exact Ev.itep c2 (texts_over _ _ _)
  refine Ev.iten c2 ?_
  by_cases c1 : (x1.size : Int) > 50
  · exact Ev.itep c1 (texts_over _ _ _)
  refine Ev.iten c1 ?_
  by_cases e1 : x1.toList = ([] : List UInt8)
  · exact Ev.itep e1 (texts_over _ _ _)
  refine Ev.iten e1 ?_
  by_cases e0 : x0.toList = ([] : List UInt8)
  · exact Ev.itep e0 (texts_over _ _ _)
  refine Ev.iten e0 ?_
  have p0 : 0 < x0.size := Nat.pos_of_ne_zero (fun e => e0 ((tl_nil _).mpr e))
  have p1 : 0 < x1.size := Nat.pos_of_ne_zero (fun e => e1 ((tl_nil _).mpr e))
  refine Ev.itep (by omega) ?_
  by_cases h91 : bt x0 0 = 91
  · rw [show (bt x0 0 == 91) = true from beq_iff_eq.mpr h91]
    exact texts_over _ _ _
  · rw [show (bt x0 0 == 91) = false from beq_eq_false_iff_ne.mpr h91]
    refine Ev.step (fun k => by rw [diacriticlaw26_LrcTexts.j0]) (Ev.iten (by decide) ?_)
    refine texts_l0 x0 x1 x2 (by omega) (by omega) (by omega) ?_ ?_ ?_ x1.size 0 (by omega) (by simp)
    · intro e; have := congrArg List.length e; rw [nats_len, List.length_nil] at this; omega
    · intro e; have := congrArg List.length e; rw [nats_len, List.length_nil] at this; omega
    · have := head_drop x0 0 p0 91
      rw [List.drop_zero] at this
      exact fun e => h91 (this.mp e)

end Go.Proofs.Ytbndilnbfclmbaa.Pure
