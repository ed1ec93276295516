/- Times in brackets: what the printed functions say, in plain words. -/
import Derived.Test.YtbndilnbfclmbaaPAllx14
import Derived.Test.YtbndilnbfclmbaaPAllx19
import Derived.Test.YtbndilnbfclmbaaPAllx20
import Derived.Test.YtbndilnbfclmbaaLnat
import Derived.Test.YtbndilnbfclmbaaLline2
namespace Go.Proofs.Ytbndilnbfclmbaa.Pl
open Go.RowKit Go.Proofs.Ytbndilnbfclmbaa.PAll Go.Proofs.YtbndilnbfclmbaaW.PrintWords Go.Proofs.YtbndilnbfclmbaaW.PrintLast Go.Proofs.YtbndilnbfclmbaaW.PrintMore
set_option linter.unusedVariables false
set_option linter.unusedSimpArgs false

/-- What stands ahead of the first closing bracket; what stands behind it. -/
def inN (t : List Nat) : List Nat := t.takeWhile (· != 93)
def reN (t : List Nat) : List Nat := (t.dropWhile (· != 93)).drop 1
def hasN (t : List Nat) : Bool := t.any (· == 93)
theorem inN_cons (b : Nat) (t : List Nat) (h : b ≠ 93) : inN (b :: t) = b :: inN t := by
  unfold inN; rw [List.takeWhile_cons]; simp [h]
theorem reN_cons (b : Nat) (t : List Nat) (h : b ≠ 93) : reN (b :: t) = reN t := by
  unfold reN; rw [List.dropWhile_cons]; simp [h]
theorem hasN_cons (b : Nat) (t : List Nat) (h : b ≠ 93) : hasN (b :: t) = hasN t := by
  have : (b == 93) = false := by simp [h]
  unfold hasN; rw [List.any_cons, this, Bool.false_or]
theorem inN_93 (t : List Nat) : inN (93 :: t) = [] := rfl
theorem reN_93 (t : List Nat) : reN (93 :: t) = t := rfl
theorem hasN_93 (t : List Nat) : hasN (93 :: t) = true := rfl
theorem in_split (a r : List Nat) (h : ∀ x ∈ a, x ≠ 93) : inN (a ++ 93 :: r) = a ∧ reN (a ++ 93 :: r) = r ∧ hasN (a ++ 93 :: r) = true := by
  induction a with
  | nil => exact ⟨rfl, rfl, rfl⟩
  | cons b a ih =>
    have hb := h b (by simp)
    obtain ⟨h1, h2, h3⟩ := ih (fun x hx => h x (by simp [hx]))
    rw [List.cons_append, inN_cons _ _ hb, reN_cons _ _ hb, hasN_cons _ _ hb, h1]
    exact ⟨rfl, h2, h3⟩
theorem split_in (t : List Nat) (h : hasN t = true) : t = inN t ++ 93 :: reN t ∧ ∀ x ∈ inN t, x ≠ 93 := by
  induction t with
  | nil => exact absurd h (by decide)
  | cons b t ih =>
    by_cases hb : b = 93
    · subst hb
      rw [inN_93, reN_93]
      exact ⟨rfl, fun x hx => by simp at hx⟩
    · rw [hasN_cons _ _ hb] at h
      obtain ⟨h1, h2⟩ := ih h
      rw [inN_cons _ _ hb, reN_cons _ _ hb, List.cons_append, ← h1]
      refine ⟨rfl, fun x hx => ?_⟩
      rw [List.mem_cons] at hx
      rcases hx with rfl | hx
      · exact hb
      · exact h2 x hx
theorem take_split (t : List Nat) (h : hasN t = true) : t.take (inN t).length = inN t := by
  obtain ⟨h1, _⟩ := split_in t h
  generalize inN t = a at h1 ⊢
  generalize reN t = r at h1
  subst h1
  rw [List.take_left]
theorem drop_split (t : List Nat) (h : hasN t = true) : t.drop ((inN t).length + 1) = reN t := by
  obtain ⟨h1, _⟩ := split_in t h
  generalize inN t = a at h1 ⊢
  generalize reN t = r at h1 ⊢
  subst h1
  rw [← List.drop_drop, List.drop_left]; rfl
theorem no_in (t : List Nat) (h : hasN t = false) : inN t = t ∧ reN t = [] := by
  induction t with
  | nil => exact ⟨rfl, rfl⟩
  | cons b t ih =>
    by_cases hb : b = 93
    · subst hb; exact absurd h (by simp [hasN_93])
    · rw [hasN_cons _ _ hb] at h
      obtain ⟨h1, h2⟩ := ih h
      rw [inN_cons _ _ hb, reN_cons _ _ hb, h1]
      exact ⟨rfl, h2⟩
theorem index_in (u : List UInt8) : Lib.indexByte u 93 = if hasN (u.map UInt8.toNat) = true then ((inN (u.map UInt8.toNat)).length : Int) else -1 := by
  induction u with
  | nil => rfl
  | cons b u ih =>
    rw [Lib.indexByte]
    by_cases hb : b = 93
    · subst hb; rfl
    · have hn : b.toNat ≠ 93 := fun e => hb (UInt8.toNat_inj.mp (by rw [e]; rfl))
      have e1 : (b == 93) = false := by simp [hb]
      rw [e1, List.map_cons, hasN_cons _ _ hn, inN_cons _ _ hn, ih]
      by_cases hh : hasN (u.map UInt8.toNat) = true
      · rw [if_pos hh, if_pos hh, List.length_cons]
        have : ((((inN (u.map UInt8.toNat)).length : Nat) : Int) == -1) = false := by simp
        rw [this]
        simp only [Bool.false_eq_true, if_false]
        omega
      · rw [if_neg hh, if_neg hh]; rfl
theorem cut_ok (s : ByteArray) (hs : s.size ≤ 1000000000) : strings_Cut.f s (⟨#[93]⟩ : ByteArray) = some (strN (inN (nats s)), strN (reN (nats s)), hasN (nats s)) := by
  unfold strings_Cut.f stringslite_Cut.f
  have e : stringslite_Index.f s (⟨#[93]⟩ : ByteArray) = some (Lib.indexByte s.data.toList 93) := rfl
  rw [e, index_in, Option.bind_some]
  show (_ : Option _).bind _ = _
  by_cases hh : hasN (nats s) = true
  · obtain ⟨h1, h2⟩ := split_in (nats s) hh
    have hl : s.size = (inN (nats s)).length + (1 + (reN (nats s)).length) := by
      rw [← nats_len]; conv => lhs; rw [h1]
      simp; omega
    have hh' : hasN (s.data.toList.map UInt8.toNat) = true := hh
    rw [if_pos hh']
    have hi : (inN (s.data.toList.map UInt8.toNat)).length = (inN (nats s)).length := rfl
    rw [hi]
    have hz : (⟨#[93]⟩ : ByteArray).size = 1 := rfl
    rw [hz, w64 (by omega), if_pos (by omega), if_pos (by omega), if_pos (by omega), if_pos (by omega), if_pos (by omega), Option.bind_some]
    have t1 : ((((inN (nats s)).length : Nat) : Int) + ((1 : Nat) : Int)).toNat = (inN (nats s)).length + 1 := by omega
    rw [t1, Int.toNat_natCast, hh]
    have a1 : s.extract 0 (inN (nats s)).length = strN (inN (nats s)) := by
      rw [← strN_nats (s.extract _ _), nats_ext, List.drop_zero, Nat.sub_zero, take_split _ hh]
    have a2 : s.extract ((inN (nats s)).length + 1) s.size = strN (reN (nats s)) := by
      rw [← strN_nats (s.extract _ _), nats_ext, List.take_of_length_le (by rw [List.length_drop, nats_len]; omega), drop_split _ hh]
    rw [a1, a2]
  · have hh' : ¬ hasN (s.data.toList.map UInt8.toNat) = true := hh
    rw [if_neg hh', if_neg (by decide), Option.bind_some]
    rw [Bool.not_eq_true] at hh
    obtain ⟨h1, h2⟩ := no_in (nats s) hh
    rw [h1, h2, hh, strN_nats]; rfl
/-- What stands in brackets ahead, what stands behind; are there any? -/
def tg : List Nat → List Nat × List Nat × Bool
  | [] => ([], [], false)
  | c :: t => if c = 91 then (inN t, reN t, hasN t) else ([], [], false)
theorem nats_cons (s : ByteArray) (h : 0 < s.size) : ∃ c : Nat, c < 256 ∧ bt s 0 = (c : Int) ∧ nats s = c :: nats (s.extract 1 s.size) := by
  have hl : 0 < (nats s).length := by rw [nats_len]; exact h
  refine ⟨(nats s)[0], nats_lt s _ (List.getElem_mem hl), ?_, ?_⟩
  · have := bt_nats s 0 h
    rw [List.getD_eq_getElem?_getD, List.getElem?_eq_getElem hl] at this
    exact this
  · rw [nats_ext, List.take_of_length_le (by rw [List.length_drop, nats_len]; omega)]
    have := List.drop_eq_getElem_cons hl
    rw [List.drop_zero] at this
    exact this
theorem tag_ok (s : ByteArray) (hs : s.size ≤ 1000000000) : lrc_tag.f s = some (strN (tg (nats s)).1, strN (tg (nats s)).2.1, (tg (nats s)).2.2) := by
  unfold lrc_tag.f
  by_cases h0 : s.size = 0
  · have e : nats s = [] := List.eq_nil_of_length_eq_zero (by rw [nats_len]; exact h0)
    rw [if_pos ((tl_nil s).mpr h0), e]; rfl
  · rw [if_neg (fun e => h0 ((tl_nil s).mp e)), if_pos (by omega)]
    obtain ⟨c, hc, hb, hn⟩ := nats_cons s (by omega)
    rw [hb, hn]
    by_cases h91 : c = 91
    · subst h91
      rw [if_pos (show ((91 : Nat) : Int) = 91 from rfl), if_pos (by omega), cut_ok _ (by rw [size_ext _ _ _ (by omega) (Nat.le_refl _)]; omega), Option.bind_some]; rfl
    · rw [if_neg (by omega)]
      simp only [tg, if_neg h91]; rfl
/-- Is a text a time? -/
def momB (s : ByteArray) : Bool := likeB s ⟨#[48, 48, 58, 48, 48]⟩ || (likeB s ⟨#[48, 48, 58, 48, 48, 46, 48, 48]⟩ || likeB s ⟨#[48, 48, 58, 48, 48, 46, 48, 48, 48]⟩)
theorem moment_ev (s : ByteArray) (hs : s.size ≤ 140737488355320) : Ev (fun k => lrc_Moment.f k s) (momB s) := by
  unfold lrc_Moment.f momB
  refine Ev.bind (like_ev s _ hs) ?_
  by_cases h1 : likeB s ⟨#[48, 48, 58, 48, 48]⟩ = true
  · exact Ev.itep h1 (Ev.some (by rw [h1]; rfl))
  · refine Ev.iten h1 (Ev.bind (like_ev s _ hs) ?_)
    rw [Bool.not_eq_true] at h1
    rw [h1, Bool.false_or]
    by_cases h2 : likeB s ⟨#[48, 48, 58, 48, 48, 46, 48, 48]⟩ = true
    · exact Ev.itep h2 (Ev.some (by rw [h2]; rfl))
    · refine Ev.iten h2 (Ev.bind (like_ev s _ hs) (Ev.some ?_))
      rw [Bool.not_eq_true] at h2
      rw [h2, Bool.false_or]
theorem rmoment_ev (s : ByteArray) (hs : s.size ≤ 140737488355320) : Ev (fun k => diacriticref26_Moment.f k s) (momB s) := by
  unfold diacriticref26_Moment.f momB
  refine Ev.bind (rlike_ev s _ hs) ?_
  by_cases h1 : likeB s ⟨#[48, 48, 58, 48, 48]⟩ = true
  · exact Ev.itep h1 (Ev.some (by rw [h1]; rfl))
  · refine Ev.iten h1 (Ev.bind (rlike_ev s _ hs) ?_)
    rw [Bool.not_eq_true] at h1
    rw [h1, Bool.false_or]
    by_cases h2 : likeB s ⟨#[48, 48, 58, 48, 48, 46, 48, 48]⟩ = true
    · exact Ev.itep h2 (Ev.some (by rw [h2]; rfl))
    · refine Ev.iten h2 (Ev.bind (rlike_ev s _ hs) (Ev.some ?_))
      rw [Bool.not_eq_true] at h2
      rw [h2, Bool.false_or]
theorem like_no (cs fs : List Int) (hl : cs.length = fs.length) (h : likeL cs fs = true) (hf : ∀ f ∈ fs, f ≠ 93) : ∀ c ∈ cs, c ≠ 93 := by
  induction cs generalizing fs with
  | nil => simp
  | cons c cs ih =>
    cases fs with
    | nil => simp at hl
    | cons f fs =>
      rw [likeL, Bool.and_eq_true] at h
      intro x hx
      rw [List.mem_cons] at hx
      rcases hx with rfl | hx
      · have h1 := h.1
        split at h1
        · unfold digitI at h1
          rw [Bool.and_eq_true, decide_eq_true_iff, decide_eq_true_iff] at h1
          omega
        · rw [decide_eq_true_iff] at h1
          rw [← h1]; exact hf f (by simp)
      · exact ih fs (by simpa using hl) h.2 (fun f hf' => hf f (by simp [hf'])) x hx
theorem likeB_no (s f : ByteArray) (h : likeB s f = true) (hf : ∀ x ∈ bytesOf f, x ≠ 93) : s.size = f.size ∧ ∀ c ∈ nats s, c ≠ 93 := by
  unfold likeB at h
  rw [Bool.and_eq_true, decide_eq_true_iff] at h
  refine ⟨h.1, ?_⟩
  have := like_no _ _ (by rw [len_bytesOf, len_bytesOf]; exact h.1) h.2 hf
  intro c hc e
  exact this (c : Int) (by rw [nats_bytes, List.mem_map]; exact ⟨c, hc, rfl⟩) (by rw [e]; rfl)
theorem mom_no (s : ByteArray) (h : momB s = true) : (s.size = 5 ∨ s.size = 8 ∨ s.size = 9) ∧ ∀ c ∈ nats s, c ≠ 93 := by
  unfold momB at h
  rw [Bool.or_eq_true, Bool.or_eq_true] at h
  rcases h with h | h | h
  · obtain ⟨a, b⟩ := likeB_no s _ h (by decide)
    exact ⟨.inl a, b⟩
  · obtain ⟨a, b⟩ := likeB_no s _ h (by decide)
    exact ⟨.inr (.inl a), b⟩
  · obtain ⟨a, b⟩ := likeB_no s _ h (by decide)
    exact ⟨.inr (.inr a), b⟩
/-- How many bytes the time in brackets has that stands ahead. -/
def timeN (l : List Nat) : Nat := if (tg l).2.2 = true ∧ momB (strN (tg l).1) = true then (tg l).1.length + 2 else 0
def goodT (s : ByteArray) (m : Nat) : Prop := m ≤ s.size ∧ bt s 0 = 91 ∧ bt s ((m - 1 : Nat) : Int) = 93 ∧ momB (s.extract 1 (m - 1)) = true
theorem good_time (s : ByteArray) (m : Nat) (h7 : 7 ≤ m) (h : goodT s m) : timeN (nats s) = m := by
  obtain ⟨h1, h2, h3, h4⟩ := h
  obtain ⟨c, hc, hb, hn⟩ := nats_cons s (by omega)
  have h91 : c = 91 := by omega
  subst h91
  have hm := mom_no _ h4
  have hl : (nats (s.extract 1 s.size)).length = s.size - 1 := by rw [nats_len, size_ext _ _ _ (by omega) (Nat.le_refl _)]
  have e1 : nats (s.extract 1 (m - 1)) = (nats (s.extract 1 s.size)).take (m - 2) := by
    rw [nats_ext, hn, show m - 1 - 1 = m - 2 by omega]; rfl
  have hlt : m - 2 < (nats (s.extract 1 s.size)).length := by omega
  have e2 : (nats (s.extract 1 s.size))[m - 2] = 93 := by
    have := bt_nats s (m - 1) (by omega)
    rw [h3, hn, List.getD_eq_getElem?_getD, show m - 1 = (m - 2) + 1 by omega, List.getElem?_cons_succ, List.getElem?_eq_getElem hlt] at this
    have : (93 : Int) = ((nats (s.extract 1 s.size))[m - 2] : Nat) := this
    omega
  have e3 : nats (s.extract 1 s.size) = (nats (s.extract 1 s.size)).take (m - 2) ++ 93 :: (nats (s.extract 1 s.size)).drop (m - 1) := by
    conv => lhs; rw [← List.take_append_drop (m - 2) (nats (s.extract 1 s.size)), List.drop_eq_getElem_cons hlt, e2]
    rw [show m - 2 + 1 = m - 1 by omega]
  obtain ⟨g1, g2, g3⟩ := in_split ((nats (s.extract 1 s.size)).take (m - 2)) ((nats (s.extract 1 s.size)).drop (m - 1)) (by rw [← e1]; exact hm.2)
  rw [← e3] at g1 g2 g3
  have t1 : tg (nats s) = (inN (nats (s.extract 1 s.size)), reN (nats (s.extract 1 s.size)), hasN (nats (s.extract 1 s.size))) := by rw [hn]; rfl
  unfold timeN
  rw [t1]
  simp only
  rw [if_pos ⟨g3, by rw [g1, ← e1, strN_nats]; exact h4⟩, g1, List.length_take]
  omega
theorem time_good (s : ByteArray) (h : timeN (nats s) ≠ 0) : 7 ≤ timeN (nats s) ∧ timeN (nats s) ≤ 11 ∧ goodT s (timeN (nats s)) ∧
    nats s = 91 :: ((tg (nats s)).1 ++ 93 :: (tg (nats s)).2.1) ∧ momB (strN (tg (nats s)).1) = true ∧ (tg (nats s)).2.2 = true ∧ timeN (nats s) = (tg (nats s)).1.length + 2 := by
  have hc : (tg (nats s)).2.2 = true ∧ momB (strN (tg (nats s)).1) = true := Decidable.byContradiction fun hc => h (by unfold timeN; rw [if_neg hc])
  have ht : timeN (nats s) = (tg (nats s)).1.length + 2 := by unfold timeN; rw [if_pos hc]
  have hpos : 0 < s.size := by
    apply Nat.pos_of_ne_zero
    intro e
    have e2 : nats s = [] := List.eq_nil_of_length_eq_zero (by rw [nats_len]; exact e)
    rw [e2] at hc
    simp [tg] at hc
  obtain ⟨c, hc2, hb, hn⟩ := nats_cons s hpos
  generalize nats (s.extract 1 s.size) = T at hn
  have h91 : c = 91 := by
    refine Decidable.byContradiction fun hne => ?_
    rw [hn] at hc
    simp [tg, hne] at hc
  subst h91
  have t1 : tg (nats s) = (inN T, reN T, hasN T) := by rw [hn]; rfl
  have hz := mom_no _ hc.2
  rw [size_strN] at hz
  rw [t1] at hc hz ht ⊢
  simp only at hc hz ht ⊢
  obtain ⟨s1, s2⟩ := split_in T hc.1
  have hlT : T.length = (inN T).length + (reN T).length + 1 := by
    have := congrArg List.length s1
    rw [List.length_append, List.length_cons] at this
    omega
  have hlen : s.size = (inN T).length + (reN T).length + 2 := by
    rw [← nats_len, hn, List.length_cons]; omega
  refine ⟨by omega, by omega, ⟨by omega, hb, ?_, ?_⟩, by rw [hn, ← s1], hc.2, hc.1, ht⟩
  · rw [ht, show (inN T).length + 2 - 1 = (inN T).length + 1 by omega, bt_nats s _ (by omega), hn, List.getD_eq_getElem?_getD, List.getElem?_cons_succ]
    have e : T[(inN T).length]? = some 93 := by
      have hd := drop_split T hc.1
      rw [s1, List.getElem?_append_right (by rw [← s1]; exact Nat.le_refl _), ← s1, Nat.sub_self]; rfl
    rw [e]; rfl
  · rw [ht, ← strN_nats (s.extract 1 _), nats_ext, hn]
    show momB (strN (List.take _ T)) = true
    rw [show (inN T).length + 2 - 1 - 1 = (inN T).length by omega, take_split _ hc.1]
    exact hc.2
theorem time_loop (s : ByteArray) (hs : s.size ≤ 1000000000) : ∀ (d n : Nat), n + d = 12 → 7 ≤ n → (∀ m, 7 ≤ m → m < n → ¬ goodT s m) → Ev (fun k => diacriticref26_time.l0 k s (n : Int)) ((timeN (nats s) : Nat) : Int)
  | 0, n, hn, h7, hno => by
    refine Ev.step (fun k => by rw [diacriticref26_time.l0]) (Ev.iten (by omega) (Ev.some ?_))
    have : timeN (nats s) = 0 := by
      refine Decidable.byContradiction fun hne => ?_
      obtain ⟨a, b, c, _⟩ := time_good s hne
      exact hno _ a (by omega) c
    rw [this]; rfl
  | d + 1, n, hn, h7, hno => by
    have w1 : wrap64 ((n : Int) - 1) = ((n - 1 : Nat) : Int) := by rw [w64 (by omega)]; omega
    have w2 : wrap64 ((n : Int) + 1) = ((n + 1 : Nat) : Int) := by rw [w64 (by omega)]; omega
    have next : ¬ goodT s n → Ev (fun k => diacriticref26_time.l0 k s ((n + 1 : Nat) : Int)) ((timeN (nats s) : Nat) : Int) := by
      intro hb
      refine time_loop s hs d (n + 1) (by omega) (by omega) ?_
      intro m a b c
      rcases Nat.lt_or_ge m n with h | h
      · exact hno m a h c
      · have : m = n := by omega
        subst this; exact hb c
    refine Ev.step (fun k => by rw [diacriticref26_time.l0]) (Ev.itep (by omega) ?_)
    rw [w1, w2]
    by_cases c1 : n ≤ s.size
    · refine Ev.itep (by omega) (Ev.itep (by omega) ?_)
      by_cases c2 : bt s 0 = 91
      · refine Ev.itep c2 (Ev.itep (by omega) (Ev.itep (by omega) ?_))
        by_cases c3 : bt s ((n - 1 : Nat) : Int) = 93
        · refine Ev.itep c3 (Ev.itep (by omega) (Ev.itep (by omega) ?_))
          rw [Int.toNat_natCast]
          refine Ev.bind (rmoment_ev _ (by rw [size_ext _ _ _ (by omega) (by omega)]; omega)) ?_
          by_cases c4 : momB (s.extract 1 (n - 1)) = true
          · refine Ev.itep c4 (Ev.some ?_)
            rw [good_time s n h7 ⟨c1, c2, c3, c4⟩]
          · exact Ev.iten c4 (next (fun g => c4 g.2.2.2))
        · exact Ev.iten c3 (next (fun g => c3 g.2.2.1))
      · exact Ev.iten c2 (next (fun g => c2 g.2.1))
    · exact Ev.iten (by omega) (next (fun g => c1 g.1))
theorem time_ev (s : ByteArray) (hs : s.size ≤ 1000000000) : Ev (fun k => diacriticref26_time.f k s) ((timeN (nats s) : Nat) : Int) :=
  time_loop s hs 5 7 (by omega) (by omega) (fun m a b => by omega)

end Go.Proofs.Ytbndilnbfclmbaa.Pl
