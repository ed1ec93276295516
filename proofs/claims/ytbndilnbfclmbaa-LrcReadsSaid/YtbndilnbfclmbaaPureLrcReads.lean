/- The pieces of any song, or the first line without a form, are the document's; whole they are the song: the plain law. -/
import Derived.Test.YtbndilnbfclmbaaPAllx0
import Derived.Test.YtbndilnbfclmbaaPAllx17
import Derived.Test.YtbndilnbfclmbaaPAllx19
import Derived.Test.YtbndilnbfclmbaaPAllx24
import Derived.Test.YtbndilnbfclmbaaPAllx25
import Derived.Test.YtbndilnbfclmbaaPAllx26
import Derived.Test.YtbndilnbfclmbaaPAllx4
import Derived.Test.YtbndilnbfclmbaaLlrc4
namespace Go.Proofs.Ytbndilnbfclmbaa.Pure
open Go.RowKit Go.Proofs.Ytbndilnbfclmbaa.PAll Go.Proofs.Ytbndilnbfclmbaa.Pl Go.Proofs.YtbndilnbfclmbaaW.PrintWords Go.Proofs.YtbndilnbfclmbaaW.PrintLast
set_option linter.unusedVariables false
set_option linter.unusedSimpArgs false

theorem awake26r : Ev (fun k => diacriticlaw26_awake.f k) true := Ev.of diacriticlaw26_awake.mono (k := 80) (by kernel_rfl)
/-- The pieces of a song's lines, or the first line without a form. -/
def song : List (ByteArray × ByteArray × Nat) → List Pc × Int
  | [] => ([], -1)
  | x :: r => if (pcs (nats x.1)).2 = true then
      (if (song r).2 = -1 then ((pcs (nats x.1)).1 ++ (if x.2.1.size = 0 then [] else [(true, markW, x.2.1)]) ++ (song r).1, -1) else ([], (song r).2))
    else ([], (x.2.2 : Int))
theorem song_neg (r : List (ByteArray × ByteArray × Nat)) : -1 ≤ (song r).2 := by
  induction r with
  | nil => exact Int.le_refl _
  | cons x r ih =>
    rw [song]
    split
    · split
      · exact Int.le_refl _
      · exact ih
    · show (-1 : Int) ≤ ((x.2.2 : Nat) : Int); omega
/-- Bounds: all lines together are no more than so many bytes. -/
def Small (L : List (ByteArray × ByteArray × Nat)) : Prop := ∀ x ∈ L, x.1.size ≤ 1000 ∧ x.2.1.size ≤ 1000
theorem pcs_len (l : List Nat) (hl : ∀ x ∈ l, x < 256) : (pcs l).1.length ≤ l.length + 3 := by
  by_cases h : (pcs l).2 = true
  · exact (pcs_txt l hl h).2
  · have : (pcs l).1 = [] := by
      unfold pcs at h ⊢
      split
      · rfl
      · split
        · rename_i a b; rw [if_neg a, if_pos b] at h; exact absurd rfl h
        · split
          · rename_i a b c
            rw [if_neg a, if_neg b, if_pos c] at h
            unfold noteP at h ⊢
            split
            · rename_i d; rw [if_pos d] at h; exact absurd rfl h
            · rfl
          · rfl
    rw [this]; exact Nat.zero_le _
theorem walk_loop (L : List (ByteArray × ByteArray × Nat)) (hL : L.length ≤ 100000) (hs : Small L) : ∀ (d i : Nat) (acc : List S34), i + d = L.length → acc.length ≤ 2000 * i →
    Ev (fun k => line_Walk.l0 k acc (L.map toL) ((L.map toL).length : Int) (i : Int))
      (if (song (L.drop i)).2 = -1 then (acc ++ (song (L.drop i)).1.map toP, 0, 0) else ([], 1, (song (L.drop i)).2))
  | 0, i, acc, hi, ha => by
    refine Ev.step (fun k => by rw [line_Walk.l0]) (Ev.iten (by rw [List.length_map]; omega) (Ev.some ?_))
    rw [List.drop_of_length_le (by omega), song, if_pos rfl]; simp
  | d + 1, i, acc, hi, ha => by
    have hlt : i < L.length := by omega
    have hx := hs L[i] (List.getElem_mem hlt)
    have e1 : rd_T28 (L.map toL) (i : Int) = toL L[i] := by
      simp [rd_T28, List.getD_eq_getElem?_getD, List.getElem?_eq_getElem hlt]
    have pe := pieces_ev (nats L[i].1) (nats_lt _) (by rw [nats_len]; omega)
    rw [strN_nats] at pe
    have pl := pcs_len (nats L[i].1) (nats_lt _)
    rw [nats_len] at pl
    refine Ev.step (fun k => by rw [line_Walk.l0]) (Ev.itep (by rw [List.length_map]; omega) (Ev.itep (by omega) (Ev.itep (by rw [List.length_map]; omega) ?_)))
    rw [e1, show wrap64 ((i : Int) + 1) = ((i + 1 : Nat) : Int) by rw [w64 (by omega)]; omega, List.drop_eq_getElem_cons hlt, song]
    refine Ev.bind pe ?_
    by_cases h : (pcs (nats L[i].1)).2 = true
    · rw [if_pos h]
      refine Ev.itep h (Ev.itep (by rw [List.length_map]; omega) (Ev.bindc rfl ?_))
      by_cases h0 : L[i].2.1.size = 0
      · refine Ev.itep ((tl_nil _).mpr h0) (Ev.eq (walk_loop L hL hs d (i + 1) _ (by omega) (by rw [List.length_append, List.length_map]; omega)) ?_)
        rw [if_pos h0]
        by_cases hr : (song (L.drop (i + 1))).2 = -1
        · rw [if_pos hr, if_pos hr, if_pos rfl]; simp
        · rw [if_neg hr, if_neg hr, if_neg hr]
      · have m1 : line_Mark.f [L[i].2.1] = some (true, markW, L[i].2.1) := by
          have ec : cat [L[i].2.1] = L[i].2.1 := by
            apply nats_inj
            apply ints_inj
            rw [← bytes_ints, ← bytes_ints, bytesOf_cat]; simp
          rw [mark_ok _ (by simp) (by rw [ec]; omega), ec]; rfl
        refine Ev.iten (fun e => h0 ((tl_nil _).mp e)) (Ev.bindc m1 (Ev.itep (by rw [List.length_append, List.length_map]; omega) (Ev.eq (walk_loop L hL hs d (i + 1) _ (by omega) (by rw [List.length_append, List.length_append, List.length_map]; simp; omega)) ?_)))
        rw [if_neg h0]
        by_cases hr : (song (L.drop (i + 1))).2 = -1
        · rw [if_pos hr, if_pos hr, if_pos rfl]; simp [toP]
        · rw [if_neg hr, if_neg hr, if_neg hr]
    · rw [if_neg h, if_neg (by show ¬ ((L[i].2.2 : Nat) : Int) = -1; omega)]
      exact Ev.iten h (Ev.some rfl)
theorem rparse_loop (L : List (ByteArray × ByteArray × Nat)) (hL : L.length ≤ 100000) (hs : Small L) : ∀ (d i : Nat) (acc : List S50), i + d = L.length → acc.length ≤ 2000 * i →
    Ev (fun k => diacriticref26_Parse.l0 k acc (L.map toR) (i : Int))
      (if (song (L.drop i)).2 = -1 then (acc ++ (song (L.drop i)).1.map toQ, -1) else ([], (song (L.drop i)).2))
  | 0, i, acc, hi, ha => by
    refine Ev.step (fun k => by rw [diacriticref26_Parse.l0]) (Ev.iten (by rw [List.length_map]; omega) (Ev.some ?_))
    rw [List.drop_of_length_le (by omega), song, if_pos rfl]; simp
  | d + 1, i, acc, hi, ha => by
    have hlt : i < L.length := by omega
    have hx := hs L[i] (List.getElem_mem hlt)
    have e1 : rd_T29 (L.map toR) (i : Int) = toR L[i] := by
      simp [rd_T29, List.getD_eq_getElem?_getD, List.getElem?_eq_getElem hlt]
    have pe := rpieces_ev (nats L[i].1) (nats_lt _) (by rw [nats_len]; omega)
    rw [strN_nats] at pe
    have pl := pcs_len (nats L[i].1) (nats_lt _)
    rw [nats_len] at pl
    refine Ev.step (fun k => by rw [diacriticref26_Parse.l0]) (Ev.itep (by rw [List.length_map]; omega) (Ev.itep (by omega) ?_))
    rw [e1, show wrap64 ((i : Int) + 1) = ((i + 1 : Nat) : Int) by rw [w64 (by omega)]; omega, List.drop_eq_getElem_cons hlt, song]
    refine Ev.bind pe ?_
    by_cases h : (pcs (nats L[i].1)).2 = true
    · rw [if_pos h]
      refine Ev.itep h (Ev.itep (by rw [List.length_map]; omega) (Ev.bindc rfl ?_))
      by_cases h0 : L[i].2.1.size = 0
      · refine Ev.itep ((tl_nil _).mpr h0) (Ev.eq (rparse_loop L hL hs d (i + 1) _ (by omega) (by rw [List.length_append, List.length_map]; omega)) ?_)
        rw [if_pos h0]
        by_cases hr : (song (L.drop (i + 1))).2 = -1
        · rw [if_pos hr, if_pos hr, if_pos rfl]; simp
        · rw [if_neg hr, if_neg hr, if_neg hr]
      · have m1 := put_ok (acc ++ (pcs (nats L[i].1)).1.map toQ) (nats L[i].2.1) (by rw [List.length_append, List.length_map]; omega)
        rw [strN_nats] at m1
        refine Ev.iten (fun e => h0 ((tl_nil _).mp e)) (Ev.bindc m1 (Ev.eq (rparse_loop L hL hs d (i + 1) _ (by omega) (by rw [List.length_append, List.length_append, List.length_map]; simp; omega)) ?_))
        rw [if_neg h0]
        have mk' : mk (nats L[i].2.1) = (true, markW, L[i].2.1) := by unfold mk; rw [strN_nats]
        rw [mk']
        by_cases hr : (song (L.drop (i + 1))).2 = -1
        · rw [if_pos hr, if_pos hr, if_pos rfl]; simp
        · rw [if_neg hr, if_neg hr, if_neg hr]
    · rw [if_neg h, if_neg (by show ¬ ((L[i].2.2 : Nat) : Int) = -1; omega)]
      exact Ev.iten h (Ev.some rfl)

/-! ### the charset's name -/
def csW : ByteArray := ⟨#[91, 99, 115, 58]⟩
def declOne (s : ByteArray) : Option ByteArray := if 5 ≤ s.size ∧ s.extract 0 4 = csW ∧ bt s ((s.size - 1 : Nat) : Int) = 93 then some (s.extract 4 (s.size - 1)) else none
def decl : List (ByteArray × ByteArray × Nat) → ByteArray
  | [] => ⟨#[]⟩
  | x :: r => match declOne x.1 with
    | some a => a
    | none => decl r
theorem suf_iff (s : ByteArray) : Lib.hasSuffix s.data.toList (⟨#[93]⟩ : ByteArray).data.toList = true ↔ (0 < s.size ∧ bt s ((s.size - 1 : Nat) : Int) = 93) := by
  unfold Lib.hasSuffix
  rw [List.isSuffixOf_iff_suffix]
  have hl : s.data.toList.length = s.size := rfl
  constructor
  · rintro ⟨a, ha⟩
    have hn : nats s = a.map UInt8.toNat ++ [93] := by
      unfold nats
      rw [← ha, List.map_append]; rfl
    have hz : s.size = a.length + 1 := by
      rw [← nats_len, hn]; simp
    refine ⟨by omega, ?_⟩
    rw [bt_nats s _ (by omega), hn, List.getD_eq_getElem?_getD, List.getElem?_append_right (by rw [List.length_map]; omega), List.length_map, show s.size - 1 - a.length = 0 by omega]; rfl
  · rintro ⟨h0, h1⟩
    have hne : s.data.toList ≠ [] := fun e => by rw [e] at hl; simp at hl; omega
    refine ⟨s.data.toList.dropLast, ?_⟩
    have e : s.data.toList.getLast hne = 93 := by
      rw [bt_nats s _ (by omega)] at h1
      have h2 : (nats s).getD (s.size - 1) 0 = 93 := by omega
      rw [nats, List.getD_eq_getElem?_getD, List.getElem?_map] at h2
      rw [List.getLast_eq_getElem]
      have hlt : s.size - 1 < s.data.toList.length := by omega
      rw [List.getElem?_eq_getElem hlt] at h2
      exact UInt8.toNat_inj.mp h2
    have := List.dropLast_concat_getLast hne
    rw [e] at this
    exact this
theorem pre_iff (s : ByteArray) : Lib.hasPrefix s.data.toList csW.data.toList = true ↔ s.extract 0 4 = csW := by
  rw [hp_iff]
  have hz : csW.size = 4 := rfl
  rw [hz]
  constructor
  · intro h
    apply bytesOf_inj
    rw [bytesOf_ext, List.drop_zero]; exact h
  · intro h
    rw [← h, bytesOf_ext, List.drop_zero]
theorem cutp_ok (s : ByteArray) : strings_CutPrefix.f s csW = some (if s.extract 0 4 = csW then s.extract 4 s.size else s, decide (s.extract 0 4 = csW)) := by
  unfold strings_CutPrefix.f
  have hd : Lib.hasPrefix s.data.toList csW.data.toList = decide (s.extract 0 4 = csW) := by
    rw [Bool.eq_iff_iff, pre_iff, decide_eq_true_iff]
  unfold Lib.trimPrefix
  rw [hd]
  by_cases h : s.extract 0 4 = csW
  · rw [decide_eq_true h, if_pos h, if_pos rfl]
    congr 2
    apply bytesOf_inj
    rw [bytesOf_ext, List.take_of_length_le (by rw [List.length_drop, len_bytesOf]; omega)]
    unfold bytesOf
    simp [List.map_drop]; rfl
  · rw [decide_eq_false h, if_neg h, if_neg (by decide)]
theorem rest_facts (s : ByteArray) (h : s.extract 0 4 = csW) : 4 ≤ s.size ∧ (s.extract 4 s.size).size = s.size - 4 ∧ ((0 < (s.extract 4 s.size).size ∧ bt (s.extract 4 s.size) (((s.extract 4 s.size).size - 1 : Nat) : Int) = 93) ↔ (5 ≤ s.size ∧ bt s ((s.size - 1 : Nat) : Int) = 93)) := by
  have h4 : 4 ≤ s.size := by
    have hz : (s.extract 0 4).size = 4 := by rw [h]; rfl
    rw [ByteArray.size_extract] at hz
    omega
  have hz : (s.extract 4 s.size).size = s.size - 4 := size_ext _ _ _ h4 (Nat.le_refl _)
  refine ⟨h4, hz, ?_⟩
  rw [hz]
  by_cases h5 : 5 ≤ s.size
  · have e : bt (s.extract 4 s.size) ((s.size - 4 - 1 : Nat) : Int) = bt s ((s.size - 1 : Nat) : Int) := by
      rw [bt_nats _ _ (by rw [hz]; omega), bt_nats _ _ (by omega), nats_ext, List.take_of_length_le (by rw [List.length_drop, nats_len]; omega), List.getD_eq_getElem?_getD, List.getElem?_drop, show 4 + (s.size - 4 - 1) = s.size - 1 by omega, ← List.getD_eq_getElem?_getD]
    rw [e]
    exact ⟨fun x => ⟨h5, x.2⟩, fun x => ⟨by omega, x.2⟩⟩
  · exact ⟨fun x => by omega, fun x => by omega⟩
theorem ext_ext (s : ByteArray) (h5 : 5 ≤ s.size) : (s.extract 4 s.size).extract 0 (s.size - 4 - 1) = s.extract 4 (s.size - 1) := by
  apply nats_inj
  rw [nats_ext, nats_ext, nats_ext, List.drop_zero, List.take_take]
  congr 1
  omega
theorem decl_loop (L : List (ByteArray × ByteArray × Nat)) (hL : L.length ≤ 100000) (hs : Small L) : ∀ (d i : Nat), i + d = L.length →
    Ev (fun k => lrc_Declared.l0 k (L.map toL) ((L.map toL).length : Int) (i : Int)) (decl (L.drop i))
  | 0, i, hi => by
    refine Ev.step (fun k => by rw [lrc_Declared.l0]) (Ev.iten (by rw [List.length_map]; omega) (Ev.some ?_))
    rw [List.drop_of_length_le (by omega)]; rfl
  | d + 1, i, hi => by
    have hlt : i < L.length := by omega
    have hx := hs L[i] (List.getElem_mem hlt)
    have e1 : rd_T28 (L.map toL) (i : Int) = toL L[i] := by
      simp [rd_T28, List.getD_eq_getElem?_getD, List.getElem?_eq_getElem hlt]
    have ih := decl_loop L hL hs d (i + 1) (by omega)
    refine Ev.step (fun k => by rw [lrc_Declared.l0]) (Ev.itep (by rw [List.length_map]; omega) (Ev.itep (by omega) (Ev.itep (by rw [List.length_map]; omega) ?_)))
    rw [e1, show wrap64 ((i : Int) + 1) = ((i + 1 : Nat) : Int) by rw [w64 (by omega)]; omega, List.drop_eq_getElem_cons hlt, decl]
    have no : declOne L[i].1 = none → Ev (fun k => lrc_Declared.l0 k (L.map toL) ((L.map toL).length : Int) ((i + 1 : Nat) : Int)) (match declOne L[i].1 with | some a => a | none => decl (L.drop (i + 1))) := by
      intro h; rw [h]; exact ih
    refine Ev.bindc (cutp_ok L[i].1) ?_
    by_cases h : L[i].1.extract 0 4 = csW
    · obtain ⟨r1, r2, r3⟩ := rest_facts L[i].1 h
      simp only [if_pos h, decide_eq_true h]
      refine Ev.itep trivial ?_
      have hsf : strings_HasSuffix.f (L[i].1.extract 4 L[i].1.size) (⟨#[93]⟩ : ByteArray) = some (Lib.hasSuffix (L[i].1.extract 4 L[i].1.size).data.toList (⟨#[93]⟩ : ByteArray).data.toList) := by
        unfold strings_HasSuffix.f
        rw [if_pos (by omega)]
      refine Ev.bindc hsf ?_
      by_cases h2 : 5 ≤ L[i].1.size ∧ bt L[i].1 ((L[i].1.size - 1 : Nat) : Int) = 93
      · have e : declOne L[i].1 = some (L[i].1.extract 4 (L[i].1.size - 1)) := by unfold declOne; rw [if_pos ⟨h2.1, h, h2.2⟩]
        have w1 : wrap64 (((L[i].1.extract 4 L[i].1.size).size : Int) - 1) = ((L[i].1.size - 4 - 1 : Nat) : Int) := by rw [r2, w64 (by omega)]; omega
        refine Ev.itep ((suf_iff _).mpr (r3.mpr h2)) ?_
        rw [w1, Int.toNat_natCast]
        refine Ev.itep (by omega) (Ev.itep (by rw [r2]; omega) (Ev.some ?_))
        rw [e, ext_ext _ h2.1]
      · refine Ev.iten (fun x => h2 (r3.mp ((suf_iff _).mp x))) (no ?_)
        unfold declOne; rw [if_neg (fun x => h2 ⟨x.1, x.2.2⟩)]
    · simp only [if_neg h, decide_eq_false h]
      refine Ev.iten (by decide) (no ?_)
      unfold declOne; rw [if_neg (fun x => h x.2.1)]
theorem rdecl_loop (L : List (ByteArray × ByteArray × Nat)) (hL : L.length ≤ 100000) (hs : Small L) : ∀ (d i : Nat), i + d = L.length →
    Ev (fun k => diacriticref26_Declared.l0 k (L.map toR) (i : Int)) (decl (L.drop i))
  | 0, i, hi => by
    refine Ev.step (fun k => by rw [diacriticref26_Declared.l0]) (Ev.iten (by rw [List.length_map]; omega) (Ev.some ?_))
    rw [List.drop_of_length_le (by omega)]; rfl
  | d + 1, i, hi => by
    have hlt : i < L.length := by omega
    have hx := hs L[i] (List.getElem_mem hlt)
    have e1 : rd_T29 (L.map toR) (i : Int) = toR L[i] := by
      simp [rd_T29, List.getD_eq_getElem?_getD, List.getElem?_eq_getElem hlt]
    have ih := rdecl_loop L hL hs d (i + 1) (by omega)
    refine Ev.step (fun k => by rw [diacriticref26_Declared.l0]) (Ev.itep (by rw [List.length_map]; omega) (Ev.itep (by omega) ?_))
    rw [e1, show wrap64 ((i : Int) + 1) = ((i + 1 : Nat) : Int) by rw [w64 (by omega)]; omega, List.drop_eq_getElem_cons hlt, decl]
    have no : ¬ (5 ≤ L[i].1.size ∧ L[i].1.extract 0 4 = csW ∧ bt L[i].1 ((L[i].1.size - 1 : Nat) : Int) = 93) → Ev (fun k => diacriticref26_Declared.l0 k (L.map toR) ((i + 1 : Nat) : Int)) (match declOne L[i].1 with | some a => a | none => decl (L.drop (i + 1))) := by
      intro h
      have : declOne L[i].1 = none := by unfold declOne; rw [if_neg h]
      rw [this]; exact ih
    have w1 : wrap64 ((((toR L[i]).f0).size : Int) - 1) = ((L[i].1.size : Int) - 1) := by show wrap64 ((L[i].1.size : Int) - 1) = _; rw [w64 (by omega)]
    rw [w1]
    show Ev (fun k => if (L[i].1.size : Int) ≥ 5 then _ else _) _
    by_cases c1 : 5 ≤ L[i].1.size
    · have w2 : (L[i].1.size : Int) - 1 = ((L[i].1.size - 1 : Nat) : Int) := by omega
      rw [w2]
      refine Ev.itep (by omega) (Ev.itep (by decide) (Ev.itep (by show (4 : Int) ≤ (L[i].1.size : Int); omega) ?_))
      by_cases c2 : L[i].1.extract 0 4 = csW
      · refine Ev.itep (by show (L[i].1.extract 0 4).toList = _; rw [c2, tl_data]; rfl) (Ev.itep (by omega) (Ev.itep (by show ((L[i].1.size - 1 : Nat) : Int) < (L[i].1.size : Int); omega) ?_))
        by_cases c3 : bt L[i].1 ((L[i].1.size - 1 : Nat) : Int) = 93
        · have e : declOne L[i].1 = some (L[i].1.extract 4 (L[i].1.size - 1)) := by unfold declOne; rw [if_pos ⟨c1, c2, c3⟩]
          refine Ev.itep c3 (Ev.itep (by omega) (Ev.itep (by show ((L[i].1.size - 1 : Nat) : Int) ≤ (L[i].1.size : Int); omega) (Ev.some ?_)))
          rw [e, Int.toNat_natCast]; rfl
        · exact Ev.iten c3 (no (fun x => c3 x.2.2))
      · refine Ev.iten (fun x => c2 ?_) (no (fun x => c2 x.2.1))
        apply ba_ext
        have x : (L[i].1.extract 0 4).toList = ([91, 99, 115, 58] : List UInt8) := x
        rw [tl_data] at x
        exact x
    · exact Ev.iten (by omega) (no (fun x => c1 x.1))

/-! ### the law -/
theorem chain_small (s : ByteArray) : ∀ (L : List (ByteArray × ByteArray × Nat)) (fr : Nat), Chain s fr L → ∀ x ∈ L, x.1.size ≤ s.size ∧ x.2.1.size ≤ s.size
  | [], _, _ => by simp
  | y :: r, fr, h => by
    obtain ⟨h1, h2, h3, h4⟩ := h
    intro x hx
    rw [List.mem_cons] at hx
    rcases hx with rfl | hx
    · omega
    · exact chain_small s r _ h4 x hx
theorem song_txt (s : ByteArray) : ∀ (L : List (ByteArray × ByteArray × Nat)) (fr : Nat), Chain s fr L → Small L → (song L).2 = -1 → txt (song L).1 = (nats s).drop fr ∧ (song L).1.length ≤ s.size - fr + 4 * L.length
  | [], fr, h, _, _ => by
    have h : fr = s.size := h
    rw [h, List.drop_of_length_le (by rw [nats_len]; omega)]
    exact ⟨rfl, by simp [song]⟩
  | y :: r, fr, h, hs, hn => by
    obtain ⟨h1, h2, h3, h4⟩ := h
    have hy := hs y (by simp)
    rw [song] at hn ⊢
    by_cases c1 : (pcs (nats y.1)).2 = true
    · rw [if_pos c1] at hn ⊢
      by_cases c2 : (song r).2 = -1
      · rw [if_pos c2]
        obtain ⟨i1, i2⟩ := song_txt s r _ h4 (fun x hx => hs x (by simp [hx])) c2
        obtain ⟨p1, p2⟩ := pcs_txt (nats y.1) (nats_lt _) c1
        rw [nats_len] at p2
        have hm : txt (if y.2.1.size = 0 then ([] : List Pc) else [(true, markW, y.2.1)]) = nats y.2.1 ∧ (if y.2.1.size = 0 then ([] : List Pc) else [(true, markW, y.2.1)]).length ≤ 1 := by
          by_cases c3 : y.2.1.size = 0
          · rw [if_pos c3]
            have : nats y.2.1 = [] := List.eq_nil_of_length_eq_zero (by rw [nats_len]; exact c3)
            rw [this]; exact ⟨rfl, by simp⟩
          · rw [if_neg c3]
            exact ⟨List.append_nil _, by simp⟩
        constructor
        · rw [txt_app, txt_app, p1, hm.1, i1, ← nats_app, h3, nats_ext, show fr + y.1.size + y.2.1.size - fr = y.1.size + y.2.1.size by omega, show fr + y.1.size + y.2.1.size = fr + (y.1.size + y.2.1.size) by omega, ← List.drop_drop, List.take_append_drop]
        · rw [List.length_append, List.length_append, List.length_cons]
          have := hm.2
          omega
      · rw [if_neg c2] at hn
        exact absurd hn c2
    · rw [if_neg c1] at hn
      exact absurd hn (by show ¬ ((y.2.2 : Nat) : Int) = -1; omega)
theorem LrcReads : diacriticlaw26_LrcReads.Pure := by
  intro s h0
  apply Ev.rounds
  unfold diacriticlaw26_LrcReads.f
  by_cases hc : (s.size : Int) > 1000
  · exact Ev.itep hc (Ev.bind awake26r (Ev.some rfl))
  · have hch := chain_all s
    have hsm : Small (cut s) := fun x hx => by have := chain_small s _ _ hch x hx; omega
    have hlen : (cut s).length ≤ 1000 := by
      have := cutL_len s (s.size + 1) 0 0 (Nat.le_refl _) (Nat.zero_le _)
      unfold cut; omega
    have w := walk_loop (cut s) (by omega) hsm (cut s).length 0 [] (by omega) (Nat.le_refl _)
    have p := rparse_loop (cut s) (by omega) hsm (cut s).length 0 [] (by omega) (Nat.le_refl _)
    have d1 := decl_loop (cut s) (by omega) hsm (cut s).length 0 (by omega)
    have d2 := rdecl_loop (cut s) (by omega) hsm (cut s).length 0 (by omega)
    rw [List.drop_zero, List.nil_append] at w p
    rw [List.drop_zero] at d1 d2
    have D1 : Ev (fun k => lrc_Declared.f k s) (decl (cut s)) := by
      unfold lrc_Declared.f
      exact Ev.bind (lines_ev s (by omega)) d1
    have D2 : Ev (fun k => diacriticref26_Declared.f k s) (decl (cut s)) := by
      unfold diacriticref26_Declared.f
      exact Ev.bind (rlines_ev s (by omega)) d2
    have W : Ev (fun k => lrc_Parse.f k s) (if (song (cut s)).2 = -1 then ((song (cut s)).1.map toP, 0, 0) else ([], 1, (song (cut s)).2)) := by
      unfold lrc_Parse.f line_Walk.f
      exact Ev.bind (Ev.bind (lines_ev s (by omega)) w) (Ev.some rfl)
    have P : Ev (fun k => diacriticref26_Parse.f k s) (if (song (cut s)).2 = -1 then ((song (cut s)).1.map toQ, -1) else ([], (song (cut s)).2)) := by
      unfold diacriticref26_Parse.f
      exact Ev.bind (rlines_ev s (by omega)) p
    refine Ev.iten hc (Ev.bind W (Ev.bind P (Ev.bind awake26r (Ev.itep rfl ?_))))
    by_cases hn : (song (cut s)).2 = -1
    · rw [if_pos hn, if_pos hn]
      obtain ⟨t1, t2⟩ := song_txt s (cut s) 0 hch hsm hn
      rw [List.drop_zero] at t1
      have ec := cat_txt (song (cut s)).1
      rw [t1, strN_nats] at ec
      refine Ev.bindc (show diacriticlaw23_Fault.f (-1) = some (0, 0) from rfl) (Ev.itep (by simp) (Ev.bind (same_ev _ (by omega)) (Ev.itep rfl (Ev.iten (by show ¬ ((-1 : Int) ≥ 0); decide) ?_))))
      refine Ev.bind (whole_ev _ (by rw [List.length_map]; omega) (by rw [ec]; omega)) (Ev.itep (by rw [ec]) (Ev.bind D1 (Ev.bind D2 (Ev.some (beq_self_eq_true _)))))
    · rw [if_neg hn, if_neg hn]
      have hge := song_neg (cut s)
      have hf : diacriticlaw23_Fault.f (song (cut s)).2 = some (1, (song (cut s)).2) := by
        unfold diacriticlaw23_Fault.f
        rw [if_neg (by omega)]
      refine Ev.bindc hf (Ev.itep (by simp) (Ev.bind (same_ev [] (by simp)) (Ev.itep rfl (Ev.itep (by omega) (Ev.bind D1 (Ev.bind D2 (Ev.some (beq_self_eq_true _))))))))

end Go.Proofs.Ytbndilnbfclmbaa.Pure
