/- What a frame's flags mean, which names there may be: the code's answers and the document's. -/
import Derived.Test.YtlmhlmendnjmlaaDoorPAllx17
import Derived.Test.YtlmhlmendnjmlaaDoorPAllx18
import Derived.Test.YtlmhlmendnjmlaaDoorPAllx19
import Derived.Test.YtlmhlmendnjmlaaDoorPAllx7
import Derived.Test.YtlmhlmendnjmlaaDoorPAllx8
import Derived.Test.YtlmhlmendnjmlaaDoorPAllx9
import Derived.Test.YtlmhlmendnjmlaaDoorLa
namespace Go.Proofs.YtlmhlmendnjmlaaDoor.Pl
open Go.RowKit Go.Proofs.YtlmhlmendnjmlaaDoor.PAll Go.Proofs.YtlmhlmendnjmlaaDoorW.PrintWords Go.Proofs.YtlmhlmendnjmlaaDoorW.PrintLast Go.Proofs.YtlmhlmendnjmlaaDoorW.PrintMore
set_option linter.unusedVariables false
set_option linter.unusedSimpArgs false

theorem fin_all {P : Int → Prop} (h : ∀ m : Fin 256, P ((m.val : Nat) : Int)) (n : Int) (hn : 0 ≤ n ∧ n ≤ 255) : P n := by
  obtain ⟨k, rfl⟩ := Int.eq_ofNat_of_zero_le hn.1
  exact h ⟨k, by omega⟩
def lockB (v n : Int) : Bool := (frame_Head_Locked.f ⟨#[]⟩ 0 n v).getD false
def grpB (v n : Int) : Bool := (frame_Head_Grouped.f ⟨#[]⟩ 0 n v).getD false
def meaB (v n : Int) : Bool := (frame_Head_Measured.f ⟨#[]⟩ 0 n v).getD false
def sprB (v n : Int) : Bool := (frame_Head_Spread.f ⟨#[]⟩ 0 n v).getD false
def letsI (v : Int) : Int := if v = 2 then 3 else if v = 3 then 4 else if v = 4 then 4 else 0
def letB (c : Int) : Bool := (frame_letter.f c).getD false
theorem locked_ev (s : ByteArray) (a n v : Int) : frame_Head_Locked.f s a n v = some (lockB v n) := by
  unfold lockB frame_Head_Locked.f
  by_cases h3 : v = 3
  · rw [if_pos h3]
    by_cases hb : Go.bits .and .u8 n 192 = 0
    · rw [if_pos hb]
      by_cases h4 : v = 4
      · rw [if_pos h4]; rfl
      · rw [if_neg h4]; rfl
    · rw [if_neg hb]; rfl
  · rw [if_neg h3]
    by_cases h4 : v = 4
    · rw [if_pos h4]; rfl
    · rw [if_neg h4]; rfl
theorem grouped_ev (s : ByteArray) (a n v : Int) : frame_Head_Grouped.f s a n v = some (grpB v n) := by
  unfold grpB frame_Head_Grouped.f
  rw [locked_ev, locked_ev]
  simp only [Option.bind_some]
  by_cases hl : lockB v n = true
  · rw [if_pos hl]; rfl
  rw [if_neg hl]
  by_cases h3 : v = 3
  · rw [if_pos h3]
    by_cases hb : Go.bits .and .u8 n 32 = 0
    · rw [if_pos hb]
      by_cases h4 : v = 4
      · rw [if_pos h4]; rfl
      · rw [if_neg h4]; rfl
    · rw [if_neg hb]; rfl
  · rw [if_neg h3]
    by_cases h4 : v = 4
    · rw [if_pos h4]; rfl
    · rw [if_neg h4]; rfl
theorem measured_ev (s : ByteArray) (a n v : Int) : frame_Head_Measured.f s a n v = some (meaB v n) := by
  unfold meaB frame_Head_Measured.f
  rw [locked_ev, locked_ev]
  simp only [Option.bind_some]
  by_cases hl : lockB v n = true
  · rw [if_pos hl]; rfl
  rw [if_neg hl]
  by_cases h4 : v = 4
  · rw [if_pos h4]; rfl
  · rw [if_neg h4]; rfl
theorem spread_ev (s : ByteArray) (a n v : Int) : frame_Head_Spread.f s a n v = some (sprB v n) := by
  unfold sprB frame_Head_Spread.f
  rw [locked_ev, locked_ev]
  simp only [Option.bind_some]
  by_cases hl : lockB v n = true
  · rw [if_pos hl]; rfl
  rw [if_neg hl]
  by_cases h4 : v = 4
  · rw [if_pos h4]; rfl
  · rw [if_neg h4]; rfl
theorem letters_ev (v : Int) : frame_Letters.f v = some (letsI v) := by
  unfold frame_Letters.f letsI
  by_cases h2 : v = 2
  · rw [if_pos h2, if_pos h2]
  by_cases h3 : v = 3
  · rw [if_neg h2, if_neg h2, if_pos h3, if_pos h3]
  by_cases h4 : v = 4
  · rw [if_neg h2, if_neg h2, if_neg h3, if_neg h3, if_pos h4, if_pos h4]
  · rw [if_neg h2, if_neg h2, if_neg h3, if_neg h3, if_neg h4, if_neg h4]
theorem letter_ev (c : Int) : frame_letter.f c = some (letB c) := by
  unfold letB frame_letter.f
  by_cases h1 : c ≥ 65
  · rw [if_pos h1]
    by_cases h2 : c ≤ 90
    · rw [if_pos h2]; rfl
    · rw [if_neg h2]
      by_cases h3 : c ≥ 48
      · rw [if_pos h3]; rfl
      · rw [if_neg h3]; rfl
  · rw [if_neg h1]
    by_cases h3 : c ≥ 48
    · rw [if_pos h3]; rfl
    · rw [if_neg h3]; rfl
/-- A text's bytes from a place on are all letters. -/
def allL : List Int → Bool
  | [] => true
  | c :: r => letB c && allL r
def namedB (v : Int) (s : ByteArray) : Bool := allL (bytesOf s) && (decide ((s.size : Int) = letsI v) && decide (0 < s.size))
theorem named_loop (v : Int) (s : ByteArray) (hs : s.size ≤ 100000) : ∀ (d i : Nat), i + d = s.size →
    Ev (fun k => frame_Named.l0 k v s (s.size : Int) (i : Int)) (allL ((bytesOf s).drop i) && (decide ((s.size : Int) = letsI v) && decide (0 < s.size)))
  | 0, i, hi => by
    refine Ev.step (fun k => by rw [frame_Named.l0]) (Ev.iten (by omega) (Ev.bindc (letters_ev v) ?_))
    rw [List.drop_eq_nil_of_le (by rw [len_bytesOf]; omega), allL, Bool.true_and]
    by_cases h : (s.size : Int) = letsI v
    · refine Ev.itep h (Ev.some ?_)
      rw [decide_eq_true h, Bool.true_and, ne_nilB]
    · refine Ev.iten h (Ev.some ?_)
      rw [decide_eq_false h, Bool.false_and]
  | d + 1, i, hi => by
    have w : wrap64 ((i : Int) + 1) = ((i + 1 : Nat) : Int) := by rw [w64 (by omega)]; omega
    refine Ev.step (fun k => by rw [frame_Named.l0]) ?_
    refine Ev.itep (by omega) (Ev.itep (by omega) (Ev.itep (by omega) (Ev.bindc (letter_ev _) ?_)))
    rw [w, drop_cons s i (by omega), allL]
    by_cases h : letB (bt s (i : Int)) = true
    · rw [h, Bool.true_and]
      exact Ev.itep rfl (named_loop v s hs d (i + 1) (by omega))
    · refine Ev.iten h (Ev.some ?_)
      rw [Bool.eq_false_iff.mpr h, Bool.false_and, Bool.false_and]
theorem named_ev (v : Int) (s : ByteArray) (hs : s.size ≤ 100000) : Ev (fun k => frame_Named.f k v s) (namedB v s) := by
  refine Ev.eq (named_loop v s hs s.size 0 (by omega)) ?_
  rw [List.drop_zero]; rfl

/-! ### the document's -/
theorem rletter_ev (c : Int) : diacriticref13_Letter.f c = some (letB c) := (show diacriticref13_Letter.f c = frame_letter.f c from rfl).trans (letter_ev c)
theorem rletters_ev (v : Int) : diacriticref13_Letters.f v = some (letsI v) := (show diacriticref13_Letters.f v = frame_Letters.f v from rfl).trans (letters_ev v)
theorem rnamed_loop (s : ByteArray) (hs : s.size ≤ 100000) : ∀ (d i : Nat), i + d = s.size →
    Ev (fun k => diacriticref13_Named.l0 k s (i : Int)) (allL ((bytesOf s).drop i))
  | 0, i, hi => by
    refine Ev.step (fun k => by rw [diacriticref13_Named.l0]) (Ev.iten (by omega) (Ev.some ?_))
    rw [List.drop_eq_nil_of_le (by rw [len_bytesOf]; omega), allL]
  | d + 1, i, hi => by
    have w : wrap64 ((i : Int) + 1) = ((i + 1 : Nat) : Int) := by rw [w64 (by omega)]; omega
    refine Ev.step (fun k => by rw [diacriticref13_Named.l0]) ?_
    refine Ev.itep (by omega) (Ev.itep (by omega) (Ev.bindc (rletter_ev _) ?_))
    rw [w, drop_cons s i (by omega), allL]
    by_cases h : letB (bt s (i : Int)) = true
    · rw [h, Bool.true_and]
      exact Ev.itep rfl (rnamed_loop s hs d (i + 1) (by omega))
    · refine Ev.iten h (Ev.some ?_)
      rw [Bool.eq_false_iff.mpr h, Bool.false_and]
theorem rnamed_no (s : ByteArray) : Ev (fun k => diacriticref13_Named.j0 k s true) false := by
  refine Ev.step (fun k => by rw [diacriticref13_Named.j0]) ?_
  exact Ev.itep rfl (Ev.some rfl)
theorem rnamed_ev (v : Int) (s : ByteArray) (hs : s.size ≤ 100000) : Ev (fun k => diacriticref13_Named.f k v s) (namedB v s) := by
  unfold diacriticref13_Named.f namedB
  by_cases h0 : s.size = 0
  · refine Ev.itep ((tl_nil s).mpr h0) (Ev.eq (rnamed_no s) ?_)
    rw [show decide (0 < s.size) = false from decide_eq_false (by omega), Bool.and_false, Bool.and_false]
  refine Ev.iten (fun h => h0 ((tl_nil s).mp h)) (Ev.bindc (rletters_ev v) ?_)
  rw [show decide (0 < s.size) = true from decide_eq_true (by omega), Bool.and_true]
  by_cases h : (s.size : Int) = letsI v
  · rw [decide_eq_true h, Bool.and_true, show ((s.size : Int) != letsI v) = false from by rw [bne_eq_false_iff_eq]; exact h]
    refine Ev.step (fun k => by rw [diacriticref13_Named.j0]) ?_
    refine Ev.iten (by decide) ?_
    have := rnamed_loop s hs s.size 0 (by omega)
    rw [List.drop_zero] at this
    exact this
  · rw [decide_eq_false h, Bool.and_false, show ((s.size : Int) != letsI v) = true from bne_iff_ne.mpr h]
    exact rnamed_no s
theorem rlocked_ev (v n : Int) (hn : 0 ≤ n ∧ n ≤ 255) : diacriticref13_Locked.f v n = some (lockB v n) := by
  by_cases h3 : v = 3
  · subst h3
    exact fin_all (P := fun n => diacriticref13_Locked.f 3 n = some (lockB 3 n)) (by decide +kernel) n hn
  by_cases h4 : v = 4
  · subst h4
    exact fin_all (P := fun n => diacriticref13_Locked.f 4 n = some (lockB 4 n)) (by decide +kernel) n hn
  unfold lockB diacriticref13_Locked.f frame_Head_Locked.f
  rw [if_neg h3, if_neg h4, if_neg h3, if_neg h4]; rfl
theorem rgrouped_ev (v n : Int) (hn : 0 ≤ n ∧ n ≤ 255) : diacriticref13_Grouped.f v n = some (grpB v n) := by
  by_cases h3 : v = 3
  · subst h3
    exact fin_all (P := fun n => diacriticref13_Grouped.f 3 n = some (grpB 3 n)) (by decide +kernel) n hn
  by_cases h4 : v = 4
  · subst h4
    exact fin_all (P := fun n => diacriticref13_Grouped.f 4 n = some (grpB 4 n)) (by decide +kernel) n hn
  unfold grpB diacriticref13_Grouped.f frame_Head_Grouped.f
  rw [rlocked_ev v n hn, locked_ev]
  simp only [Option.bind_some]
  rw [if_neg h3, if_neg h4, if_neg h3, if_neg h4]
  split <;> rfl
theorem rmeasured_ev (v n : Int) (hn : 0 ≤ n ∧ n ≤ 255) : diacriticref13_Measured.f v n = some (meaB v n) := by
  by_cases h4 : v = 4
  · subst h4
    exact fin_all (P := fun n => diacriticref13_Measured.f 4 n = some (meaB 4 n)) (by decide +kernel) n hn
  unfold meaB diacriticref13_Measured.f frame_Head_Measured.f
  rw [locked_ev]
  simp only [Option.bind_some]
  rw [if_neg h4, if_neg h4]
  split <;> rfl
theorem rspread_ev (v n : Int) (hn : 0 ≤ n ∧ n ≤ 255) : diacriticref13_Spread.f v n = some (sprB v n) := by
  by_cases h4 : v = 4
  · subst h4
    exact fin_all (P := fun n => diacriticref13_Spread.f 4 n = some (sprB 4 n)) (by decide +kernel) n hn
  unfold sprB diacriticref13_Spread.f frame_Head_Spread.f
  rw [locked_ev]
  simp only [Option.bind_some]
  rw [if_neg h4, if_neg h4]
  split <;> rfl
end Go.Proofs.YtlmhlmendnjmlaaDoor.Pl
