/- Texts kept from looking like sound: what is put, what is dropped; strings.ReplaceAll at two bytes for one. -/

import Derived.Lib.Replace
import Derived.Test.YtlmhlmendnjmlaaDoorLa
namespace Go.Proofs.YtlmhlmendnjmlaaDoor.Pl
open Go.RowKit Go.Proofs.YtlmhlmendnjmlaaDoor.PAll Go.Proofs.YtlmhlmendnjmlaaDoorW.PrintWords Go.Proofs.YtlmhlmendnjmlaaDoorW.PrintLast Go.Proofs.YtlmhlmendnjmlaaDoorW.PrintMore
set_option linter.unusedVariables false
set_option linter.unusedSimpArgs false

/-- Does what stands behind an FF look like sound? -/
def alarmI : List Int → Bool
  | [] => true
  | c :: _ => decide (c = 0) || decide (c ≥ 224)
def putI : List Int → List Int
  | [] => []
  | b :: r => if b = 255 ∧ alarmI r = true then b :: 0 :: putI r else b :: putI r
def cntI : List Int → Nat
  | [] => 0
  | b :: r => if b = 255 ∧ alarmI r = true then cntI r + 1 else cntI r
def dropI : List Int → List Int
  | [] => []
  | [b] => [b]
  | b :: c :: r => if b = 255 ∧ c = 0 then b :: dropI r else b :: dropI (c :: r)
def goodI : List Int → Prop
  | [] => True
  | [b] => b ≠ 255
  | b :: c :: r => (b = 255 → c < 224) ∧ goodI (c :: r)

theorem len_put (l : List Int) : (putI l).length = l.length + cntI l := by
  induction l with
  | nil => rfl
  | cons b r ih =>
    rw [putI, cntI]
    split
    · simp only [List.length_cons, ih]; omega
    · simp only [List.length_cons, ih]; omega
theorem put_clean (l : List Int) (h : cntI l = 0) : putI l = l := by
  induction l with
  | nil => rfl
  | cons b r ih =>
    rw [cntI] at h
    rw [putI]
    split at h
    · omega
    · next hc => rw [if_neg hc, ih h]
theorem drop_plain (b : Int) (r : List Int) (h : b ≠ 255) : dropI (b :: r) = b :: dropI r := by
  cases r with
  | nil => rfl
  | cons c r => rw [dropI, if_neg (fun hh => h hh.1)]
theorem drop_put (l : List Int) : dropI (putI l) = l := by
  induction l with
  | nil => rfl
  | cons b r ih =>
    rw [putI]
    split
    · next h => rw [dropI, if_pos ⟨h.1, rfl⟩, ih]
    · next h =>
      by_cases hb : b = 255
      · have ha : alarmI r = false := by
          cases he : alarmI r with
          | false => rfl
          | true => exact absurd ⟨hb, he⟩ h
        cases r with
        | nil => simp [alarmI] at ha
        | cons c r =>
          simp [alarmI] at ha
          have hp : ∃ t, putI (c :: r) = c :: t := by rw [putI]; split <;> exact ⟨_, rfl⟩
          obtain ⟨t, ht⟩ := hp
          rw [ht] at ih ⊢
          rw [dropI, if_neg (fun hh => ha.1 hh.2), ih]
      · rw [drop_plain b _ hb, ih]
theorem good_cons (b c : Int) (r : List Int) : goodI (b :: c :: r) ↔ (b = 255 → c < 224) ∧ goodI (c :: r) := Iff.rfl
theorem good_put (l : List Int) : goodI (putI l) := by
  induction l with
  | nil => exact trivial
  | cons b r ih =>
    rw [putI]
    split
    · cases hp : putI r with
      | nil => exact ⟨fun _ => by omega, by show (0 : Int) ≠ 255; omega⟩
      | cons c t => rw [hp] at ih; exact ⟨fun _ => by omega, fun h => absurd h (by omega), ih⟩
    · next h =>
      cases r with
      | nil =>
        show b ≠ 255
        intro hb
        exact h ⟨hb, rfl⟩
      | cons c r =>
        have hp : ∃ t, putI (c :: r) = c :: t := by rw [putI]; split <;> exact ⟨_, rfl⟩
        obtain ⟨t, ht⟩ := hp
        rw [ht] at ih ⊢
        refine ⟨fun hb => ?_, ih⟩
        have ha : ¬ alarmI (c :: r) = true := fun he => h ⟨hb, he⟩
        simp [alarmI] at ha
        omega
/-- What doesn't end in FF. -/
def noEnd (l : List Int) : Prop := ∀ x, l.getLast? = some x → x ≠ 255
theorem noEnd_tail {b : Int} {r : List Int} (hr : r ≠ []) (h : noEnd (b :: r)) : noEnd r := by
  intro x hx
  refine h x ?_
  rw [List.getLast?_cons, hx]; rfl
theorem parts (a b : List Int) (h : noEnd a) : putI (a ++ b) = putI a ++ putI b ∧ dropI (a ++ b) = dropI a ++ dropI b ∧ cntI (a ++ b) = cntI a + cntI b := by
  match a, h with
  | [], _ => exact ⟨rfl, rfl, by show cntI b = 0 + cntI b; omega⟩
  | [x], h =>
    have hx : x ≠ 255 := h x rfl
    refine ⟨?_, ?_, ?_⟩
    · show putI (x :: b) = putI [x] ++ putI b
      rw [putI, putI, if_neg (fun hh => hx hh.1), if_neg (fun hh => hx hh.1)]; rfl
    · show dropI (x :: b) = dropI [x] ++ dropI b
      rw [drop_plain x b hx]; rfl
    · show cntI (x :: b) = cntI [x] + cntI b
      rw [cntI, cntI, if_neg (fun hh => hx hh.1), if_neg (fun hh => hx hh.1)]
      show cntI b = 0 + cntI b; omega
  | x :: c :: r, h =>
    have hr : noEnd (c :: r) := noEnd_tail (by simp) h
    have ih := parts (c :: r) b hr
    have ha : alarmI (c :: r ++ b) = alarmI (c :: r) := rfl
    refine ⟨?_, ?_, ?_⟩
    · show putI (x :: (c :: r ++ b)) = putI (x :: c :: r) ++ putI b
      rw [putI, putI, ha]
      split
      · rw [ih.1]; rfl
      · rw [ih.1]; rfl
    · show dropI (x :: c :: (r ++ b)) = dropI (x :: c :: r) ++ dropI b
      rw [dropI, dropI]
      by_cases hc : x = 255 ∧ c = 0
      · rw [if_pos hc, if_pos hc]
        by_cases hn : r = []
        · subst hn; rfl
        · have ih2 := (parts r b (noEnd_tail hn hr)).2.1
          rw [ih2]; rfl
      · rw [if_neg hc, if_neg hc]
        have e := ih.2.1
        show x :: dropI (c :: r ++ b) = _
        rw [e]; rfl
    · show cntI (x :: (c :: r ++ b)) = cntI (x :: c :: r) + cntI b
      rw [cntI, cntI, ha, ih.2.2]
      split <;> omega
termination_by a.length

/-! ### ReplaceAll -/
def dropB : List UInt8 → List UInt8
  | [] => []
  | [b] => [b]
  | b :: c :: r => if b = 255 ∧ c = 0 then b :: dropB r else b :: dropB (c :: r)
theorem pre_two (b : UInt8) (l : List UInt8) : List.isPrefixOf [255, 0] (b :: l) = true ↔ ∃ r, b = 255 ∧ l = 0 :: r := by
  cases l with
  | nil => simp [List.isPrefixOf]
  | cons c r =>
    simp only [List.isPrefixOf, Bool.and_eq_true, beq_iff_eq, List.cons.injEq]
    constructor
    · rintro ⟨rfl, rfl, _⟩; exact ⟨r, rfl, rfl, rfl⟩
    · rintro ⟨r', rfl, rfl, _⟩; exact ⟨rfl, rfl, trivial⟩
theorem rep_drop : ∀ (n f : Nat) (s : List UInt8), s.length ≤ n → s.length < f → Lib.replaceK [255, 0] [255] (Lib.countFrom [255, 0] f s) s = dropB s
  | _, 0, s, _, h => by omega
  | n, f + 1, [], _, _ => rfl
  | 0, f + 1, b :: l, h, _ => by simp at h
  | n + 1, f + 1, b :: l, hn, hf => by
    simp only [List.length_cons] at hn hf
    by_cases hp : List.isPrefixOf [255, 0] (b :: l) = true
    · have hi : Lib.index (b :: l) [255, 0] = 0 := by rw [Lib.index, if_pos hp]
      obtain ⟨r, rfl, rfl⟩ := (pre_two b l).mp hp
      simp only [List.length_cons] at hn hf
      have hc : Lib.countFrom [255, 0] (f + 1) (255 :: 0 :: r) = Lib.countFrom [255, 0] f r + 1 := by
        rw [Lib.countFrom, hi, if_neg (by decide)]
        show 1 + Lib.countFrom [255, 0] f r = _
        omega
      have ih := rep_drop n f r (by omega) (by omega)
      rw [hc, Lib.replaceK, hi, if_neg (by decide), dropB, if_pos ⟨rfl, rfl⟩]
      show [] ++ [255] ++ Lib.replaceK [255, 0] [255] (Lib.countFrom [255, 0] f r) r = _
      rw [ih]; rfl
    · have hd : dropB (b :: l) = b :: dropB l := by
        cases l with
        | nil => rfl
        | cons c r => rw [dropB, if_neg (fun hh => hp ((pre_two b (c :: r)).mpr ⟨r, hh.1, by rw [hh.2]⟩))]
      have ih := rep_drop n (f + 1) l (by omega) (by omega)
      rw [hd, ← ih]
      have hge := Lib.index_ge l [255, 0]
      by_cases hl : Lib.index l [255, 0] = -1
      · have hi : Lib.index (b :: l) [255, 0] = -1 := by rw [Lib.index, if_neg hp, hl]; rfl
        rw [Lib.countFrom, hi, if_pos (by decide), Lib.countFrom, hl, if_pos (by decide)]; rfl
      · obtain ⟨i, hi'⟩ := Int.eq_ofNat_of_zero_le (show 0 ≤ Lib.index l [255, 0] by omega)
        have hb : (((i : Nat) : Int) == -1) = false := by rw [beq_eq_false_iff_ne]; omega
        have hb1 : ((((i + 1 : Nat)) : Int) == -1) = false := by rw [beq_eq_false_iff_ne]; omega
        have hi : Lib.index (b :: l) [255, 0] = ((i + 1 : Nat) : Int) := by
          rw [Lib.index, if_neg hp, hi', hb]
          show ((i : Int) + 1) = _
          omega
        have e1 : Lib.countFrom [255, 0] (f + 1) (b :: l) = Lib.countFrom [255, 0] f (l.drop (i + 2)) + 1 := by
          rw [Lib.countFrom, hi, hb1, Int.toNat_natCast]
          show 1 + Lib.countFrom [255, 0] f ((b :: l).drop (i + 1 + 2)) = _
          rw [show i + 1 + 2 = (i + 2) + 1 by omega, List.drop_succ_cons]; omega
        have e2 : Lib.countFrom [255, 0] (f + 1) l = Lib.countFrom [255, 0] f (l.drop (i + 2)) + 1 := by
          rw [Lib.countFrom, hi', hb, Int.toNat_natCast]
          show 1 + Lib.countFrom [255, 0] f (l.drop (i + 2)) = _
          omega
        rw [e1, e2, Lib.replaceK, Lib.replaceK, hi, hi', hb, hb1, Int.toNat_natCast, Int.toNat_natCast]
        simp only [Bool.false_eq_true, if_false, List.length_cons, List.length_nil]
        rw [show i + 1 + (0 + 1 + 1) = (i + 2) + 1 by omega, List.drop_succ_cons, List.take_succ_cons, show i + (0 + 1 + 1) = i + 2 by omega]
        simp
theorem replace_drop (s : List UInt8) : Lib.replaceAll s [255, 0] [255] = dropB s := by
  unfold Lib.replaceAll Lib.replace Lib.replaceNum Lib.count
  rw [if_neg (by decide), if_pos (by omega)]
  exact rep_drop s.length (s.length + 1) s (Nat.le_refl _) (by omega)
theorem dropB_map (l : List UInt8) : (dropB l).map (fun b => (b.toNat : Int)) = dropI (l.map fun b => (b.toNat : Int)) := by
  match l with
  | [] => rfl
  | [b] => rfl
  | b :: c :: r =>
    have h1 := dropB_map r
    have h2 := dropB_map (c :: r)
    rw [dropB, List.map_cons, List.map_cons, dropI]
    by_cases h : b = 255 ∧ c = 0
    · have h' : ((b.toNat : Int) = 255 ∧ (c.toNat : Int) = 0) := by obtain ⟨rfl, rfl⟩ := h; exact ⟨rfl, rfl⟩
      rw [if_pos h, if_pos h', List.map_cons, h1]
    · have h' : ¬ ((b.toNat : Int) = 255 ∧ (c.toNat : Int) = 0) := by
        rintro ⟨x, y⟩
        refine h ⟨UInt8.toNat_inj.mp ?_, UInt8.toNat_inj.mp ?_⟩
        · show b.toNat = 255; omega
        · show c.toNat = 0; omega
      rw [if_neg h, if_neg h', List.map_cons, h2]; rfl
theorem bytes_drop (s : ByteArray) : bytesOf (⟨(Lib.replaceAll s.data.toList [255, 0] [255]).toArray⟩ : ByteArray) = dropI (bytesOf s) := by
  rw [replace_drop]
  show ((dropB s.data.toList).toArray.toList).map (fun b : UInt8 => (b.toNat : Int)) = _
  rw [dropB_map]; rfl
end Go.Proofs.YtlmhlmendnjmlaaDoor.Pl
