/- Pieces of texts: what all layers of lines have in common; plain lemmas. -/
import Derived.Test.YtbndilnbfclmbaaPAllx0
import Derived.Test.YtbndilnbfclmbaaPAllx16
import Derived.Test.YtbndilnbfclmbaaPAllx4
import Derived.Test.YtbndilnbfclmbaaLline2
import Derived.Test.YtbndilnbfclmbaaLgood
namespace Go.Proofs.Ytbndilnbfclmbaa.Pl
open Go.RowKit Go.Proofs.Ytbndilnbfclmbaa.PAll Go.Proofs.YtbndilnbfclmbaaW.PrintWords Go.Proofs.YtbndilnbfclmbaaW.PrintLast Go.Proofs.YtbndilnbfclmbaaW.PrintMore
set_option linter.unusedVariables false
set_option linter.unusedSimpArgs false

abbrev Pc : Type := Bool × ByteArray × ByteArray
abbrev Tr : Type := ByteArray × ByteArray × Nat
def toP (x : Pc) : S34 := ⟨x.1, x.2.1, x.2.2⟩
def toQ (x : Pc) : S50 := ⟨x.1, x.2.1, x.2.2⟩
def markW : ByteArray := ⟨#[109, 97, 114, 107]⟩
def textW : ByteArray := ⟨#[116, 101, 120, 116]⟩
def mkB (s : ByteArray) : Pc := (true, markW, s)
theorem strN_cat (l : List (List Nat)) : cat (l.map strN) = strN l.flatten := by
  induction l with
  | nil => rfl
  | cons a l ih =>
    rw [List.map_cons, List.flatten_cons, strN_app, ← ih]
    apply bytesOf_inj
    rw [bytesOf_app, bytesOf_cat, bytesOf_cat]; rfl
theorem mark1 (s : ByteArray) (h : s.size ≤ 140737488355328) : line_Mark.f [s] = some (true, markW, s) := by
  have ec : cat [s] = s := by
    apply nats_inj
    apply ints_inj
    rw [← bytes_ints, ← bytes_ints, bytesOf_cat]; simp
  rw [mark_ok _ (by simp) (by rw [ec]; exact h), ec]; rfl
theorem eq_nilB (s : ByteArray) : (s.toList == ([] : List UInt8)) = decide (s.size = 0) := by
  rw [Bool.eq_iff_iff, beq_iff_eq, decide_eq_true_iff, tl_nil]
theorem put_ok (acc : List S50) (s : ByteArray) (h : acc.length < 3000000000) : diacriticref22_Put.f acc s = some (acc ++ [mkB s].map toQ) := by
  unfold diacriticref22_Put.f
  rw [if_pos (by omega)]; rfl
theorem write_ok (acc : List S50) (a b : ByteArray) (h : acc.length < 3000000000) : diacriticref22_Write.f acc a b = some (acc ++ [((false, a, b) : Pc)].map toQ) := by
  unfold diacriticref22_Write.f
  rw [if_pos (by omega)]; rfl
theorem rdP (L : List Pc) (i : Nat) (h : i < L.length) : rd_T34 (L.map toP) (i : Int) = toP L[i] := by
  simp [rd_T34, List.getD_eq_getElem?_getD, List.getElem?_eq_getElem h]
theorem rdQ (L : List Pc) (i : Nat) (h : i < L.length) : rd_T50 (L.map toQ) (i : Int) = toQ L[i] := by
  simp [rd_T50, List.getD_eq_getElem?_getD, List.getElem?_eq_getElem h]
theorem rdL (L : List Tr) (i : Nat) (h : i < L.length) : rd_T28 (L.map toL) (i : Int) = toL L[i] := by
  simp [rd_T28, List.getD_eq_getElem?_getD, List.getElem?_eq_getElem h]
theorem rdR (L : List Tr) (i : Nat) (h : i < L.length) : rd_T29 (L.map toR) (i : Int) = toR L[i] := by
  simp [rd_T29, List.getD_eq_getElem?_getD, List.getElem?_eq_getElem h]
/-- The pieces' texts, one behind the other. -/
def txt (L : List Pc) : List Nat := (L.map fun x => nats x.2.2).flatten
theorem txt_app (a b : List Pc) : txt (a ++ b) = txt a ++ txt b := by simp [txt]
theorem txt_cons (x : Pc) (r : List Pc) : txt (x :: r) = nats x.2.2 ++ txt r := by simp [txt]
theorem cat_txt (L : List Pc) : cat ((L.map toP).map (·.f2)) = strN (txt L) := by
  have e : (L.map toP).map (·.f2) = (L.map fun x => nats x.2.2).map strN := by
    rw [List.map_map, List.map_map]
    apply List.map_congr_left
    intro x _
    exact (strN_nats _).symm
  rw [e, strN_cat]; rfl
/-- A line's end as a piece. -/
def endP (x : Tr) : List Pc := if x.2.1.size = 0 then [] else [mkB x.2.1]
theorem endP_len (x : Tr) : (endP x).length ≤ 1 := by unfold endP; split <;> simp
theorem txt_end (x : Tr) : txt (endP x) = nats x.2.1 := by
  unfold endP
  split
  · rename_i h
    have : nats x.2.1 = [] := List.eq_nil_of_length_eq_zero (by rw [nats_len]; exact h)
    rw [this]; rfl
  · rw [txt_cons]; simp [txt, mkB]
/-- Bounds: a line's text and end. -/
def Small (L : List Tr) : Prop := ∀ x ∈ L, x.1.size ≤ 100000 ∧ x.2.1.size ≤ 100000
theorem chain_small (s : ByteArray) : ∀ (L : List Tr) (fr : Nat), Chain s fr L → ∀ x ∈ L, x.1.size ≤ s.size ∧ x.2.1.size ≤ s.size
  | [], _, _, _, h => absurd h (by simp)
  | y :: r, fr, hc, x, hx => by
    obtain ⟨h1, h2, h3, h4⟩ := hc
    rcases List.mem_cons.mp hx with rfl | hx
    · omega
    · exact chain_small s r _ h4 x hx
theorem small_cut (s : ByteArray) (h : s.size ≤ 100000) : Small (cut s) := fun x hx => by
  have := chain_small s _ _ (chain_all s) x hx; omega
theorem cut_le (s : ByteArray) : (cut s).length ≤ s.size := by
  have := cutL_len s (s.size + 1) 0 0 (Nat.le_refl _) (Nat.zero_le _)
  unfold cut; omega

end Go.Proofs.Ytbndilnbfclmbaa.Pl
