/- A text's lines, the code's and the document's (of the texts Lline, Lline2). -/
import Derived.Test.YtkhiiilfokijgaaDoorPAllx0
import Derived.Test.YtkhiiilfokijgaaDoorPAllx13
import Derived.Test.YtkhiiilfokijgaaDoorPAllx20
import Derived.Test.YtkhiiilfokijgaaDoorLa
namespace Go.Proofs.YtkhiiilfokijgaaDoor.Pl
open Go.RowKit Go.Proofs.YtkhiiilfokijgaaDoor.PAll Go.Proofs.YtkhiiilfokijgaaDoorW.PrintWords Go.Proofs.YtkhiiilfokijgaaDoorW.PrintLast Go.Proofs.YtkhiiilfokijgaaDoorW.PrintMore
set_option linter.unusedVariables false
set_option linter.unusedSimpArgs false

theorem hp_iff (s p : ByteArray) : Lib.hasPrefix s.data.toList p.data.toList = true ↔ (bytesOf s).take p.size = bytesOf p := by
  unfold Lib.hasPrefix
  rw [List.isPrefixOf_iff_prefix, List.prefix_iff_eq_take]
  have hl : p.data.toList.length = p.size := rfl
  rw [hl]
  constructor
  · intro h
    show (s.data.toList.map _).take _ = p.data.toList.map _
    rw [← List.map_take, ← h]
  · intro h
    have h : (s.data.toList.map _).take _ = p.data.toList.map _ := h
    rw [← List.map_take] at h
    refine (List.map_inj_right (f := fun b : UInt8 => (b.toNat : Int)) ?_ |>.mp h).symm
    intro x y hxy
    exact UInt8.toNat_inj.mp (by simpa using Int.ofNat.inj hxy)
def endN (s : ByteArray) (i : Nat) : Nat := if bt s (i : Int) = 13 ∧ i + 1 < s.size ∧ bt s ((i + 1 : Nat) : Int) = 10 then 2 else if bt s (i : Int) = 10 ∨ bt s (i : Int) = 13 then 1 else 0
theorem endN_le (s : ByteArray) (i : Nat) (h : i < s.size) : i + endN s i ≤ s.size := by
  unfold endN; split
  · omega
  · split <;> omega
theorem hp_end (s : ByteArray) (i : Nat) (h : i < s.size) : Lib.hasPrefix (s.extract i s.size).data.toList (⟨#[13, 10]⟩ : ByteArray).data.toList = true ↔ (bt s (i : Int) = 13 ∧ i + 1 < s.size ∧ bt s ((i + 1 : Nat) : Int) = 10) := by
  rw [hp_iff, bytesOf_ext, List.take_of_length_le (l := (bytesOf s).drop i) (by rw [List.length_drop, len_bytesOf]; omega), drop_cons s i h]
  show List.take 2 _ = [13, 10] ↔ _
  by_cases h1 : i + 1 < s.size
  · rw [drop_cons s (i + 1) h1]
    simp [h1]
  · rw [List.drop_of_length_le (by rw [len_bytesOf]; omega)]
    simp [h1]
theorem end_ok (s : ByteArray) (i : Nat) (h : i < s.size) (hs : s.size ≤ 4611686018427387903) : line_end.f s (i : Int) = some (s.extract i (i + endN s i)) := by
  unfold line_end.f strings_HasPrefix.f
  rw [if_pos (by omega), if_pos (by omega), Int.toNat_natCast, Option.bind_some]
  have w1 : wrap64 ((i : Int) + 1) = ((i + 1 : Nat) : Int) := by rw [w64 (by omega)]; omega
  rw [w1, Int.toNat_natCast]
  by_cases hp : bt s (i : Int) = 13 ∧ i + 1 < s.size ∧ bt s ((i + 1 : Nat) : Int) = 10
  · rw [if_pos ((hp_end s i h).mpr hp)]
    unfold endN
    rw [if_pos hp]
    congr 1
    exact bytesOf_inj (by
      rw [bytesOf_ext, drop_cons s i h, drop_cons s (i + 1) hp.2.1, show i + 2 - i = 2 by omega, hp.1, hp.2.2]; rfl)
  · rw [if_neg (fun e => hp ((hp_end s i h).mp e)), if_pos (by omega)]
    unfold endN
    rw [if_neg hp]
    by_cases h10 : bt s (i : Int) = 10
    · rw [if_pos h10, if_pos (by omega), if_pos (by omega), if_pos (.inl h10)]
    · rw [if_neg h10]
      by_cases h13 : bt s (i : Int) = 13
      · rw [if_pos h13, if_pos (by omega), if_pos (by omega), if_pos (.inr h13)]
      · rw [if_neg h13, if_neg (by simp [h10, h13]), ext_none s i (i + 0) (by omega)]
def cutL (s : ByteArray) : Nat → Nat → Nat → List (ByteArray × ByteArray × Nat)
  | 0, _, _ => []
  | d + 1, fr, i => if i < s.size then (if endN s i = 0 then cutL s d fr (i + 1) else (s.extract fr i, s.extract i (i + endN s i), fr) :: cutL s d (i + endN s i) (i + endN s i)) else if fr < s.size then [(s.extract fr s.size, ⟨#[]⟩, fr)] else []
def cut (s : ByteArray) : List (ByteArray × ByteArray × Nat) := cutL s (s.size + 1) 0 0
def toL (x : ByteArray × ByteArray × Nat) : S53 := ⟨x.1, x.2.1, (x.2.2 : Int)⟩
theorem lines_loop (s : ByteArray) (hs : s.size ≤ 3000000000000) : ∀ (d fr i : Nat) (acc : List S53), fr ≤ i → i ≤ s.size → s.size - i < d → acc.length ≤ fr →
    Ev (fun k => line_Lines.l0 k s acc (fr : Int) (i : Int)) (acc ++ (cutL s d fr i).map toL)
  | 0, fr, i, acc, _, _, h, _ => absurd h (Nat.not_lt_zero _)
  | d + 1, fr, i, acc, h1, h2, h3, h4 => by
    refine Ev.step (fun k => by rw [line_Lines.l0]) ?_
    unfold cutL
    by_cases hi : i < s.size
    · refine Ev.itep (by omega) (Ev.bindc (end_ok s i hi (by omega)) ?_)
      rw [if_pos hi]
      have he := endN_le s i hi
      have hz : (s.extract i (i + endN s i)).size = endN s i := by rw [size_ext _ _ _ (by omega) he]; omega
      by_cases e0 : endN s i = 0
      · rw [if_pos e0]
        refine Ev.itep ((tl_nil _).mpr (by rw [hz, e0])) ?_
        rw [show wrap64 ((i : Int) + 1) = ((i + 1 : Nat) : Int) by rw [w64 (by omega)]; omega]
        exact lines_loop s hs d fr (i + 1) acc (by omega) (by omega) (by omega) h4
      · rw [if_neg e0]
        refine Ev.iten (fun e => e0 (by have := (tl_nil _).mp e; rw [hz] at this; exact this)) ?_
        refine Ev.itep (by omega) (Ev.itep (by omega) (Ev.itep (by omega) (Ev.itep (by omega) ?_)))
        rw [hz, show wrap64 ((i : Int) + (endN s i : Nat)) = ((i + endN s i : Nat) : Int) by rw [w64 (by omega)]; omega, Int.toNat_natCast, Int.toNat_natCast]
        refine Ev.eq (lines_loop s hs d (i + endN s i) (i + endN s i) _ (by omega) (by omega) (by omega) (by rw [List.length_append]; simp; omega)) ?_
        rw [List.append_assoc]; rfl
    · refine Ev.iten (by omega) ?_
      rw [if_neg hi]
      by_cases hf : fr < s.size
      · rw [if_pos hf]
        refine Ev.itep (by omega) (Ev.itep (by omega) (Ev.itep (by omega) (Ev.itep (by omega) (Ev.some ?_))))
        rw [Int.toNat_natCast]; rfl
      · rw [if_neg hf]
        exact Ev.iten (by omega) (Ev.some (by simp))
theorem lines_ev (s : ByteArray) (hs : s.size ≤ 3000000000000) : Ev (fun k => line_Lines.f k s) ((cut s).map toL) :=
  lines_loop s hs (s.size + 1) 0 0 [] (Nat.le_refl _) (Nat.zero_le _) (by omega) (Nat.le_refl _)
theorem cutL_len (s : ByteArray) : ∀ (d fr i : Nat), fr ≤ i → i ≤ s.size → (cutL s d fr i).length ≤ s.size - fr
  | 0, fr, i, _, _ => by simp [cutL]
  | d + 1, fr, i, h1, h2 => by
    unfold cutL
    by_cases hi : i < s.size
    · rw [if_pos hi]
      have he := endN_le s i hi
      by_cases e0 : endN s i = 0
      · rw [if_pos e0]
        exact cutL_len s d fr (i + 1) (by omega) (by omega)
      · rw [if_neg e0, List.length_cons]
        have := cutL_len s d (i + endN s i) (i + endN s i) (Nat.le_refl _) he
        omega
    · rw [if_neg hi]
      by_cases hf : fr < s.size
      · rw [if_pos hf]; simp; omega
      · rw [if_neg hf]; simp
theorem cut_len (s : ByteArray) (hs : s.size ≤ 1000000) : (cut s).length ≤ 1000000 := by
  have := cutL_len s (s.size + 1) 0 0 (Nat.le_refl _) (Nat.zero_le _)
  unfold cut; omega
def toR (x : ByteArray × ByteArray × Nat) : S44 := ⟨x.1, x.2.1, (x.2.2 : Int)⟩
theorem rlines_loop (s : ByteArray) (hs : s.size ≤ 3000000000000) : ∀ (d fr i : Nat) (acc : List S44), fr ≤ i → i ≤ s.size → s.size - i < d → acc.length ≤ fr →
    Ev (fun k => diacriticref22_Lines.l0 k s acc (fr : Int) (i : Int)) (acc ++ (cutL s d fr i).map toR)
  | 0, fr, i, acc, _, _, h, _ => absurd h (Nat.not_lt_zero _)
  | d + 1, fr, i, acc, h1, h2, h3, h4 => by
    refine Ev.step (fun k => by rw [diacriticref22_Lines.l0]) ?_
    unfold cutL
    by_cases hi : i < s.size
    · refine Ev.itep (by omega) (Ev.itep (by omega) ?_)
      rw [if_pos hi]
      have he := endN_le s i hi
      have w1 : wrap64 ((i : Int) + 1) = ((i + 1 : Nat) : Int) := by rw [w64 (by omega)]; omega
      have w2 : wrap64 ((i : Int) + 2) = ((i + 2 : Nat) : Int) := by rw [w64 (by omega)]; omega
      have w3 : wrap64 (wrap64 (((i + 1 : Nat) : Int) - 1) + 1) = ((i + 1 : Nat) : Int) := by
        rw [w64 (n := ((i + 1 : Nat) : Int) - 1) (by omega), w64 (by omega)]; omega
      have w4 : wrap64 (wrap64 (((i + 2 : Nat) : Int) - 1) + 1) = ((i + 2 : Nat) : Int) := by
        rw [w64 (n := ((i + 2 : Nat) : Int) - 1) (by omega), w64 (by omega)]; omega
      have one : ∀ (hh : endN s i = 1), Ev (fun k => diacriticref22_Lines.l0 k s (acc ++ [(⟨s.extract fr i, s.extract i (i + 1), (fr : Int)⟩ : S44)]) ((i + 1 : Nat) : Int) ((i + 1 : Nat) : Int)) (acc ++ ((s.extract fr i, s.extract i (i + endN s i), fr) :: cutL s d (i + endN s i) (i + endN s i)).map toR) := by
        intro hh
        refine Ev.eq (rlines_loop s hs d (i + 1) (i + 1) _ (by omega) (by omega) (by omega) (by rw [List.length_append]; simp; omega)) ?_
        rw [List.append_assoc, hh]; rfl
      by_cases h10 : bt s (i : Int) = 10
      · have hh : endN s i = 1 := by unfold endN; rw [if_neg (by omega), if_pos (.inl h10)]
        refine Ev.itep h10 (Ev.step (fun k => by rw [diacriticref22_Lines.j1]) (Ev.iten (by decide) (Ev.itep (by omega) (Ev.itep (by omega) (Ev.iten (by omega) ?_)))))
        rw [if_neg (by omega)]
        rw [w1, w3, Int.toNat_natCast, Int.toNat_natCast, Int.toNat_natCast]
        refine Ev.itep (by omega) (Ev.itep (by omega) (Ev.itep (by omega) (Ev.itep (by omega) (Ev.itep (by omega) (Ev.itep (by omega) ?_)))))
        exact one hh
      · refine Ev.iten h10 (Ev.step (fun k => by rw [diacriticref22_Lines.j1]) ?_)
        by_cases h13 : bt s (i : Int) = 13
        · refine Ev.iten (by simp [h13]) (Ev.itep (by omega) (Ev.itep (by omega) (Ev.itep h13 ?_)))
          rw [w1, w2, w3, w4, Int.toNat_natCast, Int.toNat_natCast, Int.toNat_natCast, Int.toNat_natCast]
          by_cases hl : i + 1 < s.size
          · refine Ev.itep (by omega) (Ev.itep (by omega) ?_)
            by_cases hn : bt s ((i + 1 : Nat) : Int) = 10
            · have hh : endN s i = 2 := by unfold endN; rw [if_pos ⟨h13, hl, hn⟩]
              rw [if_neg (by omega)]
              refine Ev.itep hn (Ev.itep (by omega) (Ev.itep (by omega) (Ev.itep (by omega) (Ev.itep (by omega) (Ev.itep (by omega) (Ev.itep (by omega) ?_))))))
              refine Ev.eq (rlines_loop s hs d (i + 2) (i + 2) _ (by omega) (by omega) (by omega) (by rw [List.length_append]; simp; omega)) ?_
              rw [List.append_assoc, hh]; rfl
            · have hh : endN s i = 1 := by unfold endN; rw [if_neg (fun e => hn e.2.2), if_pos (.inr h13)]
              rw [if_neg (by omega)]
              refine Ev.iten hn (Ev.itep (by omega) (Ev.itep (by omega) (Ev.itep (by omega) (Ev.itep (by omega) (Ev.itep (by omega) (Ev.itep (by omega) ?_))))))
              exact one hh
          · have hh : endN s i = 1 := by unfold endN; rw [if_neg (fun e => hl e.2.1), if_pos (.inr h13)]
            rw [if_neg (by omega)]
            refine Ev.iten (by omega) (Ev.itep (by omega) (Ev.itep (by omega) (Ev.itep (by omega) (Ev.itep (by omega) (Ev.itep (by omega) (Ev.itep (by omega) ?_))))))
            exact one hh
        · have hh : endN s i = 0 := by unfold endN; rw [if_neg (by simp [h13]), if_neg (by simp [h10, h13])]
          refine Ev.itep (by simp [h13]) ?_
          rw [if_pos hh, w1]
          exact rlines_loop s hs d fr (i + 1) acc (by omega) (by omega) (by omega) h4
    · refine Ev.iten (by omega) ?_
      rw [if_neg hi]
      by_cases hf : fr < s.size
      · rw [if_pos hf]
        refine Ev.itep (by omega) (Ev.itep (by omega) (Ev.itep (by omega) (Ev.itep (by omega) (Ev.some ?_))))
        rw [Int.toNat_natCast]; rfl
      · rw [if_neg hf]
        exact Ev.iten (by omega) (Ev.some (by simp))
theorem rlines_ev (s : ByteArray) (hs : s.size ≤ 3000000000000) : Ev (fun k => diacriticref22_Lines.f k s) ((cut s).map toR) :=
  rlines_loop s hs (s.size + 1) 0 0 [] (Nat.le_refl _) (Nat.zero_le _) (by omega) (Nat.le_refl _)

end Go.Proofs.YtkhiiilfokijgaaDoor.Pl
