/- Lines of a text, digits, forms: what the printed functions say, in plain words. -/
import Derived.Test.YtkhiiilfokijgaaDoorPAllx0
import Derived.Test.YtkhiiilfokijgaaDoorPAllx10
import Derived.Test.YtkhiiilfokijgaaDoorPAllx13
import Derived.Test.YtkhiiilfokijgaaDoorPAllx14
import Derived.Test.YtkhiiilfokijgaaDoorPAllx6
import Derived.Test.YtkhiiilfokijgaaDoorPAllx8
import Derived.Test.YtkhiiilfokijgaaDoorPAllx9
import Derived.Test.YtkhiiilfokijgaaDoorLa
import Derived.Test.YtkhiiilfokijgaaDoorLjoin
namespace Go.Proofs.YtkhiiilfokijgaaDoor.Pl
open Go.RowKit Go.Proofs.YtkhiiilfokijgaaDoor.PAll Go.Proofs.YtkhiiilfokijgaaDoorW.PrintWords Go.Proofs.YtkhiiilfokijgaaDoorW.PrintLast Go.Proofs.YtkhiiilfokijgaaDoorW.PrintMore
set_option linter.unusedVariables false
set_option linter.unusedSimpArgs false

theorem hp_iff (s p : ByteArray) : Lib.hasPrefix s.data.toList p.data.toList = true ↔ (bytesOf s).take p.size = bytesOf p := by
  unfold Lib.hasPrefix
  rw [List.isPrefixOf_iff_prefix, List.prefix_iff_eq_take]
  have hl : p.data.toList.length = p.size := rfl
  rw [hl]
  constructor
  · intro h
    show (s.data.toList.map _).take _ = p.data.toList.map _
    rw [← List.map_take, ← h]
  · intro h
    have h : (s.data.toList.map _).take _ = p.data.toList.map _ := h
    rw [← List.map_take] at h
    refine (List.map_inj_right (f := fun b : UInt8 => (b.toNat : Int)) ?_ |>.mp h).symm
    intro x y hxy
    exact UInt8.toNat_inj.mp (by simpa using Int.ofNat.inj hxy)
/-- How many bytes the line's end at a place has. -/
def endN (s : ByteArray) (i : Nat) : Nat := if bt s (i : Int) = 13 ∧ i + 1 < s.size ∧ bt s ((i + 1 : Nat) : Int) = 10 then 2 else if bt s (i : Int) = 10 ∨ bt s (i : Int) = 13 then 1 else 0
theorem endN_le (s : ByteArray) (i : Nat) (h : i < s.size) : i + endN s i ≤ s.size := by
  unfold endN; split
  · omega
  · split <;> omega
theorem hp_end (s : ByteArray) (i : Nat) (h : i < s.size) : Lib.hasPrefix (s.extract i s.size).data.toList (⟨#[13, 10]⟩ : ByteArray).data.toList = true ↔ (bt s (i : Int) = 13 ∧ i + 1 < s.size ∧ bt s ((i + 1 : Nat) : Int) = 10) := by
  rw [hp_iff, bytesOf_ext, List.take_of_length_le (l := (bytesOf s).drop i) (by rw [List.length_drop, len_bytesOf]; omega), drop_cons s i h]
  show List.take 2 _ = [13, 10] ↔ _
  by_cases h1 : i + 1 < s.size
  · rw [drop_cons s (i + 1) h1]
    simp [h1]
  · rw [List.drop_of_length_le (by rw [len_bytesOf]; omega)]
    simp [h1]
theorem end_ok (s : ByteArray) (i : Nat) (h : i < s.size) (hs : s.size ≤ 4611686018427387903) : line_end.f s (i : Int) = some (s.extract i (i + endN s i)) := by
  unfold line_end.f strings_HasPrefix.f
  rw [if_pos (by omega), if_pos (by omega), Int.toNat_natCast, Option.bind_some]
  have w1 : wrap64 ((i : Int) + 1) = ((i + 1 : Nat) : Int) := by rw [w64 (by omega)]; omega
  rw [w1, Int.toNat_natCast]
  by_cases hp : bt s (i : Int) = 13 ∧ i + 1 < s.size ∧ bt s ((i + 1 : Nat) : Int) = 10
  · rw [if_pos ((hp_end s i h).mpr hp)]
    unfold endN
    rw [if_pos hp]
    congr 1
    exact bytesOf_inj (by
      rw [bytesOf_ext, drop_cons s i h, drop_cons s (i + 1) hp.2.1, show i + 2 - i = 2 by omega, hp.1, hp.2.2]; rfl)
  · rw [if_neg (fun e => hp ((hp_end s i h).mp e)), if_pos (by omega)]
    unfold endN
    rw [if_neg hp]
    by_cases h10 : bt s (i : Int) = 10
    · rw [if_pos h10, if_pos (by omega), if_pos (by omega), if_pos (.inl h10)]
    · rw [if_neg h10]
      by_cases h13 : bt s (i : Int) = 13
      · rw [if_pos h13, if_pos (by omega), if_pos (by omega), if_pos (.inr h13)]
      · rw [if_neg h13, if_neg (by simp [h10, h13]), ext_none s i (i + 0) (by omega)]

/-- A text's lines from a place on (rounds, the line's beginning, the place): text, end, beginning. -/
def cutL (s : ByteArray) : Nat → Nat → Nat → List (ByteArray × ByteArray × Nat)
  | 0, _, _ => []
  | d + 1, fr, i => if i < s.size then (if endN s i = 0 then cutL s d fr (i + 1) else (s.extract fr i, s.extract i (i + endN s i), fr) :: cutL s d (i + endN s i) (i + endN s i)) else if fr < s.size then [(s.extract fr s.size, ⟨#[]⟩, fr)] else []
def cut (s : ByteArray) : List (ByteArray × ByteArray × Nat) := cutL s (s.size + 1) 0 0
def toL (x : ByteArray × ByteArray × Nat) : S53 := ⟨x.1, x.2.1, (x.2.2 : Int)⟩

theorem lines_loop (s : ByteArray) (hs : s.size ≤ 3000000000000) : ∀ (d fr i : Nat) (acc : List S53), fr ≤ i → i ≤ s.size → s.size - i < d → acc.length ≤ fr →
    Ev (fun k => line_Lines.l0 k s acc (fr : Int) (i : Int)) (acc ++ (cutL s d fr i).map toL)
  | 0, fr, i, acc, _, _, h, _ => absurd h (Nat.not_lt_zero _)
  | d + 1, fr, i, acc, h1, h2, h3, h4 => by
    refine Ev.step (fun k => by rw [line_Lines.l0]) ?_
    unfold cutL
    by_cases hi : i < s.size
    · refine Ev.itep (by omega) (Ev.bindc (end_ok s i hi (by omega)) ?_)
      rw [if_pos hi]
      have he := endN_le s i hi
      have hz : (s.extract i (i + endN s i)).size = endN s i := by rw [size_ext _ _ _ (by omega) he]; omega
      by_cases e0 : endN s i = 0
      · rw [if_pos e0]
        refine Ev.itep ((tl_nil _).mpr (by rw [hz, e0])) ?_
        rw [show wrap64 ((i : Int) + 1) = ((i + 1 : Nat) : Int) by rw [w64 (by omega)]; omega]
        exact lines_loop s hs d fr (i + 1) acc (by omega) (by omega) (by omega) h4
      · rw [if_neg e0]
        refine Ev.iten (fun e => e0 (by have := (tl_nil _).mp e; rw [hz] at this; exact this)) ?_
        refine Ev.itep (by omega) (Ev.itep (by omega) (Ev.itep (by omega) (Ev.itep (by omega) ?_)))
        rw [hz, show wrap64 ((i : Int) + (endN s i : Nat)) = ((i + endN s i : Nat) : Int) by rw [w64 (by omega)]; omega, Int.toNat_natCast, Int.toNat_natCast]
        refine Ev.eq (lines_loop s hs d (i + endN s i) (i + endN s i) _ (by omega) (by omega) (by omega) (by rw [List.length_append]; simp; omega)) ?_
        rw [List.append_assoc]; rfl
    · refine Ev.iten (by omega) ?_
      rw [if_neg hi]
      by_cases hf : fr < s.size
      · rw [if_pos hf]
        refine Ev.itep (by omega) (Ev.itep (by omega) (Ev.itep (by omega) (Ev.itep (by omega) (Ev.some ?_))))
        rw [Int.toNat_natCast]; rfl
      · rw [if_neg hf]
        exact Ev.iten (by omega) (Ev.some (by simp))
theorem lines_ev (s : ByteArray) (hs : s.size ≤ 3000000000000) : Ev (fun k => line_Lines.f k s) ((cut s).map toL) :=
  lines_loop s hs (s.size + 1) 0 0 [] (Nat.le_refl _) (Nat.zero_le _) (by omega) (Nat.le_refl _)

/-- Lines that are, one behind the other, a text from a place on. -/
def Chain (s : ByteArray) : Nat → List (ByteArray × ByteArray × Nat) → Prop
  | fr, [] => fr = s.size
  | fr, x :: r => x.2.2 = fr ∧ fr + x.1.size + x.2.1.size ≤ s.size ∧ x.1 ++ x.2.1 = s.extract fr (fr + x.1.size + x.2.1.size) ∧ Chain s (fr + x.1.size + x.2.1.size) r
theorem chain_cut (s : ByteArray) : ∀ (d fr i : Nat), fr ≤ i → i ≤ s.size → s.size - i < d → Chain s fr (cutL s d fr i)
  | 0, fr, i, _, _, h => absurd h (Nat.not_lt_zero _)
  | d + 1, fr, i, h1, h2, h3 => by
    unfold cutL
    by_cases hi : i < s.size
    · rw [if_pos hi]
      have he := endN_le s i hi
      by_cases e0 : endN s i = 0
      · rw [if_pos e0]
        exact chain_cut s d fr (i + 1) (by omega) (by omega) (by omega)
      · rw [if_neg e0]
        have z1 : (s.extract i (i + endN s i)).size = endN s i := by rw [size_ext _ _ _ (by omega) he]; omega
        have z2 : (s.extract fr i).size = i - fr := size_ext _ _ _ h1 h2
        have e : fr + (i - fr) + endN s i = i + endN s i := by omega
        refine ⟨rfl, ?_, ?_, ?_⟩
        · simp only [z1, z2]; omega
        · simp only [z1, z2]; rw [e]; exact ext_glue s fr i _ h1 (by omega)
        · simp only [z1, z2]; rw [e]; exact chain_cut s d _ _ (Nat.le_refl _) he (by omega)
    · rw [if_neg hi]
      by_cases hf : fr < s.size
      · rw [if_pos hf]
        have z2 : (s.extract fr s.size).size = s.size - fr := size_ext _ _ _ (by omega) (Nat.le_refl _)
        have z0 : (⟨#[]⟩ : ByteArray).size = 0 := rfl
        refine ⟨rfl, ?_, ?_, ?_⟩
        · simp only [z2, z0]; omega
        · simp only [z2, z0]; rw [show fr + (s.size - fr) + 0 = s.size by omega]
          exact bytesOf_inj (by rw [bytesOf_app, bytesOf_nil, List.append_nil])
        · simp only [z2, z0]; show fr + (s.size - fr) + 0 = s.size; omega
      · rw [if_neg hf]
        show fr = s.size
        omega
theorem chain_all (s : ByteArray) : Chain s 0 (cut s) := chain_cut s _ 0 0 (Nat.le_refl _) (Nat.zero_le _) (by omega)

theorem cutL_len (s : ByteArray) : ∀ (d fr i : Nat), fr ≤ i → i ≤ s.size → (cutL s d fr i).length ≤ s.size - fr
  | 0, fr, i, _, _ => by simp [cutL]
  | d + 1, fr, i, h1, h2 => by
    unfold cutL
    by_cases hi : i < s.size
    · rw [if_pos hi]
      have he := endN_le s i hi
      by_cases e0 : endN s i = 0
      · rw [if_pos e0]
        exact cutL_len s d fr (i + 1) (by omega) (by omega)
      · rw [if_neg e0, List.length_cons]
        have := cutL_len s d (i + endN s i) (i + endN s i) (Nat.le_refl _) he
        omega
    · rw [if_neg hi]
      by_cases hf : fr < s.size
      · rw [if_pos hf]; simp; omega
      · rw [if_neg hf]; simp
theorem cut_len (s : ByteArray) (hs : s.size ≤ 1000000) : (cut s).length ≤ 1000000 := by
  have := cutL_len s (s.size + 1) 0 0 (Nat.le_refl _) (Nat.zero_le _)
  unfold cut; omega

/-! ### digits, capitals, forms -/
def digitI (c : Int) : Bool := decide (48 ≤ c) && decide (c ≤ 57)
def spanI (c : Int) (x : ByteArray) : Bool := decide (bt x 0 ≤ c) && decide (c ≤ bt x 1)
theorem all_inner (s : ByteArray) (xs : List ByteArray) (hx : ∀ x ∈ xs, x.size = 2) (hl : xs.length < 1000) (i : Nat) (hi : i < s.size) (m : Int) (r : Bool) : ∀ (d j : Nat) (b : Bool), j + d = xs.length →
    Ev (fun k => if (b || (xs.drop j).any (spanI (bt s (i : Int)))) = true then line_all.l0 k s xs m (wrap64 ((i : Int) + 1)) else some false) r →
    Ev (fun k => line_all.l1 k s xs (i : Int) b m (i : Int) xs (xs.length : Int) (j : Int)) r
  | 0, j, b, hj, h => by
    refine Ev.step (fun k => by rw [line_all.l1]) ?_
    refine Ev.iten (by omega) ?_
    rw [List.drop_of_length_le (by omega), List.any_nil, Bool.or_false] at h
    exact h
  | d + 1, j, b, hj, h => by
    have hlt : j < xs.length := by omega
    have e : rdOf ByteArray.empty xs (j : Int) = xs[j] := by
      simp [rdOf, List.getD_eq_getElem?_getD, List.getElem?_eq_getElem hlt]
    refine Ev.step (fun k => by rw [line_all.l1]) ?_
    refine Ev.itep (by omega) (Ev.itep (by omega) (Ev.itep (by omega) ?_))
    rw [e, show wrap64 ((j : Int) + 1) = ((j + 1 : Nat) : Int) by rw [w64 (by omega)]; omega]
    have h2 := hx xs[j] (List.getElem_mem hlt)
    rw [List.drop_eq_getElem_cons hlt, List.any_cons] at h
    cases b with
    | true =>
      refine Ev.itep rfl (all_inner s xs hx hl i hi m r d (j + 1) true (by omega) ?_)
      simpa using h
    | false =>
      refine Ev.iten (by decide) (Ev.itep (by omega) (Ev.itep (by omega) (Ev.itep (by omega) ?_)))
      by_cases hc : bt s (i : Int) ≥ bt xs[j] 0
      · refine Ev.itep hc (Ev.itep (by omega) ?_)
        refine all_inner s xs hx hl i hi m r d (j + 1) _ (by omega) ?_
        have : spanI (bt s (i : Int)) xs[j] = decide (bt s (i : Int) ≤ bt xs[j] 1) := by
          unfold spanI; rw [decide_eq_true (show bt xs[j] 0 ≤ bt s (i : Int) from hc), Bool.true_and]
        rw [this, Bool.false_or] at h
        exact h
      · refine Ev.iten hc (all_inner s xs hx hl i hi m r d (j + 1) false (by omega) ?_)
        have : spanI (bt s (i : Int)) xs[j] = false := by
          unfold spanI; rw [decide_eq_false (show ¬ bt xs[j] 0 ≤ bt s (i : Int) from hc), Bool.false_and]
        rw [this, Bool.false_or] at h
        exact h
theorem all_loop (s : ByteArray) (hs : s.size ≤ 140737488355328) (xs : List ByteArray) (hx : ∀ x ∈ xs, x.size = 2) (hl : xs.length < 1000) : ∀ (d i : Nat), i + d = s.size →
    Ev (fun k => line_all.l0 k s xs (s.size : Int) (i : Int)) (((bytesOf s).drop i).all (fun c => xs.any (spanI c)) && (s.toList != ([] : List UInt8)))
  | 0, i, hi => by
    refine Ev.step (fun k => by rw [line_all.l0]) ?_
    refine Ev.iten (by omega) (Ev.some ?_)
    rw [List.drop_of_length_le (by rw [len_bytesOf]; omega), List.all_nil, Bool.true_and]
  | d + 1, i, hi => by
    have hlt : i < s.size := by omega
    refine Ev.step (fun k => by rw [line_all.l0]) ?_
    refine Ev.itep (by omega) (all_inner s xs hx hl i hlt _ _ xs.length 0 false (by omega) ?_)
    rw [List.drop_zero, Bool.false_or, drop_cons s i hlt, List.all_cons]
    by_cases hc : xs.any (spanI (bt s (i : Int))) = true
    · refine Ev.itep hc ?_
      rw [hc, Bool.true_and, show wrap64 ((i : Int) + 1) = ((i + 1 : Nat) : Int) by rw [w64 (by omega)]; omega]
      exact all_loop s hs xs hx hl d (i + 1) (by omega)
    · refine Ev.iten hc (Ev.some ?_)
      rw [Bool.not_eq_true] at hc
      rw [hc]; rfl
def digitsB (s : ByteArray) : Bool := (bytesOf s).all digitI && decide (0 < s.size)
def capI (c : Int) : Bool := digitI c || (decide (65 ≤ c) && decide (c ≤ 90))
def capsB (s : ByteArray) : Bool := (bytesOf s).all capI && decide (0 < s.size)
theorem digits_ev (s : ByteArray) (hs : s.size ≤ 140737488355328) : Ev (fun k => line_Digits.f k s) (digitsB s) := by
  unfold line_Digits.f line_all.f
  refine Ev.bind (all_loop s hs _ (by simp; rfl) (by simp) s.size 0 (by omega)) (Ev.some ?_)
  rw [ne_nilB, List.drop_zero]
  unfold digitsB
  congr 2
  funext c
  rw [List.any_cons, List.any_nil, Bool.or_false]; rfl
theorem caps_ev (s : ByteArray) (hs : s.size ≤ 140737488355328) : Ev (fun k => line_Capitals.f k s) (capsB s) := by
  unfold line_Capitals.f line_all.f
  refine Ev.bind (all_loop s hs _ (by simp; exact ⟨rfl, rfl⟩) (by simp) s.size 0 (by omega)) (Ev.some ?_)
  rw [ne_nilB, List.drop_zero]
  unfold capsB
  congr 2
  funext c
  rw [List.any_cons, List.any_cons, List.any_nil, Bool.or_false, Bool.or_comm]; rfl
/-- Has a text a form (both as lists)? -/
def likeL : List Int → List Int → Bool
  | c :: cs, f :: fs => (if f = 48 then digitI c else decide (f = c)) && likeL cs fs
  | _, _ => true
def likeB (s f : ByteArray) : Bool := decide (s.size = f.size) && likeL (bytesOf s) (bytesOf f)
theorem one_ext (s : ByteArray) (i : Nat) (h : i < s.size) : bytesOf (s.extract i (i + 1)) = [bt s (i : Int)] := by
  rw [bytesOf_ext, drop_cons s i h, show i + 1 - i = 1 by omega]; rfl
theorem digits_one (s : ByteArray) (i : Nat) (h : i < s.size) : digitsB (s.extract i (i + 1)) = digitI (bt s (i : Int)) := by
  unfold digitsB
  rw [one_ext s i h, size_ext _ _ _ (by omega) (by omega)]
  simp
theorem like_loop (s f : ByteArray) (hs : s.size ≤ 140737488355320) (hf : s.size = f.size) : ∀ (d i : Nat), i + d = s.size →
    Ev (fun k => line_Like.l0 k s f (s.size : Int) (i : Int)) (likeL ((bytesOf s).drop i) ((bytesOf f).drop i))
  | 0, i, hi => by
    refine Ev.step (fun k => by rw [line_Like.l0]) ?_
    refine Ev.iten (by omega) (Ev.some ?_)
    rw [List.drop_of_length_le (by rw [len_bytesOf]; omega)]; rfl
  | d + 1, i, hi => by
    have hlt : i < s.size := by omega
    refine Ev.step (fun k => by rw [line_Like.l0]) ?_
    rw [drop_cons s i hlt, drop_cons f i (by omega)]
    have w1 : wrap64 ((i : Int) + 1) = ((i + 1 : Nat) : Int) := by rw [w64 (by omega)]; omega
    refine Ev.itep (by omega) (Ev.itep (by omega) (Ev.itep (by omega) ?_))
    rw [w1]
    show Ev _ ((if bt f (i : Int) = 48 then digitI (bt s (i : Int)) else decide (bt f (i : Int) = bt s (i : Int))) && likeL ((bytesOf s).drop (i + 1)) ((bytesOf f).drop (i + 1)))
    have ih := like_loop s f hs hf d (i + 1) (by omega)
    by_cases h48 : bt f (i : Int) = 48
    · refine Ev.itep h48 (Ev.itep (by omega) (Ev.itep (by omega) ?_))
      rw [if_pos h48, Int.toNat_natCast, Int.toNat_natCast]
      refine Ev.bind (digits_ev _ (by rw [size_ext _ _ _ (by omega) (by omega)]; omega)) ?_
      rw [digits_one s i hlt]
      by_cases hd : digitI (bt s (i : Int)) = true
      · refine Ev.itep hd ?_
        rw [hd, Bool.true_and]; exact ih
      · refine Ev.iten hd (Ev.some ?_)
        rw [Bool.not_eq_true] at hd
        rw [hd]; rfl
    · refine Ev.iten h48 (Ev.itep (by omega) ?_)
      rw [if_neg h48]
      by_cases hc : bt s (i : Int) = bt f (i : Int)
      · refine Ev.itep hc ?_
        rw [decide_eq_true hc.symm, Bool.true_and]; exact ih
      · refine Ev.iten hc (Ev.some ?_)
        rw [decide_eq_false (fun e => hc e.symm)]; rfl
theorem like_ev (s f : ByteArray) (hs : s.size ≤ 140737488355320) : Ev (fun k => line_Like.f k s f) (likeB s f) := by
  unfold line_Like.f likeB
  by_cases h : s.size = f.size
  · refine Ev.itep (by omega) ?_
    rw [decide_eq_true h, Bool.true_and]
    exact like_loop s f hs h s.size 0 (by omega)
  · refine Ev.iten (by omega) (Ev.some ?_)
    rw [decide_eq_false h]; rfl
/-- The pieces' texts, one behind the other. -/
theorem whole_loop (l : List S30) (h1 : l.length ≤ 1000000) (h2 : (cat (l.map (·.f2))).size ≤ 140737488355328) : ∀ (d i : Nat), i + d = l.length →
    Ev (fun k => line_Whole.l0 k ((l.take i).map (·.f2)) l (l.length : Int) (i : Int)) (cat (l.map (·.f2)))
  | 0, i, hi => by
    refine Ev.step (fun k => by rw [line_Whole.l0]) ?_
    rw [List.take_of_length_le (by omega)]
    exact Ev.iten (by omega) (Ev.bindc (join_ok _ (by rw [List.length_map]; omega) h2) (Ev.some rfl))
  | d + 1, i, hi => by
    have hlt : i < l.length := by omega
    have e : rd_T30 l (i : Int) = l[i] := by
      simp [rd_T30, List.getD_eq_getElem?_getD, List.getElem?_eq_getElem hlt]
    refine Ev.step (fun k => by rw [line_Whole.l0]) ?_
    refine Ev.itep (by omega) (Ev.itep (by omega) (Ev.itep (by omega) (Ev.itep (by rw [List.length_map, List.length_take]; omega) ?_)))
    rw [e, show wrap64 ((i : Int) + 1) = ((i + 1 : Nat) : Int) by rw [w64 (by omega)]; omega]
    have ht : (l.take (i + 1)).map (·.f2) = (l.take i).map (·.f2) ++ [l[i].f2] := by
      rw [List.take_succ_eq_append_getElem hlt, List.map_append]; rfl
    rw [← ht]
    exact whole_loop l h1 h2 d (i + 1) (by omega)
theorem whole_ev (l : List S30) (h1 : l.length ≤ 1000000) (h2 : (cat (l.map (·.f2))).size ≤ 140737488355328) : Ev (fun k => line_Whole.f k l) (cat (l.map (·.f2))) :=
  whole_loop l h1 h2 l.length 0 (by omega)
theorem mark_ok (l : List ByteArray) (h1 : l.length ≤ 140737488355328) (h2 : (cat l).size ≤ 140737488355328) : line_Mark.f l = some (true, ⟨#[109, 97, 114, 107]⟩, cat l) := by
  unfold line_Mark.f
  rw [join_ok l h1 h2]; rfl

end Go.Proofs.YtkhiiilfokijgaaDoor.Pl
