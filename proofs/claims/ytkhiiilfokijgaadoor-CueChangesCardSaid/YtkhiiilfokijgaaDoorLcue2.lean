/- A sheet's line in pieces, whole: what the printed function says; and the line with another text. -/
import Derived.Test.YtkhiiilfokijgaaDoorPAllx10
import Derived.Test.YtkhiiilfokijgaaDoorPAllx11
import Derived.Test.YtkhiiilfokijgaaDoorPAllx8
import Derived.Test.YtkhiiilfokijgaaDoorPAllx9
import Derived.Test.YtkhiiilfokijgaaDoorLcue
namespace Go.Proofs.YtkhiiilfokijgaaDoor.Pl
open Go.RowKit Go.Proofs.YtkhiiilfokijgaaDoor.PAll Go.Proofs.YtkhiiilfokijgaaDoorW.PrintWords Go.Proofs.YtkhiiilfokijgaaDoorW.PrintLast Go.Proofs.YtkhiiilfokijgaaDoorW.PrintMore
set_option linter.unusedVariables false
set_option linter.unusedSimpArgs false

/-! ### a file's name and kind -/
def lastN (a : List Nat) : Int := Lib.lastIndexByte (strN a) 32
theorem last_spec (a : List Nat) (ha : Byt a) : (lastN a = -1 ∧ ∀ x ∈ a, x ≠ 32) ∨ ∃ u k, a = u ++ 32 :: k ∧ lastN a = (u.length : Int) ∧ ∀ x ∈ k, x ≠ 32 := by
  have hsz : (strN a).size = a.length := size_strN a
  have hget : ∀ j, (hj : j < a.length) → ((strN a).data[j]!).toNat = a[j] := by
    intro j hj
    have h1 : (nats (strN a))[j]? = some a[j] := by rw [nats_strN ha, List.getElem?_eq_getElem hj]
    have hj2 : j < (strN a).data.size := by show j < (strN a).size; omega
    rw [nats, List.getElem?_map] at h1
    have h2 : (strN a).data.toList[j]? = some (strN a).data[j] := by simp [hj2]
    rw [h2] at h1
    rw [getElem!_pos (strN a).data j hj2]
    simpa using h1
  unfold lastN Lib.lastIndexByte
  rw [hsz]
  rcases Lib.lastIdx_spec (strN a) 32 a.length with ⟨h1, h2⟩ | ⟨i, h1, h2, h3, h4⟩
  · refine .inl ⟨h1, ?_⟩
    intro x hx he
    obtain ⟨j, hj, rfl⟩ := List.getElem_of_mem hx
    have := h2 j hj
    rw [hget j hj] at this
    omega
  · refine .inr ⟨a.take i, a.drop (i + 1), ?_, ?_, ?_⟩
    · have e : a[i] = 32 := by rw [hget i h1] at h3; omega
      conv => lhs; rw [← List.take_append_drop i a, List.drop_eq_getElem_cons h1, e]
    · rw [h2, List.length_take]; omega
    · intro x hx he
      obtain ⟨j, hj, rfl⟩ := List.getElem_of_mem hx
      rw [List.length_drop] at hj
      have := h4 (i + 1 + j) (by omega) (by omega)
      rw [hget (i + 1 + j) (by omega)] at this
      rw [List.getElem_drop] at he
      omega
theorem last_of {u k : List Nat} (h : Byt (u ++ 32 :: k)) (hk : ∀ x ∈ k, x ≠ 32) : lastN (u ++ 32 :: k) = (u.length : Int) := by
  rcases last_spec _ h with ⟨_, h2⟩ | ⟨u', k', h1, h2, h3⟩
  · exact absurd rfl (h2 32 (by simp))
  · rw [h2]
    rcases List.append_eq_append_iff.mp h1 with ⟨z, e1, e2⟩ | ⟨z, e1, e2⟩
    · cases z with
      | nil => rw [e1]; simp
      | cons c z =>
        rw [List.cons_append, List.cons.injEq] at e2
        exact absurd rfl (hk 32 (by rw [e2.2]; simp))
    · cases z with
      | nil => rw [e1]; simp
      | cons c z =>
        rw [List.cons_append, List.cons.injEq] at e2
        exact absurd rfl (h3 32 (by rw [e2.2]; simp))
def fileC (fr a : List Nat) : List Pc × Bool :=
  if lastN a < 0 then ([], false) else if capsB (strN (a.drop ((lastN a).toNat + 1))) = true then valC fr fileW (a.take (lastN a).toNat) (a.drop (lastN a).toNat) else ([], false)
theorem file_ev (i w a : List Nat) (r : ByteArray) (hi : i.length ≤ 10000) (hw : w.length ≤ 10000) (ha : Byt a) (hz : a.length ≤ 10000) :
    Ev (fun k => cue_row_file.f k (strN i) (strN w) r (strN a)) ((fileC (i ++ (w ++ [32])) a).1.map toP, (fileC (i ++ (w ++ [32])) a).2) := by
  unfold cue_row_file.f fileC
  refine Ev.bindc (show strings_LastIndexByte.f (strN a) 32 = some (lastN a) by unfold strings_LastIndexByte.f; rw [if_pos (by rw [size_strN]; omega)]; rfl) ?_
  rcases last_spec a ha with ⟨h1, _⟩ | ⟨u, k, h1, h2, h3⟩
  · rw [h1]
    exact Ev.itep (by decide) (Ev.some rfl)
  · have hl : a.length = u.length + 1 + k.length := by rw [h1]; simp; omega
    rw [h2, Int.toNat_natCast, if_neg (by omega)]
    have w1 : wrap64 ((u.length : Int) + 1) = ((u.length + 1 : Nat) : Int) := by rw [w64 (by omega)]; omega
    rw [w1, Int.toNat_natCast]
    refine Ev.iten (by omega) (Ev.itep (by omega) (Ev.itep (by rw [size_strN]; omega) ?_))
    have e1 : (strN a).extract (u.length + 1) (strN a).size = strN (a.drop (u.length + 1)) := by
      rw [ext_strN a ha, size_strN, List.take_of_length_le (by rw [List.length_drop]; omega)]
    have e2 : (strN a).extract 0 u.length = strN (a.take u.length) := by rw [ext_strN a ha, List.drop_zero, Nat.sub_zero]
    have e3 : (strN a).extract u.length (strN a).size = strN (a.drop u.length) := by
      rw [ext_strN a ha, size_strN, List.take_of_length_le (by rw [List.length_drop]; omega)]
    rw [e1]
    refine Ev.bind (caps_ev _ (by rw [size_strN, List.length_drop]; omega)) ?_
    by_cases hc : capsB (strN (a.drop (u.length + 1))) = true
    · rw [if_pos hc]
      refine Ev.itep hc (Ev.itep (by omega) (Ev.itep (by rw [size_strN]; omega) ?_))
      rw [e2, e3]
      exact Ev.bind (value_ev i w _ _ _ r hi hw (fun x hx => ha x (List.mem_of_mem_take hx)) (by rw [List.length_take]; omega) (by rw [List.length_drop]; omega)) (Ev.some rfl)
    · rw [if_neg hc]
      exact Ev.iten hc (Ev.some rfl)

/-! ### words that have no text -/
theorem replace_le (old : List UInt8) : ∀ (k : Nat) (s : List UInt8), (Lib.replaceK old [] k s).length ≤ s.length
  | 0, s => Nat.le_refl _
  | k + 1, s => by
    rw [Lib.replaceK]
    split
    · exact Nat.le_refl _
    · have := replace_le old k (s.drop ((Lib.index s old).toNat + old.length))
      rw [List.length_append, List.length_append, List.length_take, List.length_nil]
      rw [List.length_drop] at this
      omega
theorem replaceAll_le (s old : List UInt8) : (Lib.replaceAll s old []).length ≤ s.length := by
  unfold Lib.replaceAll Lib.replace
  split
  · exact Nat.le_refl _
  · exact replace_le _ _ _
theorem plain_ex (w a : List Nat) (ha : Byt a) (hz : a.length ≤ 10000) (h0 : a ≠ []) : ∃ b, Ev (fun k => cue_plain.f k (strN w) (strN a)) b := by
  have hl := List.length_pos_iff.mpr h0
  have hsz := size_strN a
  have hj1 : ∀ t : Bool, ∃ b, Ev (fun k => cue_plain.j1 k (strN a) t) b := by
    intro t
    cases t with
    | false =>
      refine ⟨false, Ev.step (fun k => by rw [cue_plain.j1]) ?_⟩
      exact Ev.iten (by decide) (Ev.some rfl)
    | true =>
      have hle := replaceAll_le (strN a).data.toList (⟨#[32]⟩ : ByteArray).data.toList
      have hz2 : (strN a).data.toList.length = a.length := hsz
      have hr : strings_ReplaceAll.f (strN a) (⟨#[32]⟩ : ByteArray) (⟨#[]⟩ : ByteArray) = some ⟨(Lib.replaceAll (strN a).data.toList (⟨#[32]⟩ : ByteArray).data.toList (⟨#[]⟩ : ByteArray).data.toList).toArray⟩ := by
        unfold strings_ReplaceAll.f
        rw [if_pos ⟨by decide, by omega, by show (strN a).size + Lib.countB (strN a) _ * 0 ≤ _; omega⟩]
      have hc := caps_ev (⟨(Lib.replaceAll (strN a).data.toList (⟨#[32]⟩ : ByteArray).data.toList (⟨#[]⟩ : ByteArray).data.toList).toArray⟩ : ByteArray) (by
        show (Lib.replaceAll (strN a).data.toList (⟨#[32]⟩ : ByteArray).data.toList (⟨#[]⟩ : ByteArray).data.toList).length ≤ _
        have e : (⟨#[]⟩ : ByteArray).data.toList = ([] : List UInt8) := rfl
        rw [e]; omega)
      by_cases h : capsB (⟨(Lib.replaceAll (strN a).data.toList (⟨#[32]⟩ : ByteArray).data.toList (⟨#[]⟩ : ByteArray).data.toList).toArray⟩ : ByteArray) = true
      · refine ⟨(bt (strN a) 0 != 32), Ev.step (fun k => by rw [cue_plain.j1]) ?_⟩
        refine Ev.itep rfl (Ev.bindc hr (Ev.bind hc ?_))
        refine Ev.itep h ?_
        exact Ev.itep (by omega) (Ev.some rfl)
      · refine ⟨false, Ev.step (fun k => by rw [cue_plain.j1]) ?_⟩
        refine Ev.itep rfl (Ev.bindc hr (Ev.bind hc ?_))
        exact Ev.iten h (Ev.some rfl)
  have hlike : ∀ f : ByteArray, ∃ b, Ev (fun k => line_Like.f k (strN a) f) b := fun f => ⟨_, like_ev (strN a) f (by omega)⟩
  have hj0 : ∀ t : Bool, ∃ b, Ev (fun k => cue_plain.j0 k (strN a) (strN w) t) b := by
    intro t
    cases t with
    | true =>
      obtain ⟨b, hb⟩ := hlike (⟨#[48, 48, 58, 48, 48, 58, 48, 48]⟩ : ByteArray)
      exact ⟨b, Ev.step (fun k => by rw [cue_plain.j0]) (Ev.itep rfl (Ev.bind hb (Ev.some rfl)))⟩
    | false =>
      by_cases c1 : (strN w).toList = ([67, 65, 84, 65, 76, 79, 71] : List UInt8)
      · obtain ⟨b, hb⟩ := hj1 ((strN w).toList == ([67, 65, 84, 65, 76, 79, 71] : List UInt8))
        refine ⟨b, Ev.step (fun k => by rw [cue_plain.j0]) ?_⟩
        exact Ev.iten (by decide) (Ev.itep c1 hb)
      · by_cases c2 : (strN w).toList = ([73, 83, 82, 67] : List UInt8)
        · obtain ⟨b, hb⟩ := hj1 ((strN w).toList == ([73, 83, 82, 67] : List UInt8))
          refine ⟨b, Ev.step (fun k => by rw [cue_plain.j0]) ?_⟩
          exact Ev.iten (by decide) (Ev.iten c1 (Ev.itep c2 hb))
        · obtain ⟨b, hb⟩ := hj1 ((strN w).toList == ([70, 76, 65, 71, 83] : List UInt8))
          refine ⟨b, Ev.step (fun k => by rw [cue_plain.j0]) ?_⟩
          exact Ev.iten (by decide) (Ev.iten c1 (Ev.iten c2 hb))
  unfold cue_plain.f
  by_cases c1 : (strN w).toList = ([84, 82, 65, 67, 75] : List UInt8)
  · by_cases c2 : ((strN a).size : Int) > 3
    · have h1 := like_ev ((strN a).extract 0 3) (⟨#[48, 48, 32]⟩ : ByteArray) (by rw [ByteArray.size_extract]; omega)
      have h2 := caps_ev ((strN a).extract 3 (strN a).size) (by rw [ByteArray.size_extract]; omega)
      by_cases c3 : likeB ((strN a).extract 0 3) (⟨#[48, 48, 32]⟩ : ByteArray) = true
      · exact ⟨_, Ev.itep c1 (Ev.itep c2 (Ev.itep (by decide) (Ev.itep (by omega) (Ev.bind h1 (Ev.itep c3 (Ev.bind h2 (Ev.some rfl)))))))⟩
      · exact ⟨_, Ev.itep c1 (Ev.itep c2 (Ev.itep (by decide) (Ev.itep (by omega) (Ev.bind h1 (Ev.iten c3 (Ev.some rfl))))))⟩
    · exact ⟨_, Ev.itep c1 (Ev.iten c2 (Ev.some rfl))⟩
  · by_cases c2 : (strN w).toList = ([73, 78, 68, 69, 88] : List UInt8)
    · obtain ⟨b, hb⟩ := hlike (⟨#[48, 48, 32, 48, 48, 58, 48, 48, 58, 48, 48]⟩ : ByteArray)
      exact ⟨b, Ev.iten c1 (Ev.itep c2 (Ev.bind hb (Ev.some rfl)))⟩
    · by_cases c3 : (strN w).toList = ([80, 82, 69, 71, 65, 80] : List UInt8)
      · obtain ⟨b, hb⟩ := hj0 ((strN w).toList == ([80, 82, 69, 71, 65, 80] : List UInt8))
        exact ⟨b, Ev.iten c1 (Ev.iten c2 (Ev.itep c3 hb))⟩
      · obtain ⟨b, hb⟩ := hj0 ((strN w).toList == ([80, 79, 83, 84, 71, 65, 80] : List UInt8))
        exact ⟨b, Ev.iten c1 (Ev.iten c2 (Ev.iten c3 hb))⟩
open Classical in
noncomputable def plB (w a : List Nat) : Bool := if h : ∃ b, Ev (fun k => cue_plain.f k (strN w) (strN a)) b then Classical.choose h else false
theorem plain_ev (w a : List Nat) (ha : Byt a) (hz : a.length ≤ 10000) (h0 : a ≠ []) : Ev (fun k => cue_plain.f k (strN w) (strN a)) (plB w a) := by
  have h := plain_ex w a ha hz h0
  unfold plB
  rw [dif_pos h]
  exact Classical.choose_spec h

/-! ### a line -/
def remN : List Nat := [82, 69, 77]
def titN : List Nat := [84, 73, 84, 76, 69]
def perN : List Nat := [80, 69, 82, 70, 79, 82, 77, 69, 82]
def sonN : List Nat := [83, 79, 78, 71, 87, 82, 73, 84, 69, 82]
def filN : List Nat := [70, 73, 76, 69]
noncomputable def smaB (w : List Nat) : ByteArray := strOfNums (smallL (bytesOf (strN w)))
noncomputable def pcs (l : List Nat) : List Pc × Bool :=
  if wrdN l = [] then (if rstN l = [] then (mks (indN l), true) else ([], false))
  else if rstN l ≠ [] ∧ (rstN l).getD 0 0 ≠ 32 then ([], false)
  else if wrdN l = remN then (if rstN l = [] then (mks (indN l ++ wrdN l), true) else ([mk (indN l ++ (wrdN l ++ [32])), (false, remW, strN ((rstN l).drop 1))], true))
  else if rstN l = [] then ([], false)
  else if wrdN l = titN ∨ wrdN l = perN ∨ wrdN l = sonN then valC (indN l ++ (wrdN l ++ [32])) (smaB (wrdN l)) ((rstN l).drop 1) []
  else if wrdN l = filN then fileC (indN l ++ (wrdN l ++ [32])) ((rstN l).drop 1)
  else if (rstN l).drop 1 = [] then ([], false)
  else if plB (wrdN l) ((rstN l).drop 1) = true then (mks l, true) else ([], false)
theorem nil_iff (x : List Nat) : (strN x).toList = ([] : List UInt8) ↔ x = [] := by
  rw [tl_nil, size_strN]
  exact ⟨List.eq_nil_of_length_eq_zero, fun h => by rw [h]; rfl⟩
theorem word_iff (x y : List Nat) (hx : Byt x) (hy : Byt y) (z : List UInt8) (hz : (strN y).toList = z) : (strN x).toList = z ↔ x = y := by
  rw [← hz, tl_inj]
  constructor
  · intro h
    have := congrArg nats h
    rwa [nats_strN hx, nats_strN hy] at this
  · rintro rfl; rfl
end Go.Proofs.YtkhiiilfokijgaaDoor.Pl
