/- The charset's name that any sheet tells is the document's: the plain law. -/
import Derived.Test.YtkhiiilfokijgaaDoorPAllx0
import Derived.Test.YtkhiiilfokijgaaDoorPAllx17
import Derived.Test.YtkhiiilfokijgaaDoorPAllx19
import Derived.Test.YtkhiiilfokijgaaDoorPAllx21
import Derived.Test.YtkhiiilfokijgaaDoorLln
namespace Go.Proofs.YtkhiiilfokijgaaDoor.Pure
open Go.RowKit Go.Proofs.YtkhiiilfokijgaaDoor.PAll Go.Proofs.YtkhiiilfokijgaaDoor.Pl Go.Proofs.YtkhiiilfokijgaaDoorW.PrintWords Go.Proofs.YtkhiiilfokijgaaDoorW.PrintLast
set_option linter.unusedVariables false
set_option linter.unusedSimpArgs false

theorem awake23 : Ev (fun k => diacriticlaw23_awake.f k) true := Ev.of diacriticlaw23_awake.mono (k := 80) (by kernel_rfl)
def preW : ByteArray := ⟨#[82, 69, 77, 32, 67, 72, 65, 82, 83, 69, 84, 32]⟩
/-- What the first line that begins so has behind it. -/
def decl : List (ByteArray × ByteArray × Nat) → ByteArray
  | [] => ⟨#[]⟩
  | x :: r => if Lib.hasPrefix x.1.data.toList preW.data.toList = true then x.1.extract 12 x.1.size else decl r
theorem cut_pre (s : ByteArray) (h : Lib.hasPrefix s.data.toList preW.data.toList = true) : (⟨(Lib.trimPrefix s.data.toList preW.data.toList).toArray⟩ : ByteArray) = s.extract 12 s.size := by
  have hl : preW.data.toList.length = 12 := rfl
  apply bytesOf_inj
  rw [bytesOf_ext, List.take_of_length_le (by rw [List.length_drop, len_bytesOf]; omega)]
  unfold Lib.trimPrefix
  rw [if_pos h, hl]
  simp [bytesOf, List.map_drop]
theorem pre_iff (s : ByteArray) : Lib.hasPrefix s.data.toList preW.data.toList = true ↔ 12 ≤ s.size ∧ (s.extract 0 12).toList = ([82, 69, 77, 32, 67, 72, 65, 82, 83, 69, 84, 32] : List UInt8) := by
  rw [hp_iff]
  have hz : preW.size = 12 := rfl
  rw [hz]
  constructor
  · intro h
    have hl := congrArg List.length h
    rw [List.length_take, len_bytesOf, len_bytesOf, hz] at hl
    refine ⟨by omega, ?_⟩
    have : s.extract 0 12 = preW := bytesOf_inj (by rw [bytesOf_ext, List.drop_zero]; exact h)
    rw [this, tl_data]; rfl
  · rintro ⟨h1, h2⟩
    have : s.extract 0 12 = preW := by
      apply tl_inj.mp
      rw [h2, tl_data]; rfl
    rw [← this, bytesOf_ext, List.drop_zero]
theorem decl_loop (L : List (ByteArray × ByteArray × Nat)) (hL : L.length ≤ 1000000) : ∀ (d i : Nat), i + d = L.length → Ev (fun k => cue_Declared.l0 k (L.map toL) ((L.map toL).length : Int) (i : Int)) (decl (L.drop i))
  | 0, i, hi => by
    rw [List.drop_of_length_le (by omega)]
    refine Ev.step (fun k => by rw [cue_Declared.l0]) ?_
    exact (Ev.iten (by rw [List.length_map]; omega) (Ev.some rfl))
  | d + 1, i, hi => by
    have hlt : i < L.length := by omega
    have e1 : rd_T53 (L.map toL) (i : Int) = toL L[i] := by
      simp [rd_T53, List.getD_eq_getElem?_getD, List.getElem?_eq_getElem hlt]
    rw [List.drop_eq_getElem_cons hlt, decl]
    refine Ev.step (fun k => by rw [cue_Declared.l0]) ?_
    rw [e1, show wrap64 ((i : Int) + 1) = ((i + 1 : Nat) : Int) by rw [w64 (by omega)]; omega]
    refine Ev.itep (by rw [List.length_map]; omega) (Ev.itep (by omega) (Ev.itep (by rw [List.length_map]; omega) ?_))
    refine Ev.bindc (show strings_CutPrefix.f (toL L[i]).f0 preW = some (⟨(Lib.trimPrefix L[i].1.data.toList preW.data.toList).toArray⟩, Lib.hasPrefix L[i].1.data.toList preW.data.toList) from rfl) ?_
    by_cases h : Lib.hasPrefix L[i].1.data.toList preW.data.toList = true
    · rw [if_pos h]
      exact Ev.itep h (Ev.some (cut_pre _ h))
    · rw [if_neg h]
      exact Ev.iten h (decl_loop L hL d (i + 1) (by omega))
theorem rdecl_loop (L : List (ByteArray × ByteArray × Nat)) (hL : L.length ≤ 1000000) : ∀ (d i : Nat), i + d = L.length → Ev (fun k => diacriticref23_Declared.l0 k (L.map toR) (i : Int)) (decl (L.drop i))
  | 0, i, hi => by
    rw [List.drop_of_length_le (by omega)]
    refine Ev.step (fun k => by rw [diacriticref23_Declared.l0]) ?_
    exact (Ev.iten (by rw [List.length_map]; omega) (Ev.some rfl))
  | d + 1, i, hi => by
    have hlt : i < L.length := by omega
    have e2 : rd_T44 (L.map toR) (i : Int) = toR L[i] := by
      simp [rd_T44, List.getD_eq_getElem?_getD, List.getElem?_eq_getElem hlt]
    rw [List.drop_eq_getElem_cons hlt, decl]
    refine Ev.step (fun k => by rw [diacriticref23_Declared.l0]) ?_
    rw [e2, show wrap64 ((i : Int) + 1) = ((i + 1 : Nat) : Int) by rw [w64 (by omega)]; omega]
    refine Ev.itep (by rw [List.length_map]; omega) (Ev.itep (by omega) ?_)
    have hp := pre_iff L[i].1
    by_cases hz : 12 ≤ L[i].1.size
    · refine Ev.itep (by show ((L[i].1.size : Nat) : Int) ≥ 12; omega) (Ev.itep (by decide) (Ev.itep (by show (12 : Int) ≤ ((L[i].1.size : Nat) : Int); omega) ?_))
      by_cases hc : (L[i].1.extract 0 12).toList = ([82, 69, 77, 32, 67, 72, 65, 82, 83, 69, 84, 32] : List UInt8)
      · rw [if_pos (hp.mpr ⟨hz, hc⟩)]
        exact Ev.itep hc (Ev.some rfl)
      · rw [if_neg (fun h => hc (hp.mp h).2)]
        exact Ev.iten hc (rdecl_loop L hL d (i + 1) (by omega))
    · rw [if_neg (fun h => hz (hp.mp h).1)]
      exact Ev.iten (by show ¬ ((L[i].1.size : Nat) : Int) ≥ 12; omega) (rdecl_loop L hL d (i + 1) (by omega))
theorem CueDeclares : diacriticlaw23_CueDeclares.Pure := by
  intro s h0
  apply Ev.rounds
  unfold diacriticlaw23_CueDeclares.f
  by_cases hz : (s.size : Int) > 2000
  · exact Ev.itep hz (Ev.bind awake23 (Ev.itep rfl (Ev.some rfl)))
  refine Ev.iten hz (Ev.itep (by omega) ?_)
  have hl := cut_len s (by omega)
  have e1 : Ev (fun k => cue_Declared.f k s) (decl (cut s)) := by
    unfold cue_Declared.f
    refine Ev.bind (lines_ev s (by omega)) ?_
    have := decl_loop (cut s) hl (cut s).length 0 (by omega)
    rw [List.drop_zero] at this
    exact this
  have e2 : Ev (fun k => diacriticref23_Declared.f k s) (decl (cut s)) := by
    unfold diacriticref23_Declared.f
    refine Ev.bind (rlines_ev s (by omega)) ?_
    have := rdecl_loop (cut s) hl (cut s).length 0 (by omega)
    rw [List.drop_zero] at this
    exact this
  exact Ev.bind e1 (Ev.bind e2 (Ev.itep rfl (Ev.bind awake23 (Ev.some rfl))))

end Go.Proofs.YtkhiiilfokijgaaDoor.Pure
