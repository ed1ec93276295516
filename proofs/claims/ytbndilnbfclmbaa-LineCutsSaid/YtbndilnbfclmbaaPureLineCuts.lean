/- The lines of any text are the document's; with their ends, one behind the other, they are the text: the plain law. -/
import Derived.Test.YtbndilnbfclmbaaPAllx0
import Derived.Test.YtbndilnbfclmbaaPAllx10
import Derived.Test.YtbndilnbfclmbaaPAllx8
import Derived.Test.YtbndilnbfclmbaaLline2
namespace Go.Proofs.Ytbndilnbfclmbaa.Pure
open Go.RowKit Go.Proofs.Ytbndilnbfclmbaa.PAll Go.Proofs.Ytbndilnbfclmbaa.Pl Go.Proofs.YtbndilnbfclmbaaW.PrintWords Go.Proofs.YtbndilnbfclmbaaW.PrintLast

theorem awake22 : Ev (fun k => diacriticlaw22_awake.f k) true := Ev.of diacriticlaw22_awake.mono (k := 60) (by kernel_rfl)
theorem cuts_loop (s : ByteArray) (hs : s.size ≤ 2000) (L : List (ByteArray × ByteArray × Nat)) (hL : L.length ≤ 1000000) : ∀ (d i fr : Nat) (x : ByteArray), i + d = L.length → x = s.extract 0 fr → fr ≤ s.size → Chain s fr (L.drop i) →
    Ev (fun k => diacriticlaw22_LineCuts.l0 k s (L.map toR) x (L.map toL) ((L.map toL).length : Int) (i : Int)) true
  | 0, i, fr, x, hi, hx, hf, hc => by
    rw [List.drop_of_length_le (by omega)] at hc
    have hc : fr = s.size := hc
    refine Ev.step (fun k => by rw [diacriticlaw22_LineCuts.l0]) ?_
    refine Ev.iten (by rw [List.length_map]; omega) (Ev.bind awake22 (Ev.itep rfl (Ev.some ?_)))
    rw [hx, hc, ext_all, beq_self_eq_true]
  | d + 1, i, fr, x, hi, hx, hf, hc => by
    have hlt : i < L.length := by omega
    rw [List.drop_eq_getElem_cons hlt] at hc
    obtain ⟨c1, c2, c3, c4⟩ := hc
    have e1 : rd_T28 (L.map toL) (i : Int) = toL L[i] := by
      simp [rd_T28, List.getD_eq_getElem?_getD, List.getElem?_eq_getElem hlt]
    have e2 : rd_T29 (L.map toR) (i : Int) = toR L[i] := by
      simp [rd_T29, List.getD_eq_getElem?_getD, List.getElem?_eq_getElem hlt]
    have hz : x.size = fr := by rw [hx, size_ext _ _ _ (by omega) hf]; omega
    refine Ev.step (fun k => by rw [diacriticlaw22_LineCuts.l0]) ?_
    rw [e1, e2]
    refine Ev.itep (by rw [List.length_map]; omega) (Ev.itep (by omega) (Ev.itep (by rw [List.length_map]; omega) (Ev.itep (by rw [List.length_map]; omega) (Ev.itep rfl (Ev.itep rfl (Ev.itep rfl ?_))))))
    refine Ev.itep (by show (L[i].2.2 : Int) = _; rw [hz, c1]) ?_
    have hsz : (L[i].1 ++ L[i].2.1).size = L[i].1.size + L[i].2.1.size := size_app _ _
    refine Ev.itep (by show L[i].1.size + L[i].2.1.size ≤ _; omega) (Ev.itep (by show x.size + (L[i].1 ++ L[i].2.1).size ≤ _; omega) ?_)
    rw [show wrap64 ((i : Int) + 1) = ((i + 1 : Nat) : Int) by rw [w64 (by omega)]; omega]
    refine cuts_loop s hs L hL d (i + 1) _ _ (by omega) ?_ c2 c4
    show x ++ (L[i].1 ++ L[i].2.1) = _
    rw [hx, c3, ext_glue s 0 fr _ (by omega) (by omega)]
theorem LineCuts : diacriticlaw22_LineCuts.Pure := by
  intro s h0
  apply Ev.rounds
  unfold diacriticlaw22_LineCuts.f
  by_cases hc : (s.size : Int) > 2000
  · exact Ev.itep hc (Ev.bind awake22 (Ev.some rfl))
  · refine Ev.iten hc (Ev.bind (lines_ev s (by omega)) (Ev.bind (rlines_ev s (by omega)) (Ev.itep (by rw [List.length_map, List.length_map]) ?_)))
    refine cuts_loop s (by omega) (cut s) (cut_len s (by omega)) (cut s).length 0 0 _ (by omega) ?_ (by omega) (chain_all s)
    rw [ext_none s 0 0 (Nat.le_refl _)]

end Go.Proofs.Ytbndilnbfclmbaa.Pure
