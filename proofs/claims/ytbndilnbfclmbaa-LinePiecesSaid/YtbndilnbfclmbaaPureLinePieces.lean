/- Marks and texts are as they are told; pieces are whole, one behind the other: the plain law. -/
import Derived.Test.YtbndilnbfclmbaaPAllx0
import Derived.Test.YtbndilnbfclmbaaPAllx11
import Derived.Test.YtbndilnbfclmbaaPAllx8
import Derived.Test.YtbndilnbfclmbaaLline
namespace Go.Proofs.Ytbndilnbfclmbaa.Pure
open Go.RowKit Go.Proofs.Ytbndilnbfclmbaa.PAll Go.Proofs.Ytbndilnbfclmbaa.Pl Go.Proofs.YtbndilnbfclmbaaW.PrintWords Go.Proofs.YtbndilnbfclmbaaW.PrintLast

theorem awake22p : Ev (fun k => diacriticlaw22_awake.f k) true := Ev.of diacriticlaw22_awake.mono (k := 60) (by kernel_rfl)
theorem beq_tl (s : ByteArray) : (s.toList == s.toList) = true := beq_self_eq_true _
theorem pieces_two (l : List S34) (m : List ByteArray) (hl : l.length ≤ 50) (hm : m.length ≤ 50) (hz : (cat (l.map (·.f2))).size ≤ 10000) : ∀ (d i : Nat), i + d = m.length → (∀ y ∈ m.take i, y.size ≤ 200) →
    Ev (fun k => diacriticlaw22_LinePieces.l1 k l m (cat (l.map (·.f2))) (cat (m.take i)) m (m.length : Int) (i : Int)) true
  | 0, i, hi, hy => by
    have ht : m.take i = m := List.take_of_length_le (by omega)
    rw [ht] at hy ⊢
    have hzm : (cat m).size ≤ m.length * 200 := by rw [size_cat]; exact sum_le m 200 hy
    refine Ev.step (fun k => by rw [diacriticlaw22_LinePieces.l1]) ?_
    refine Ev.iten (by omega) (Ev.bind awake22p (Ev.itep rfl (Ev.bind (whole_ev l (by omega) (by omega)) (Ev.itep rfl ?_))))
    refine Ev.bindc (mark_ok m (by omega) (by omega)) (Ev.itep ?_ (Ev.bindc rfl (Ev.some ?_)))
    · show (true && ((_ == _) && (_ == _))) = true
      rw [beq_tl, Bool.and_true, Bool.true_and, tl_data]; rfl
    · show (!false && ((_ == _) && (_ == _))) = true
      rw [beq_tl, beq_tl]; rfl
  | d + 1, i, hi, hy => by
    have hlt : i < m.length := by omega
    have e : rdOf ByteArray.empty m (i : Int) = m[i] := by
      simp [rdOf, List.getD_eq_getElem?_getD, List.getElem?_eq_getElem hlt]
    have hzm : (cat (m.take i)).size ≤ (m.take i).length * 200 := by rw [size_cat]; exact sum_le _ 200 hy
    rw [List.length_take] at hzm
    refine Ev.step (fun k => by rw [diacriticlaw22_LinePieces.l1]) ?_
    refine Ev.itep (by omega) (Ev.itep (by omega) (Ev.itep (by omega) ?_))
    rw [e]
    by_cases hs : (m[i].size : Int) > 200
    · exact Ev.itep hs (Ev.bind awake22p (Ev.some rfl))
    · refine Ev.iten hs (Ev.itep (by omega) ?_)
      rw [show wrap64 ((i : Int) + 1) = ((i + 1 : Nat) : Int) by rw [w64 (by omega)]; omega, ← cat_snoc, ← List.take_succ_eq_append_getElem hlt]
      refine pieces_two l m hl hm hz d (i + 1) (by omega) ?_
      intro y h
      rw [List.take_succ_eq_append_getElem hlt, List.mem_append, List.mem_singleton] at h
      rcases h with h | rfl
      · exact hy y h
      · omega
theorem pieces_one (l : List S34) (m : List ByteArray) (hl : l.length ≤ 50) (hm : m.length ≤ 50) : ∀ (d i : Nat), i + d = l.length → (∀ y ∈ (l.take i).map (·.f2), y.size ≤ 200) →
    Ev (fun k => diacriticlaw22_LinePieces.l0 k l m (cat ((l.take i).map (·.f2))) l (l.length : Int) (i : Int)) true
  | 0, i, hi, hy => by
    have ht : l.take i = l := List.take_of_length_le (by omega)
    rw [ht] at hy ⊢
    have hzm : (cat (l.map (·.f2))).size ≤ (l.map (·.f2)).length * 200 := by rw [size_cat]; exact sum_le _ 200 hy
    rw [List.length_map] at hzm
    refine Ev.step (fun k => by rw [diacriticlaw22_LinePieces.l0]) ?_
    refine Ev.iten (by omega) ?_
    exact pieces_two l m hl hm (by omega) m.length 0 (by omega) (by simp)
  | d + 1, i, hi, hy => by
    have hlt : i < l.length := by omega
    have e : rd_T34 l (i : Int) = l[i] := by
      simp [rd_T34, List.getD_eq_getElem?_getD, List.getElem?_eq_getElem hlt]
    have hzm : (cat ((l.take i).map (·.f2))).size ≤ ((l.take i).map (·.f2)).length * 200 := by rw [size_cat]; exact sum_le _ 200 hy
    rw [List.length_map, List.length_take] at hzm
    refine Ev.step (fun k => by rw [diacriticlaw22_LinePieces.l0]) ?_
    refine Ev.itep (by omega) (Ev.itep (by omega) (Ev.itep (by omega) ?_))
    rw [e]
    have ht : (l.take (i + 1)).map (·.f2) = (l.take i).map (·.f2) ++ [l[i].f2] := by
      rw [List.take_succ_eq_append_getElem hlt, List.map_append]; rfl
    by_cases hs : (l[i].f2.size : Int) > 200
    · exact Ev.itep hs (Ev.bind awake22p (Ev.some rfl))
    · refine Ev.iten hs (Ev.itep (by omega) ?_)
      rw [show wrap64 ((i : Int) + 1) = ((i + 1 : Nat) : Int) by rw [w64 (by omega)]; omega, ← cat_snoc, ← ht]
      refine pieces_one l m hl hm d (i + 1) (by omega) ?_
      intro y h
      rw [ht, List.mem_append, List.mem_singleton] at h
      rcases h with h | rfl
      · exact hy y h
      · omega
theorem pieces_over (l : List S34) (m : List ByteArray) : Ev (fun k => diacriticlaw22_LinePieces.j0 k l m true) true :=
  Ev.step (fun k => by rw [diacriticlaw22_LinePieces.j0]) (Ev.itep rfl (Ev.bind awake22p (Ev.some rfl)))
theorem LinePieces : diacriticlaw22_LinePieces.Pure := by
  intro l m _ _ _ _
  apply Ev.rounds
  unfold diacriticlaw22_LinePieces.f
  by_cases hc : (l.length : Int) > 50
  · exact Ev.itep hc (pieces_over l m)
  · refine Ev.iten hc ?_
    by_cases hd : (m.length : Int) > 50
    · rw [decide_eq_true hd]; exact pieces_over l m
    · rw [decide_eq_false hd]
      refine Ev.step (fun k => by rw [diacriticlaw22_LinePieces.j0]) (Ev.iten (by decide) ?_)
      exact pieces_one l m (by omega) (by omega) l.length 0 (by omega) (by simp)

end Go.Proofs.Ytbndilnbfclmbaa.Pure
