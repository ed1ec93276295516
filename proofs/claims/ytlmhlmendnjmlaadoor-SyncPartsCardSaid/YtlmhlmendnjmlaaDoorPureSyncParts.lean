/- Where a text doesn't end in FF, what is put into it and another one is put into both, one behind the other: the plain law. -/
import Derived.Test.YtlmhlmendnjmlaaDoorPAllx7
import Derived.Test.YtlmhlmendnjmlaaDoorLsync
namespace Go.Proofs.YtlmhlmendnjmlaaDoor.Pure
open Go.RowKit Go.Proofs.YtlmhlmendnjmlaaDoor.PAll Go.Proofs.YtlmhlmendnjmlaaDoor.Pl Go.Proofs.YtlmhlmendnjmlaaDoorW.PrintWords Go.Proofs.YtlmhlmendnjmlaaDoorW.PrintLast

theorem parts_yes (a b : ByteArray) : Ev (fun k => diacriticlaw11_SyncParts.j0 k a b true) true := by
  refine Ev.step (fun k => by rw [diacriticlaw11_SyncParts.j0]) ?_
  exact Ev.itep rfl (Ev.bind awake11 (Ev.some rfl))
theorem parts_no (a b : ByteArray) (ha : a.size ≤ 500) (hb : b.size ≤ 500) (he : noEnd (bytesOf a)) : Ev (fun k => diacriticlaw11_SyncParts.j0 k a b false) true := by
  obtain ⟨h1, h2, h3⟩ := parts (bytesOf a) (bytesOf b) he
  have hab : (a ++ b).size ≤ 1000 := by rw [size_app]; omega
  have e1 : putS (a ++ b) = putS a ++ putS b := by
    apply bytesOf_inj
    rw [bytesOf_app, bytes_putS, bytes_putS, bytes_putS, bytesOf_app, h1]
  have e2 : dropS (a ++ b) = dropS a ++ dropS b := by
    apply bytesOf_inj
    rw [bytesOf_app, bytes_dropS, bytes_dropS, bytes_dropS, bytesOf_app, h2]
  have e3 : cntS (a ++ b) = cntS a + cntS b := by
    unfold cntS; rw [bytesOf_app, h3]
  have za := size_putS a
  have zb := size_putS b
  have ca := cntS_le a
  have cb := cntS_le b
  have da := size_dropS a
  have db := size_dropS b
  refine Ev.step (fun k => by rw [diacriticlaw11_SyncParts.j0]) ?_
  refine Ev.iten (by decide) (Ev.bind awake11 (Ev.itep rfl (Ev.itep (by omega) ?_)))
  refine Ev.bind (put_ev (a ++ b) (by omega)) ?_
  refine Ev.bind (put_ev a (by omega)) ?_
  refine Ev.bind (put_ev b (by omega)) (Ev.itep (by omega) (Ev.itep (by rw [e1]) ?_))
  refine Ev.bindc (drop_ev (a ++ b) (by omega)) (Ev.bindc (drop_ev a (by omega)) (Ev.bindc (drop_ev b (by omega)) (Ev.itep (by omega) (Ev.itep (by rw [e2]) ?_))))
  refine Ev.bind (extra_ev (a ++ b) (by omega)) ?_
  refine Ev.bind (extra_ev a (by omega)) ?_
  refine Ev.bind (extra_ev b (by omega)) (Ev.some ?_)
  rw [e3, w64 (by omega), beq_iff_eq]; omega
theorem noEnd_of (a : ByteArray) (h : a.size = 0 ∨ 0 < a.size ∧ bt a ((a.size : Int) - 1) ≠ 255) : noEnd (bytesOf a) := by
  intro x hx
  rcases h with h | ⟨h0, h⟩
  · have : bytesOf a = [] := List.eq_nil_of_length_eq_zero (by rw [len_bytesOf, h])
    rw [this] at hx; cases hx
  · rw [List.getLast?_eq_getElem?, len_bytesOf, bt_get a (a.size - 1) (by omega)] at hx
    have := Option.some.inj hx
    rw [← this, show (((a.size - 1 : Nat)) : Int) = (a.size : Int) - 1 by omega]
    exact h
theorem SyncParts : diacriticlaw11_SyncParts.Pure := by
  intro a b h0 h1
  apply Ev.rounds
  unfold diacriticlaw11_SyncParts.f
  by_cases ha : (a.size : Int) > 500
  · exact Ev.itep ha (parts_yes a b)
  refine Ev.iten ha ?_
  by_cases hb : (b.size : Int) > 500
  · exact Ev.itep hb (parts_yes a b)
  refine Ev.iten hb ?_
  by_cases hp : (a.size : Int) > 0
  · have w1 : wrap64 ((a.size : Int) - 1) = (a.size : Int) - 1 := w64 (by omega)
    rw [w1]
    refine Ev.itep hp (Ev.itep (by omega) (Ev.itep (by omega) ?_))
    by_cases he : bt a ((a.size : Int) - 1) = 255
    · rw [show (bt a ((a.size : Int) - 1) == 255) = true from beq_iff_eq.mpr he]
      exact parts_yes a b
    · rw [show (bt a ((a.size : Int) - 1) == 255) = false from beq_eq_false_iff_ne.mpr he]
      exact parts_no a b (by omega) (by omega) (noEnd_of a (.inr ⟨by omega, he⟩))
  · exact Ev.iten hp (parts_no a b (by omega) (by omega) (noEnd_of a (.inl (by omega))))

end Go.Proofs.YtlmhlmendnjmlaaDoor.Pure
