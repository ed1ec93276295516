/- What was put is dropped as it was; behind each FF of it stands a byte below E0: the plain law. -/
import Derived.Test.YtlmhlmendnjmlaaDoorPAllx3
import Derived.Test.YtlmhlmendnjmlaaDoorPAllx4
import Derived.Test.YtlmhlmendnjmlaaDoorLsync
namespace Go.Proofs.YtlmhlmendnjmlaaDoor.Pure
open Go.RowKit Go.Proofs.YtlmhlmendnjmlaaDoor.PAll Go.Proofs.YtlmhlmendnjmlaaDoor.Pl Go.Proofs.YtlmhlmendnjmlaaDoorW.PrintWords Go.Proofs.YtlmhlmendnjmlaaDoorW.PrintLast

theorem dropS_putS (s : ByteArray) : dropS (putS s) = s := by
  apply bytesOf_inj
  rw [bytes_dropS, bytes_putS, drop_put]
theorem putS_clean (s : ByteArray) (h : cntS s = 0) : putS s = s := by
  apply bytesOf_inj
  rw [bytes_putS]; exact put_clean _ h
theorem good_tail {x : Int} {l : List Int} (h : goodI (x :: l)) : goodI l := by
  cases l with
  | nil => exact trivial
  | cons c r => exact h.2
theorem back_loop (s t : ByteArray) (hs : s.size ≤ 1000) (ht : t = putS s) : ∀ (d i : Nat), i + d = t.size → goodI ((bytesOf t).drop i) →
    Ev (fun k => diacriticlaw11_SyncBack.l0 k s t (t.size : Int) (i : Int)) true
  | 0, i, hi, hg => by
    have hz := size_putS s
    have hc := cntS_le s
    have hd : unsync_Drop.f t = some s := by rw [drop_ev t (by rw [ht]; omega), ht, dropS_putS]
    refine Ev.step (fun k => by rw [diacriticlaw11_SyncBack.l0]) ?_
    refine Ev.iten (by omega) (Ev.bind awake11 (Ev.itep rfl ?_))
    refine Ev.bindc hd (Ev.itep rfl ?_)
    refine Ev.bind (clean_ev s (by omega)) ?_
    by_cases h0 : cntS s = 0
    · refine Ev.itep (decide_eq_true h0) (Ev.some ?_)
      rw [ht, putS_clean s h0]; exact beq_self_eq_true _
    · exact Ev.iten (by rw [decide_eq_false h0]; decide) (Ev.some rfl)
  | d + 1, i, hi, hg => by
    have hz := size_putS s
    have hc := cntS_le s
    have hT : t.size ≤ 2000 := by rw [ht]; omega
    have w : wrap64 ((i : Int) + 1) = ((i + 1 : Nat) : Int) := by rw [w64 (by omega)]; omega
    have w1 : wrap64 ((t.size : Int) - 1) = (t.size : Int) - 1 := w64 (by omega)
    rw [drop_cons t i (by omega)] at hg
    have ih := back_loop s t hs ht d (i + 1) (by omega) (good_tail hg)
    refine Ev.step (fun k => by rw [diacriticlaw11_SyncBack.l0]) ?_
    rw [w, w1]
    refine Ev.itep (by omega) (Ev.itep (by omega) (Ev.itep (by omega) ?_))
    by_cases hb : bt t (i : Int) = 255
    · refine Ev.itep hb ?_
      by_cases hn : i + 1 < t.size
      · rw [drop_cons t (i + 1) hn] at hg
        have := hg.1 hb
        exact Ev.iten (by omega) (Ev.itep (by omega) (Ev.itep (by omega) (Ev.iten (by omega) ih)))
      · rw [List.drop_eq_nil_of_le (by rw [len_bytesOf]; omega)] at hg
        exact absurd hb hg
    · exact Ev.iten hb ih
theorem SyncBack : diacriticlaw11_SyncBack.Pure := by
  intro a0 h0
  apply Ev.rounds
  unfold diacriticlaw11_SyncBack.f
  by_cases hz : (a0.size : Int) > 1000
  · exact Ev.itep hz (Ev.bind awake11 (Ev.some rfl))
  · refine Ev.iten hz (Ev.bind (put_ev a0 (by omega)) ?_)
    refine back_loop a0 (putS a0) (by omega) rfl (putS a0).size 0 (by omega) ?_
    rw [List.drop_zero, bytes_putS]; exact good_put _

end Go.Proofs.YtlmhlmendnjmlaaDoor.Pure
