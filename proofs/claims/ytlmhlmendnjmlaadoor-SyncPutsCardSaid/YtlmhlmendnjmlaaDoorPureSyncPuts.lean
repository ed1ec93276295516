/- Which bytes are clean, what is put, what is dropped, and how many bytes more there are, are the document's: the plain law. -/
import Derived.Test.YtlmhlmendnjmlaaDoorPAllx6
import Derived.Test.YtlmhlmendnjmlaaDoorLsync
namespace Go.Proofs.YtlmhlmendnjmlaaDoor.Pure
open Go.RowKit Go.Proofs.YtlmhlmendnjmlaaDoor.PAll Go.Proofs.YtlmhlmendnjmlaaDoor.Pl Go.Proofs.YtlmhlmendnjmlaaDoorW.PrintWords Go.Proofs.YtlmhlmendnjmlaaDoorW.PrintLast

theorem puts_loop (s : ByteArray) (hs : s.size ≤ 1000) : ∀ (d i e : Nat), i + d = s.size → e ≤ i → e + cntI ((bytesOf s).drop i) = cntS s →
    Ev (fun k => diacriticlaw11_SyncPuts.l0 k s (decide (e = 0)) (e : Int) (s.size : Int) (i : Int)) true
  | 0, i, e, hi, he, hc => by
    rw [List.drop_eq_nil_of_le (by rw [len_bytesOf]; omega)] at hc
    have he : e = cntS s := hc
    subst he
    refine Ev.step (fun k => by rw [diacriticlaw11_SyncPuts.l0]) ?_
    refine Ev.iten (by omega) (Ev.bind awake11 (Ev.itep rfl ?_))
    refine Ev.bind (clean_ev s (by omega)) (Ev.itep (beq_self_eq_true _) ?_)
    refine Ev.bind (put_ev s (by omega)) ?_
    refine Ev.bind (rput_ev s (by omega)) (Ev.itep rfl ?_)
    refine Ev.bindc (drop_ev s (by omega)) ?_
    refine Ev.bind (rdrop_ev s (by omega)) (Ev.itep rfl ?_)
    exact Ev.bind (extra_ev s (by omega)) (Ev.some (beq_self_eq_true _))
  | d + 1, i, e, hi, he, hc => by
    have w : wrap64 ((i : Int) + 1) = ((i + 1 : Nat) : Int) := by rw [w64 (by omega)]; omega
    have we : wrap64 ((e : Int) + 1) = ((e + 1 : Nat) : Int) := by rw [w64 (by omega)]; omega
    rw [drop_cons s i (by omega), cntI] at hc
    refine Ev.step (fun k => by rw [diacriticlaw11_SyncPuts.l0]) ?_
    refine Ev.itep (by omega) (Ev.bindc (looks_ev s (by omega) i (by omega)) ?_)
    rw [w, we]
    by_cases hh : bt s (i : Int) = 255 ∧ alarmI ((bytesOf s).drop (i + 1)) = true
    · rw [if_pos hh] at hc
      refine Ev.itep ((hit_iff s i).mpr hh) ?_
      have ih := puts_loop s hs d (i + 1) (e + 1) (by omega) (by omega) (by omega)
      rw [show decide (e + 1 = 0) = false from decide_eq_false (by omega)] at ih
      exact ih
    · rw [if_neg hh] at hc
      exact Ev.iten (fun h => hh ((hit_iff s i).mp h)) (puts_loop s hs d (i + 1) e (by omega) (by omega) hc)
theorem SyncPuts : diacriticlaw11_SyncPuts.Pure := by
  intro a0 h0
  apply Ev.rounds
  unfold diacriticlaw11_SyncPuts.f
  by_cases hz : (a0.size : Int) > 1000
  · exact Ev.itep hz (Ev.bind awake11 (Ev.some rfl))
  · refine Ev.iten hz ?_
    exact puts_loop a0 (by omega) a0.size 0 0 (by omega) (Nat.le_refl _) (by rw [List.drop_zero]; show 0 + cntI _ = cntI _; omega)

end Go.Proofs.YtlmhlmendnjmlaaDoor.Pure
