/- What any flags mean in any version, and which names there may be, are the document's: the plain law. -/
import Derived.Test.YtlmhlmendnjmlaaDoorPAllx17
import Derived.Test.YtlmhlmendnjmlaaDoorPAllx19
import Derived.Test.YtlmhlmendnjmlaaDoorLflag
namespace Go.Proofs.YtlmhlmendnjmlaaDoor.Pure
open Go.RowKit Go.Proofs.YtlmhlmendnjmlaaDoor.PAll Go.Proofs.YtlmhlmendnjmlaaDoor.Pl Go.Proofs.YtlmhlmendnjmlaaDoorW.PrintWords Go.Proofs.YtlmhlmendnjmlaaDoorW.PrintLast

theorem awake13 : Ev (fun k => diacriticlaw13_awake.f k) true := Ev.of diacriticlaw13_awake.mono (k := 60) (by kernel_rfl)
theorem FrameFlags : diacriticlaw13_FrameFlags.Pure := by
  intro a0 a1 a2 h0 h1 h2
  have hn := wf_u8 h1
  apply Ev.rounds
  unfold diacriticlaw13_FrameFlags.f
  by_cases hz : (a2.size : Int) > 100
  · exact Ev.itep hz (Ev.bind awake13 (Ev.some rfl))
  refine Ev.iten hz (Ev.bind awake13 (Ev.itep rfl ?_))
  rw [show wrap64 a1 = a1 from w64 (by omega)]
  refine Ev.bindc (locked_ev a2 0 a1 a0) (Ev.bindc (rlocked_ev a0 a1 hn) (Ev.itep (beq_self_eq_true _) ?_))
  refine Ev.bindc (grouped_ev a2 0 a1 a0) (Ev.bindc (rgrouped_ev a0 a1 hn) (Ev.itep (beq_self_eq_true _) ?_))
  refine Ev.bindc (measured_ev a2 0 a1 a0) (Ev.bindc (rmeasured_ev a0 a1 hn) (Ev.itep (beq_self_eq_true _) ?_))
  refine Ev.bindc (spread_ev a2 0 a1 a0) (Ev.bindc (rspread_ev a0 a1 hn) (Ev.itep (beq_self_eq_true _) ?_))
  refine Ev.bindc (letters_ev a0) (Ev.bindc (rletters_ev a0) (Ev.itep rfl ?_))
  refine Ev.bind (named_ev a0 a2 (by omega)) ?_
  exact Ev.bind (rnamed_ev a0 a2 (by omega)) (Ev.some (beq_self_eq_true _))

end Go.Proofs.YtlmhlmendnjmlaaDoor.Pure
