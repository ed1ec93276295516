/- The pieces of any text of blocks, or what is wrong and where, are the document's; whole they are the text: the plain law. -/
import Derived.Test.YtbndilnbfclmbaaPAllx16
import Derived.Test.YtbndilnbfclmbaaPAllx18
import Derived.Test.YtbndilnbfclmbaaPAllx19
import Derived.Test.YtbndilnbfclmbaaLsrt2
namespace Go.Proofs.Ytbndilnbfclmbaa.Pure
open Go.RowKit Go.Proofs.Ytbndilnbfclmbaa.PAll Go.Proofs.Ytbndilnbfclmbaa.Pl Go.Proofs.YtbndilnbfclmbaaW.PrintWords Go.Proofs.YtbndilnbfclmbaaW.PrintLast
set_option linter.unusedVariables false
set_option linter.unusedSimpArgs false

theorem awake24 : Ev (fun k => diacriticlaw24_awake.f k) true := Ev.of diacriticlaw24_awake.mono (k := 100) (by kernel_rfl)
theorem SrtReads : diacriticlaw24_SrtReads.Pure := by
  intro s _
  apply Ev.rounds
  unfold diacriticlaw24_SrtReads.f
  by_cases hc : (s.size : Int) > 2000
  · exact Ev.itep hc (Ev.bind awake24 (Ev.some rfl))
  · refine Ev.iten hc (Ev.bind (parse_ev s (by omega)) (Ev.bind (rparse_ev s (by omega)) (Ev.bind awake24 (Ev.itep rfl ?_))))
    by_cases hn : (parseS s).2 = -1
    · obtain ⟨t1, t2⟩ := parse_txt s hn
      have ec := cat_txt (parseS s).1
      rw [t1, strN_nats] at ec
      rw [if_pos hn, if_pos hn, hn]
      refine Ev.bindc (show diacriticlaw23_Fault.f (-1) = some (0, 0) from rfl) (Ev.itep (by simp) (Ev.bind (same_ev _ (by omega)) (Ev.itep rfl (Ev.iten (by show ¬ ((-1 : Int) ≥ 0); decide) ?_))))
      refine Ev.bind (whole_ev _ (by rw [List.length_map]; omega) (by rw [ec]; omega)) (Ev.some ?_)
      rw [ec, beq_self_eq_true]
    · have hge := parseS_neg s
      have hf : diacriticlaw23_Fault.f (parseS s).2 = some (1, (parseS s).2) := by
        unfold diacriticlaw23_Fault.f
        rw [if_neg (by omega)]
      rw [if_neg hn, if_neg hn, parse_nil s hn]
      exact Ev.bindc hf (Ev.itep (by simp) (Ev.bind (same_ev [] (by simp)) (Ev.itep rfl (Ev.itep (by omega) (Ev.some rfl)))))

end Go.Proofs.Ytbndilnbfclmbaa.Pure
