/- Whether any text is digits, capitals, or has a form, is the document's: the plain law. -/
import Derived.Test.YtbndilnbfclmbaaPAllx13
import Derived.Test.YtbndilnbfclmbaaPAllx8
import Derived.Test.YtbndilnbfclmbaaLline2
namespace Go.Proofs.Ytbndilnbfclmbaa.Pure
open Go.RowKit Go.Proofs.Ytbndilnbfclmbaa.PAll Go.Proofs.Ytbndilnbfclmbaa.Pl Go.Proofs.YtbndilnbfclmbaaW.PrintWords Go.Proofs.YtbndilnbfclmbaaW.PrintLast

theorem awake22f : Ev (fun k => diacriticlaw22_awake.f k) true := Ev.of diacriticlaw22_awake.mono (k := 60) (by kernel_rfl)
theorem forms_over (s f : ByteArray) : Ev (fun k => diacriticlaw22_LineForms.j0 k s f true) true :=
  Ev.step (fun k => by rw [diacriticlaw22_LineForms.j0]) (Ev.itep rfl (Ev.bind awake22f (Ev.some rfl)))
theorem LineForms : diacriticlaw22_LineForms.Pure := by
  intro s f h0 h1
  apply Ev.rounds
  unfold diacriticlaw22_LineForms.f
  by_cases hc : (s.size : Int) > 1000
  · exact Ev.itep hc (forms_over s f)
  · refine Ev.iten hc ?_
    by_cases hd : (f.size : Int) > 1000
    · rw [decide_eq_true hd]; exact forms_over s f
    · rw [decide_eq_false hd]
      refine Ev.step (fun k => by rw [diacriticlaw22_LineForms.j0]) (Ev.iten (by decide) (Ev.bind awake22f (Ev.itep rfl ?_)))
      refine Ev.bind (digits_ev s (by omega)) (Ev.bind (rdigits_ev s (by omega)) (Ev.itep (beq_self_eq_true _) ?_))
      refine Ev.bind (caps_ev s (by omega)) (Ev.bind (rcaps_ev s (by omega)) (Ev.itep (beq_self_eq_true _) ?_))
      exact Ev.bind (like_ev s f (by omega)) (Ev.bind (rlike_ev s f (by omega)) (Ev.some (beq_self_eq_true _)))

end Go.Proofs.Ytbndilnbfclmbaa.Pure
