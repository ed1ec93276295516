/- A reader that is none answers nothing: the plain law. -/
import Derived.Test.YtkcckhlkaknggaaPAllx17
import Derived.Test.YtkcckhlkaknggaaPAllx3
import Derived.Test.YtkcckhlkaknggaaLa
namespace Go.Proofs.Ytkcckhlkaknggaa.Pure
open Go.RowKit Go.Proofs.Ytkcckhlkaknggaa.PAll Go.Proofs.Ytkcckhlkaknggaa.Pl Go.Proofs.YtkcckhlkaknggaaW.PrintWords Go.Proofs.YtkcckhlkaknggaaW.PrintLast
set_option linter.unusedVariables false
set_option linter.unusedSimpArgs false

theorem awake01 : Ev (fun k => diacriticlaw01_awake.f k) true := Ev.of diacriticlaw01_awake.mono (k := 40) (by kernel_rfl)
theorem e0 : (⟨#[]⟩ : ByteArray).toList = ([] : List UInt8) := (tl_nil _).mpr rfl
theorem OctetNil : diacriticlaw01_OctetNil.Pure := by
  intro n s _ _
  apply Ev.rounds
  unfold diacriticlaw01_OctetNil.f
  refine Ev.bindc rfl (Ev.bind awake01 (Ev.itep rfl (Ev.bindc rfl (Ev.itep rfl (Ev.bindc rfl (Ev.itep rfl (Ev.bindc rfl (Ev.itep rfl ?_))))))))
  refine Ev.bindc rfl (Ev.itep e0 (Ev.bindc rfl (Ev.itep e0 (Ev.bindc rfl (Ev.itep e0 ?_)))))
  refine Ev.bindc rfl (Ev.itep rfl (Ev.bindc rfl (Ev.itep rfl (Ev.bindc rfl (Ev.itep rfl (Ev.bindc rfl (Ev.iten (by decide) (Ev.bindc rfl (Ev.some ?_)))))))))
  rw [e0]; rfl

end Go.Proofs.Ytkcckhlkaknggaa.Pure
