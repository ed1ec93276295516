/- What any sum becomes by any bytes, and its four bytes, are the document's: the plain law. -/
import Derived.Test.YtkcckhlkaknggaaPAllx5
import Derived.Test.YtkcckhlkaknggaaPAllx8
import Derived.Test.YtkcckhlkaknggaaLsum
import Derived.Test.YtkcckhlkaknggaaLnum
namespace Go.Proofs.Ytkcckhlkaknggaa.Pure
open Go.RowKit Go.Proofs.Ytkcckhlkaknggaa.PAll Go.Proofs.Ytkcckhlkaknggaa.Pl Go.Proofs.YtkcckhlkaknggaaW.PrintWords Go.Proofs.YtkcckhlkaknggaaW.PrintLast

theorem awake16 : diacriticlaw16_awake.f = some true := rfl
theorem sumBytes_ev (s : Nat) (hs : s < 4294967296) : Ev (fun k => sum_Sum_Bytes.f k (s : Int)) (strOfNums (ints (sm s 4))) := by
  unfold sum_Sum_Bytes.f
  rw [wu64 (n := (s : Int)) (by omega)]
  exact Ev.bind (small_ev s 4) (Ev.some rfl)
theorem SumReckons : diacriticlaw16_SumReckons.Pure := by
  intro a0 a1 h0 h1
  have hr := wf_u32 h0
  obtain ⟨s, rfl⟩ := Int.eq_ofNat_of_zero_le hr.1
  have hs : s < 4294967296 := by omega
  apply Ev.rounds
  unfold diacriticlaw16_SumReckons.f
  by_cases hc : (a1.size : Int) > 2000
  · exact Ev.itep hc (Ev.bindc awake16 (Ev.some rfl))
  · refine Ev.iten hc ?_
    have hl := sumN_lt (nats a1) s hs (nats_lt a1)
    have e1 := add_ev s hs [a1] (by simp) (by simp; omega)
    rw [addN_one] at e1
    refine Ev.bind e1 ?_
    rw [wu64 (n := (s : Int)) (by omega)]
    refine Ev.bind (refof_ev s hs a1 (by omega)) (Ev.bindc awake16 (Ev.itep rfl ?_))
    refine Ev.itep (wu64 (by omega)) ?_
    refine Ev.bind (sumBytes_ev _ hl) (Ev.bind (refsmall_ev _ (by omega) 4) (Ev.some ?_))
    rw [tl_beq]
    exact decide_eq_true rfl

end Go.Proofs.Ytkcckhlkaknggaa.Pure
