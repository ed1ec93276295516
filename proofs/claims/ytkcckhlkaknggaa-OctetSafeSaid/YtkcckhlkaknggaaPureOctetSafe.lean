/- A number in seven bits each is the document's, or too great; each byte is below 128, and it is read as it was: the plain law. -/
import Derived.Test.YtkcckhlkaknggaaPAllx3
import Derived.Test.YtkcckhlkaknggaaPAllx4
import Derived.Test.YtkcckhlkaknggaaLsafe
namespace Go.Proofs.Ytkcckhlkaknggaa.Pure
open Go.RowKit Go.Proofs.Ytkcckhlkaknggaa.PAll Go.Proofs.Ytkcckhlkaknggaa.Pl Go.Proofs.YtkcckhlkaknggaaW.PrintWords Go.Proofs.YtkcckhlkaknggaaW.PrintLast

theorem awake01 : Ev (fun k => diacriticlaw01_awake.f k) true := Ev.of diacriticlaw01_awake.mono (k := 40) (by kernel_rfl)
theorem safe_bytes (n : Nat) (hn : n ≤ 268435455) : ∀ (d i : Nat), i + d = 4 → Ev (fun k => diacriticlaw01_OctetSafe.l0 k (n : Int) (strOfNums (ints (sevens n))) (i : Int)) true
  | 0, i, hi => by
    refine Ev.step (fun k => by rw [diacriticlaw01_OctetSafe.l0]) ?_
    refine Ev.iten (by omega) ?_
    refine Ev.bindc rfl (Ev.bind awake01 (Ev.itep rfl (Ev.bindc (insafe_ok n hn) ?_)))
    refine Ev.itep (wu64 (by omega)) ?_
    exact Ev.bindc rfl (Ev.bindc rfl (Ev.some rfl))
  | d + 1, i, hi => by
    refine Ev.step (fun k => by rw [diacriticlaw01_OctetSafe.l0]) ?_
    have hsz : (strOfNums (ints (sevens n))).size = 4 := by rw [size_str]; rfl
    have hb : bt (strOfNums (ints (sevens n))) (i : Int) < 128 := by
      rw [bt_getD, bytesOf_str (ints_range _ (sevens_lt256 n)), Int.toNat_natCast]
      have : i = 0 ∨ i = 1 ∨ i = 2 ∨ i = 3 := by omega
      rcases this with rfl | rfl | rfl | rfl <;> simp [ints, sevens] <;> omega
    refine Ev.itep (by omega) (Ev.itep (by omega) (Ev.itep (by rw [hsz]; omega) (Ev.iten (by omega) ?_)))
    rw [show wrap64 ((i : Int) + 1) = ((i + 1 : Nat) : Int) by rw [w64 (by omega)]; omega]
    exact safe_bytes n hn d (i + 1) (by omega)
theorem OctetSafe : diacriticlaw01_OctetSafe.Pure := by
  intro a0 h0
  have hr := wf_u64 h0
  obtain ⟨n, rfl⟩ := Int.eq_ofNat_of_zero_le hr.1
  apply Ev.rounds
  unfold diacriticlaw01_OctetSafe.f
  by_cases hc : n ≤ 268435455
  · refine Ev.bindc (safe_yes n hc) (Ev.iten (by omega) (Ev.itep rfl (Ev.bindc (refsafe n (by omega)) (Ev.itep rfl ?_))))
    refine Ev.step (fun k => by rw [diacriticlaw01_OctetSafe.j0]) ?_
    have hsz : (strOfNums (ints (sevens n))).size = 4 := by rw [size_str]; rfl
    refine Ev.iten (by simp [hsz]) ?_
    exact safe_bytes n hc 4 0 (by omega)
  · refine Ev.bindc (safe_no (n : Int) (by omega)) (Ev.itep (by omega) (Ev.bind awake01 (Ev.itep rfl (Ev.iten (by decide) (Ev.some ?_)))))
    rw [tl_data]; rfl

end Go.Proofs.Ytkcckhlkaknggaa.Pure
