/- Texts in parts have the sum of the whole: the plain law. -/
import Derived.Test.YtkcckhlkaknggaaPAllx5
import Derived.Test.YtkcckhlkaknggaaPAllx6
import Derived.Test.YtkcckhlkaknggaaLsum
namespace Go.Proofs.Ytkcckhlkaknggaa.Pure
open Go.RowKit Go.Proofs.Ytkcckhlkaknggaa.PAll Go.Proofs.Ytkcckhlkaknggaa.Pl Go.Proofs.YtkcckhlkaknggaaW.PrintWords Go.Proofs.YtkcckhlkaknggaaW.PrintLast

theorem awake16p : diacriticlaw16_awake.f = some true := rfl
theorem addN_snoc (s : Nat) (l : List ByteArray) (x : ByteArray) : addN s (l ++ [x]) = sumN (addN s l) (nats x) := by
  unfold addN
  rw [List.flatMap_append, sumN_append]
  simp
theorem addN_lt (l : List ByteArray) (s : Nat) (hs : s < 4294967296) : addN s l < 4294967296 := by
  apply sumN_lt _ _ hs
  intro c hc
  rw [List.mem_flatMap] at hc
  obtain ⟨x, _, hx⟩ := hc
  exact nats_lt x c hx
theorem parts_loop (l : List ByteArray) (hl : l.length ≤ 40) : ∀ (d i : Nat) (x : ByteArray), i + d = l.length → (∀ y ∈ l.take i, y.size ≤ 200) → nats x = (l.take i).flatMap nats → x.size ≤ 200 * i →
    Ev (fun k => diacriticlaw16_SumParts.l0 k l x ((addN 0 (l.take i) : Nat) : Int) l (l.length : Int) (i : Int)) true
  | 0, i, x, hi, hy, hx, hz => by
    have ht : l.take i = l := List.take_of_length_le (by omega)
    rw [ht] at hy hx
    refine Ev.step (fun k => by rw [diacriticlaw16_SumParts.l0]) ?_
    refine Ev.iten (by omega) (Ev.bindc awake16p (Ev.itep rfl ?_))
    refine Ev.bind (of_ev l (by omega) (fun y h => by have := hy y h; omega)) ?_
    refine Ev.itep (by rw [ht]) ?_
    refine Ev.bind (of_ev [x] (by simp) (by simp; omega)) (Ev.some ?_)
    have : addN 0 [x] = addN 0 l := by rw [addN_one, hx]; rfl
    rw [ht, this]
    simp
  | d + 1, i, x, hi, hy, hx, hz => by
    have hlt : i < l.length := by omega
    have e : rdOf ByteArray.empty l (i : Int) = l[i] := by
      simp [rdOf, List.getD_eq_getElem?_getD, List.getElem?_eq_getElem hlt]
    refine Ev.step (fun k => by rw [diacriticlaw16_SumParts.l0]) ?_
    refine Ev.itep (by omega) (Ev.itep (by omega) (Ev.itep (by omega) ?_))
    rw [e]
    by_cases hs : (l[i].size : Int) > 200
    · exact Ev.itep hs (Ev.bindc awake16p (Ev.some rfl))
    · refine Ev.iten hs (Ev.itep (by omega) ?_)
      refine Ev.bind (add_ev _ (addN_lt _ 0 (by decide)) [l[i]] (by simp) (by simp; omega)) ?_
      have ht : l.take (i + 1) = l.take i ++ [l[i]] := List.take_succ_eq_append_getElem hlt
      rw [show wrap64 ((i : Int) + 1) = ((i + 1 : Nat) : Int) by rw [w64 (by omega)]; omega, addN_one, ← addN_snoc, ← ht]
      refine parts_loop l hl d (i + 1) _ (by omega) ?_ ?_ (by rw [size_app]; omega)
      · intro y h
        rw [ht, List.mem_append, List.mem_singleton] at h
        rcases h with h | rfl
        · exact hy y h
        · omega
      · rw [nats_app, hx, ht, List.flatMap_append]; simp [-List.take_append_getElem]
theorem SumParts : diacriticlaw16_SumParts.Pure := by
  intro l h0 h1
  apply Ev.rounds
  unfold diacriticlaw16_SumParts.f
  by_cases hc : (l.length : Int) > 40
  · exact Ev.itep hc (Ev.bindc awake16p (Ev.some rfl))
  · exact Ev.iten hc (parts_loop l (by omega) l.length 0 ⟨#[]⟩ (by omega) (by simp) rfl (Nat.zero_le _))

end Go.Proofs.Ytkcckhlkaknggaa.Pure
