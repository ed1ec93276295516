/- Two texts of blocks, with an empty line between them, have such a form, and the blocks of both: the plain law. -/
import Derived.Test.YtbndilnbfclmbaaPAllx16
import Derived.Test.YtbndilnbfclmbaaPAllx21
import Derived.Test.YtbndilnbfclmbaaLsrt4
namespace Go.Proofs.Ytbndilnbfclmbaa.Pure
open Go.RowKit Go.Proofs.Ytbndilnbfclmbaa.PAll Go.Proofs.Ytbndilnbfclmbaa.Pl Go.Proofs.YtbndilnbfclmbaaW.PrintWords Go.Proofs.YtbndilnbfclmbaaW.PrintLast
set_option linter.unusedVariables false
set_option linter.unusedSimpArgs false

theorem awake24 : Ev (fun k => diacriticlaw24_awake.f k) true := Ev.of diacriticlaw24_awake.mono (k := 100) (by kernel_rfl)
theorem cnt_le (s : ByteArray) : cntD (parseS s).1 ≤ 2 * s.size := by
  by_cases h : (parseS s).2 = -1
  · have := (parse_txt s h).2
    have h2 : cntD (parseS s).1 ≤ (parseS s).1.length := List.countP_le_length
    omega
  · rw [parse_nil s h]; simp [cntD]
theorem blocks_over (a b : ByteArray) : Ev (fun k => diacriticlaw24_SrtBlocks.j0 k a b true) true :=
  Ev.step (fun k => by rw [diacriticlaw24_SrtBlocks.j0]) (Ev.itep rfl (Ev.bind awake24 (Ev.some rfl)))
theorem blocks_bad (a b : ByteArray) : Ev (fun k => diacriticlaw24_SrtBlocks.j1 k a b true) true :=
  Ev.step (fun k => by rw [diacriticlaw24_SrtBlocks.j1]) (Ev.itep rfl (Ev.bind awake24 (Ev.some rfl)))
theorem SrtBlocks : diacriticlaw24_SrtBlocks.Pure := by
  intro a b _ _
  apply Ev.rounds
  unfold diacriticlaw24_SrtBlocks.f
  by_cases h1 : (a.size : Int) > 500
  · exact Ev.itep h1 (blocks_over a b)
  refine Ev.iten h1 ?_
  by_cases h2 : (b.size : Int) > 500
  · rw [decide_eq_true h2]; exact blocks_over a b
  rw [decide_eq_false h2]
  refine Ev.step (fun k => by rw [diacriticlaw24_SrtBlocks.j0]) (Ev.iten (by decide) ?_)
  refine Ev.bind (parse_ev a (by omega)) (Ev.bind (parse_ev b (by omega)) ?_)
  by_cases ha : (parseS a).2 = -1
  · rw [if_pos ha, if_pos ha]
    refine Ev.bindc rfl (Ev.iten (by simp) ?_)
    by_cases hb : (parseS b).2 = -1
    · rw [if_pos hb, if_pos hb]
      refine Ev.bindc rfl ?_
      simp only [bne_self_eq_false]
      obtain ⟨t1, t2⟩ := join_blocks a b ha hb
      have z2 : (⟨#[10, 10]⟩ : ByteArray).size = 2 := rfl
      have ts : (a ++ (⟨#[10, 10]⟩ : ByteArray) ++ b).size = a.size + 2 + b.size := by rw [size_app, size_app, z2]
      have ca := cnt_le a
      have cb := cnt_le b
      refine Ev.step (fun k => by rw [diacriticlaw24_SrtBlocks.j1]) (Ev.iten (by decide) (Ev.itep (by omega) (Ev.itep (by rw [size_app, z2]; omega) ?_)))
      refine Ev.bind (parse_ev _ (by rw [ts]; omega)) (Ev.bind awake24 (Ev.itep rfl ?_))
      rw [if_pos t1, if_pos t1]
      refine Ev.bindc rfl (Ev.iten (by simp) (Ev.bind (count_ev _ (by rw [ts]; omega)) (Ev.bind (count_ev a (by omega)) (Ev.bind (count_ev b (by omega)) (Ev.some ?_)))))
      rw [t2, w64 (by omega)]
      simp
    · rw [if_neg hb, if_neg hb]
      exact Ev.bindc rfl (blocks_bad a b)
  · rw [if_neg ha, if_neg ha]
    exact Ev.bindc rfl (Ev.itep (by simp) (blocks_bad a b))

end Go.Proofs.Ytbndilnbfclmbaa.Pure
