/- The pieces of any line, or that it has no form, and whether it is a time, are the document's; whole they are the line: the plain law. -/
import Derived.Test.YtbndilnbfclmbaaPAllx19
import Derived.Test.YtbndilnbfclmbaaPAllx22
import Derived.Test.YtbndilnbfclmbaaLlrc4
namespace Go.Proofs.Ytbndilnbfclmbaa.Pure
open Go.RowKit Go.Proofs.Ytbndilnbfclmbaa.PAll Go.Proofs.Ytbndilnbfclmbaa.Pl Go.Proofs.YtbndilnbfclmbaaW.PrintWords Go.Proofs.YtbndilnbfclmbaaW.PrintLast

theorem awake26 : Ev (fun k => diacriticlaw26_awake.f k) true := Ev.of diacriticlaw26_awake.mono (k := 80) (by kernel_rfl)
theorem LrcLines : diacriticlaw26_LrcLines.Pure := by
  intro s h0
  apply Ev.rounds
  unfold diacriticlaw26_LrcLines.f
  by_cases hc : (s.size : Int) > 500
  · exact Ev.itep hc (Ev.bind awake26 (Ev.some rfl))
  · have hs : s = strN (nats s) := (strN_nats s).symm
    have hl := nats_lt s
    have hz : (nats s).length ≤ 500 := by rw [nats_len]; omega
    have p1 := pieces_ev (nats s) hl (by omega)
    have p2 := rpieces_ev (nats s) hl (by omega)
    rw [← hs] at p1 p2
    refine Ev.iten hc (Ev.bind p1 (Ev.bind p2 (Ev.iten (by simp) ?_)))
    refine Ev.bind (moment_ev s (by omega)) (Ev.bind (rmoment_ev s (by omega)) ?_)
    rw [bne_self_eq_false]
    refine Ev.step (fun k => by rw [diacriticlaw26_LrcLines.j0]) (Ev.iten (by decide) ?_)
    by_cases h : (pcs (nats s)).2 = true
    · obtain ⟨t1, t2⟩ := pcs_txt (nats s) hl h
      have ec := cat_txt (pcs (nats s)).1
      rw [t1, ← hs] at ec
      refine Ev.itep h (Ev.bind awake26 (Ev.itep rfl (Ev.bind (same_ev _ (by omega)) (Ev.itep rfl ?_))))
      refine Ev.bind (whole_ev _ (by rw [List.length_map]; omega) (by rw [ec]; omega)) (Ev.some ?_)
      rw [ec, beq_self_eq_true]
    · have e : (pcs (nats s)).1 = [] := by
        unfold pcs at h ⊢
        split
        · rfl
        · split
          · rename_i a b; rw [if_neg a, if_pos b] at h; exact absurd rfl h
          · split
            · rename_i a b c
              rw [if_neg a, if_neg b, if_pos c] at h
              unfold noteP at h ⊢
              split
              · rename_i d; rw [if_pos d] at h; exact absurd rfl h
              · rfl
            · rfl
      refine Ev.iten h (Ev.bind awake26 (Ev.itep rfl (Ev.some ?_)))
      rw [e]; rfl

end Go.Proofs.Ytbndilnbfclmbaa.Pure
