/- How many blocks any text has is the document's, as many as lines of times: the plain law. -/
import Derived.Test.YtbndilnbfclmbaaPAllx16
import Derived.Test.YtbndilnbfclmbaaPAllx20
import Derived.Test.YtbndilnbfclmbaaLsrt3
namespace Go.Proofs.Ytbndilnbfclmbaa.Pure
open Go.RowKit Go.Proofs.Ytbndilnbfclmbaa.PAll Go.Proofs.Ytbndilnbfclmbaa.Pl Go.Proofs.YtbndilnbfclmbaaW.PrintWords Go.Proofs.YtbndilnbfclmbaaW.PrintLast
set_option linter.unusedVariables false
set_option linter.unusedSimpArgs false

theorem awake24 : Ev (fun k => diacriticlaw24_awake.f k) true := Ev.of diacriticlaw24_awake.mono (k := 100) (by kernel_rfl)
theorem counts_loop (s : ByteArray) (hs : s.size ≤ 2000) (at_ : Int) (hat : at_ = (parseS s).2) (L : List Pc) (hLe : L = (parseS s).1) (hL : L.length ≤ 100000) (hx : ∀ x ∈ L, x.2.2.size ≤ 100000) : ∀ (d i n : Nat), i + d = L.length → n ≤ i → n + cntT (L.drop i) = cntT L →
    Ev (fun k => diacriticlaw24_SrtCounts.l0 k s at_ (n : Int) (L.map toQ) ((L.map toQ).length : Int) (i : Int)) true
  | 0, i, n, hi, hn, hc => by
    rw [List.drop_of_length_le (by omega)] at hc
    have hc : n = cntT L := by simpa [cntT] using hc
    have cv := count_ev s (by omega)
    rw [parse_cnt, ← hLe, ← hc] at cv
    refine Ev.step (fun k => by rw [diacriticlaw24_SrtCounts.l0]) (Ev.iten (by rw [List.length_map]; omega) ?_)
    by_cases ha : at_ ≥ 0
    · have h0 : n = 0 := by
        rw [hc, hLe, parse_nil s (by omega)]; rfl
      subst h0
      exact Ev.itep ha (Ev.bind awake24 (Ev.itep rfl (Ev.bind cv (Ev.some rfl))))
    · exact Ev.iten ha (Ev.bind awake24 (Ev.itep rfl (Ev.bind cv (Ev.some (beq_self_eq_true _)))))
  | d + 1, i, n, hi, hn, hc => by
    have hlt : i < L.length := by omega
    have hz := hx L[i] (List.getElem_mem hlt)
    rw [List.drop_eq_getElem_cons hlt] at hc
    refine Ev.step (fun k => by rw [diacriticlaw24_SrtCounts.l0]) (Ev.itep (by rw [List.length_map]; omega) (Ev.itep (by omega) (Ev.itep (by rw [List.length_map]; omega) ?_)))
    rw [rdQ L i hlt, show wrap64 ((i : Int) + 1) = ((i + 1 : Nat) : Int) by rw [w64 (by omega)]; omega]
    by_cases hm : L[i].1 = true
    · refine Ev.itep hm (Ev.bind (times_ev L[i].2.2 (by omega)) ?_)
      by_cases hd : timesB L[i].2.2 = true
      · have e : cntT (L[i] :: L.drop (i + 1)) = cntT (L.drop (i + 1)) + 1 := by
          unfold cntT; rw [List.countP_cons_of_pos]; unfold isT; rw [hm, hd]; rfl
        rw [show wrap64 ((n : Int) + 1) = ((n + 1 : Nat) : Int) by rw [w64 (by omega)]; omega]
        exact Ev.itep hd (counts_loop s hs at_ hat L hLe hL hx d (i + 1) (n + 1) (by omega) (by omega) (by omega))
      · have e : cntT (L[i] :: L.drop (i + 1)) = cntT (L.drop (i + 1)) := by
          unfold cntT; rw [List.countP_cons_of_neg]; unfold isT; rw [hm, Bool.eq_false_iff.mpr hd]; decide
        exact Ev.iten hd (counts_loop s hs at_ hat L hLe hL hx d (i + 1) n (by omega) (by omega) (by omega))
    · have e : cntT (L[i] :: L.drop (i + 1)) = cntT (L.drop (i + 1)) := by
        unfold cntT; rw [List.countP_cons_of_neg]; unfold isT; rw [Bool.eq_false_iff.mpr hm, Bool.false_and]; decide
      exact Ev.iten hm (counts_loop s hs at_ hat L hLe hL hx d (i + 1) n (by omega) (by omega) (by omega))
theorem SrtCounts : diacriticlaw24_SrtCounts.Pure := by
  intro s _
  apply Ev.rounds
  unfold diacriticlaw24_SrtCounts.f
  by_cases hc : (s.size : Int) > 2000
  · exact Ev.itep hc (Ev.bind awake24 (Ev.some rfl))
  · refine Ev.iten hc (Ev.bind (rparse_ev s (by omega)) ?_)
    have hl : (parseS s).1.length ≤ 2 * s.size ∧ ∀ x ∈ (parseS s).1, x.2.2.size ≤ s.size := by
      by_cases h : (parseS s).2 = -1
      · obtain ⟨a, b⟩ := parse_txt s h
        refine ⟨b, fun x hx => ?_⟩
        have := txt_mem _ x hx
        rwa [a, nats_len] at this
      · rw [parse_nil s h]; exact ⟨by simp, fun x hx => by simp at hx⟩
    exact counts_loop s (by omega) _ rfl _ rfl (by omega) (fun x hx => by have := hl.2 x hx; omega) (parseS s).1.length 0 0 (by omega) (Nat.le_refl _) (by rw [List.drop_zero, Nat.zero_add])

end Go.Proofs.Ytbndilnbfclmbaa.Pure
