/- Texts that are joined are read one by one as they were: the plain law. -/
import Derived.Test.YtkcckhlkaknggaaPAllx14
import Derived.Test.YtkcckhlkaknggaaPAllx3
import Derived.Test.YtkcckhlkaknggaaLrd
import Derived.Test.YtkcckhlkaknggaaLjoin
namespace Go.Proofs.Ytkcckhlkaknggaa.Pure
open Go.RowKit Go.Proofs.Ytkcckhlkaknggaa.PAll Go.Proofs.Ytkcckhlkaknggaa.Pl Go.Proofs.YtkcckhlkaknggaaW.PrintWords Go.Proofs.YtkcckhlkaknggaaW.PrintLast
set_option linter.unusedSimpArgs false

theorem awake01 : Ev (fun k => diacriticlaw01_awake.f k) true := Ev.of diacriticlaw01_awake.mono (k := 40) (by kernel_rfl)
def szs (l : List ByteArray) : Nat := (l.map (·.size)).sum
theorem szs_take (l : List ByteArray) (i : Nat) (h : i < l.length) : szs (l.take (i + 1)) = szs (l.take i) + l[i].size := by
  unfold szs
  rw [List.take_succ_eq_append_getElem h, List.map_append, List.sum_append]; simp
theorem szs_le (l : List ByteArray) (b : Nat) (h : ∀ x ∈ l, x.size ≤ b) : szs l ≤ l.length * b := by
  unfold szs
  induction l with
  | nil => simp
  | cons a l ih =>
    have h1 := ih (fun x hx => h x (by simp [hx]))
    have h2 := h a (by simp)
    rw [List.map_cons, List.sum_cons, List.length_cons, Nat.add_mul]; omega
theorem nats_cat (l : List ByteArray) : nats (cat l) = (l.map nats).flatten := by
  apply ints_inj
  rw [← bytes_ints, bytesOf_cat, ints, List.map_flatten, List.map_map]
  congr 1
  apply List.map_congr_left
  intro x _
  rw [bytes_ints]; rfl
theorem rd_at (l : List ByteArray) (i : Nat) (h : i < l.length) : rdOf ByteArray.empty l (i : Int) = l[i] := by
  unfold rdOf
  rw [Int.toNat_natCast, List.getD_eq_getElem?_getD, List.getElem?_eq_getElem h]; rfl
theorem wants (l : List ByteArray) (hl : l.length ≤ 60) (hs : ∀ x ∈ l, x.size ≤ 500) : ∀ (d i p : Nat), i + d = l.length → Pl.Rest (cat l) p ((l.drop i).map nats).flatten →
    p + szs (l.drop i) = szs l → Ev (fun k => diacriticlaw01_OctetJoins.l1 k ((szs l : Nat) : Int) (cat l) l (l.length : Int) (i : Int) (cat l) (p : Int) 0 0 0) true
  | 0, i, p, hi, hr, hp => by
    have hz := size_cat l
    have hb := szs_le l 500 hs
    have hd : l.drop i = [] := List.drop_of_length_le (by omega)
    rw [hd] at hr hp
    have hsz := hr.size
    simp only [szs, List.map_nil, List.flatten_nil, List.length_nil, List.sum_nil] at hsz hp hb
    have ep : p = (cat l).size := by omega
    refine Ev.step (fun k => by rw [diacriticlaw01_OctetJoins.l1]) (Ev.iten (by omega) (Ev.bind awake01 (Ev.itep rfl (Ev.itep (show ((cat l).size : Int) = ((szs l : Nat) : Int) by unfold szs; omega) ?_))))
    have hl60 : l.length * 500 ≤ 60 * 500 := Nat.mul_le_mul_right _ hl
    refine Ev.bindc (rleft (b := 0) hr ⟨by omega, by omega⟩ 0) (Ev.itep rfl ?_)
    refine Ev.bindc rfl (Ev.itep ?_ (Ev.bindc rfl (Ev.bindc rfl (Ev.some rfl))))
    show wrap64 (0 + (p : Int)) = _
    rw [w64 (by omega)]; unfold szs; omega
  | d + 1, i, p, hi, hr, hp => by
    have hz := size_cat l
    have hb := szs_le l 500 hs
    have hl60 : l.length * 500 ≤ 60 * 500 := Nat.mul_le_mul_right _ hl
    have hlt : i < l.length := by omega
    have hd : l.drop i = l[i] :: l.drop (i + 1) := List.drop_eq_getElem_cons hlt
    rw [hd, List.map_cons, List.flatten_cons] at hr
    rw [hd] at hp
    simp only [szs, List.map_cons, List.sum_cons] at hp hb
    have hx := hs l[i] (List.getElem_mem hlt)
    refine Ev.step (fun k => by rw [diacriticlaw01_OctetJoins.l1]) (Ev.itep (by omega) (Ev.itep (by omega) (Ev.itep (by omega) ?_)))
    rw [rd_at l i hlt]
    have hw := rwant (b := 0) l[i] hr ⟨by omega, by omega⟩ 0 (by omega)
    refine Ev.bind hw (Ev.itep rfl ?_)
    rw [show wrap64 ((i : Int) + 1) = ((i + 1 : Nat) : Int) by rw [w64 (by omega)]; omega]
    have hn := hr.next
    rw [nats_len] at hn
    exact wants l hl hs d (i + 1) _ (by omega) hn (by unfold szs; omega)
theorem joins_loop (l : List ByteArray) (hl : l.length ≤ 60) : ∀ (d i : Nat), i + d = l.length → (∀ x ∈ l.take i, x.size ≤ 500) →
    Ev (fun k => diacriticlaw01_OctetJoins.l0 k l ((szs (l.take i) : Nat) : Int) l (l.length : Int) (i : Int)) true
  | 0, i, hi, hs => by
    rw [List.take_of_length_le (by omega)] at hs ⊢
    have hb := szs_le l 500 hs
    have hl60 : l.length * 500 ≤ 60 * 500 := Nat.mul_le_mul_right _ hl
    have hz := size_cat l
    unfold szs at hb
    refine Ev.step (fun k => by rw [diacriticlaw01_OctetJoins.l0]) (Ev.iten (by omega) ?_)
    refine Ev.bindc (join_ok l (by omega) (by omega)) (Ev.bindc rfl ?_)
    have hr := Pl.Rest.start (cat l)
    rw [nats_cat] at hr
    exact wants l hl hs l.length 0 0 (by omega) hr (by rw [List.drop_zero]; omega)
  | d + 1, i, hi, hs => by
    have hlt : i < l.length := by omega
    have hb := szs_le (l.take i) 500 hs
    have hl60 : (l.take i).length * 500 ≤ 60 * 500 := Nat.mul_le_mul_right _ (by rw [List.length_take]; omega)
    refine Ev.step (fun k => by rw [diacriticlaw01_OctetJoins.l0]) (Ev.itep (by omega) (Ev.itep (by omega) (Ev.itep (by omega) ?_)))
    rw [rd_at l i hlt]
    by_cases h : (l[i].size : Int) > 500
    · exact Ev.itep h (Ev.bind awake01 (Ev.some rfl))
    · refine Ev.iten h ?_
      rw [show wrap64 ((i : Int) + 1) = ((i + 1 : Nat) : Int) by rw [w64 (by omega)]; omega, w64 (by omega)]
      have e : ((szs (l.take i) : Nat) : Int) + (l[i].size : Int) = ((szs (l.take (i + 1)) : Nat) : Int) := by rw [szs_take l i hlt]; omega
      rw [e]
      refine joins_loop l hl d (i + 1) (by omega) ?_
      intro x hx
      rw [List.take_succ_eq_append_getElem hlt, List.mem_append, List.mem_singleton] at hx
      rcases hx with hx | rfl
      · exact hs x hx
      · omega
theorem OctetJoins : diacriticlaw01_OctetJoins.Pure := by
  intro l _ _
  apply Ev.rounds
  unfold diacriticlaw01_OctetJoins.f
  by_cases hc : (l.length : Int) > 60
  · exact Ev.itep hc (Ev.bind awake01 (Ev.some rfl))
  · refine Ev.iten hc ?_
    exact joins_loop l (by omega) l.length 0 (by omega) (by simp)

end Go.Proofs.Ytkcckhlkaknggaa.Pure
