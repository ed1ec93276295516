/- How an argument's cells are read as the printed functions' values: numbers, bools, texts, slices; structs field by field. -/
import Derived.Test.YtmfamkkikiglmaaPAllx0
import Derived.Deep.Slices
import Derived.ChangeArms
import Derived.WideShapes
namespace Go.Proofs.Ytmfamkkikiglmaa.Op
open Go.RowKit Go.Deep Go.Proofs.YtmfamkkikiglmaaW.PrintWords Go.Proofs.YtmfamkkikiglmaaW.PrintLast Go.Proofs.YtmfamkkikiglmaaW.PrintMore
open Go.ChangeShapes Go.WideShapes
set_option linter.unusedVariables false

/-- Whatever reads as a datum of type t is a value of this kind, of which 'ok' holds. -/
def Opens {α : Type} (P : Program) (t : TypeId) (d : Kd α) (ok : α → Prop) : Prop :=
  ∀ {H : Type} (enc : TypeId × Value → H) (w : World) (spare : Nat → Bool) (held : Bool) (fuel : Nat) (cs : List Value) (x : DataW H × List MemPlace), DataW.trod enc P w 0 spare held fuel t cs = some x → ∃ a : α, d.K w a cs ∧ ok a
theorem opens_int {P : Program} {t : TypeId} {k : IntKind} (ht : P.underlying t = some (.int k)) : Opens P t (Kd.int k) (fun n => (Lit.int k n).wf = true) := by
  intro H enc w spare held fuel cs x h
  obtain ⟨n, hc, _, hw⟩ := DataW.trod_int ht h
  exact ⟨n, hc, hw⟩
theorem opens_bool {P : Program} {t : TypeId} (ht : P.underlying t = some .bool) : Opens P t Kd.bool (fun _ => True) := by
  intro H enc w spare held fuel cs x h
  obtain ⟨b, hc, _⟩ := DataW.trod_bool ht h
  exact ⟨b, hc, trivial⟩
theorem opens_string {P : Program} {t : TypeId} (ht : P.underlying t = some .string) : Opens P t Kd.string (fun s => s.size ≤ 9223372036854775807) := by
  intro H enc w spare held fuel cs x h
  obtain ⟨s, hc, _, hm⟩ := DataW.trod_string ht h
  exact ⟨s, hc, hm⟩
theorem opens_slice {α : Type} [Inhabited α] {P : Program} {t e : TypeId} {d : Kd α} {ok : α → Prop} (ht : P.underlying t = some (.slice e)) (hs : P.cellsOf e = d.sz) (he : Opens P e d ok) :
    Opens P t (Kd.slice e d) (fun xs => xs.length ≤ 9223372036854775807 ∧ ∀ x ∈ xs, ok x) := by
  intro H enc w spare held fuel cs x h
  rcases open_slice ht h with ⟨hc, _⟩ | ⟨a, len, cap, m, n, D, Pl, hc, _, hl, hm, hmm, _, hx⟩
  · exact ⟨[], ⟨none, 0, hc, Nat.le_refl _, Kd.C_nil d w⟩, by simp, by simp⟩
  · have hlm : len ≤ m := by rw [hmm]; split <;> omega
    have each : ∀ i, i < len → ∃ p : α, ok p ∧ ∃ c : List Value, c.length = d.sz ∧ d.K w p c ∧ ∀ j u, c[j]? = some u → w.cell? (a.add (i * d.sz + j)) = some u := by
      intro i hi
      obtain ⟨c, h1, h2⟩ := hx i (by omega)
      obtain ⟨_, hlen, hcell⟩ := World.cells?_some h1
      obtain ⟨p, hp, hok⟩ := he enc w spare held n c _ h2
      refine ⟨p, hok, c, d.K_len hp, hp, fun j u hu => ?_⟩
      have hj : j < P.cellsOf e := by rw [← hlen]; exact (List.getElem?_eq_some_iff.1 hu).1
      have := hcell j hj
      rw [Go.Deep.add_add, hs] at this
      rw [this, hu]
    obtain ⟨f, hf⟩ := choose_lt each
    have hll : ((List.range len).map f).length = len := by simp
    have hmax : len ≤ 9223372036854775807 := Nat.le_trans hl hm
    refine ⟨(List.range len).map f, ⟨some a, cap, by rw [hll]; exact hc, by rw [hll]; exact hl, ?_⟩, by rw [hll]; exact hmax, ?_⟩
    · refine ⟨rfl, by rw [hll]; exact hmax, fun _ => ⟨a, rfl, fun j p hj => ?_⟩⟩
      have hj' : j < len := by have := (List.getElem?_eq_some_iff.1 hj).1; rwa [hll] at this
      have hp : f j = p := by simpa [hj'] using hj
      subst hp
      exact (hf j hj').2
    · intro x hx
      simp only [List.mem_map, List.mem_range] at hx
      obtain ⟨j, hj, rfl⟩ := hx
      exact (hf j hj).1
/-- A struct of one field, of two in line. -/
theorem opens_iso {α β : Type} {P : Program} {t : TypeId} {d : Kd β} {f : α → β} {g : β → α} {ok : β → Prop} (hg : ∀ b, f (g b) = b) (h : Opens P t d ok) : Opens P t (Kd.iso d f) (fun a => ok (f a)) := by
  intro H enc w spare held fuel cs x hx
  obtain ⟨b, hk, hok⟩ := h enc w spare held fuel cs x hx
  refine ⟨g b, ?_, by show ok (f (g b)); rw [hg]; exact hok⟩
  show d.K w (f (g b)) cs
  rw [hg]; exact hk

/-- Fields in line from offset o on (their types and offsets): what they are read as. -/
def OpensF {α : Type} (P : Program) (L : List (TypeId × Nat)) (o : Nat) (d : Kd α) (ok : α → Prop) : Prop :=
  ∀ {H : Type} (enc : TypeId × Value → H) (w : World) (spare : Nat → Bool) (held : Bool) (fuel : Nat) (cs : List Value), (∀ p, p ∈ L → ∃ x, DataW.trod enc P w 0 spare held fuel p.1 ((cs.drop p.2).take (P.cellsOf p.1)) = some x) →
    cs.length = o + d.sz → ∃ a : α, d.K w a (cs.drop o) ∧ ok a
theorem opensF_last {α : Type} {P : Program} {t : TypeId} {o : Nat} {d : Kd α} {ok : α → Prop} (hs : P.cellsOf t = d.sz) (he : Opens P t d ok) : OpensF P [(t, o)] o d ok := by
  intro H enc w spare held fuel cs h hl
  obtain ⟨x, hx⟩ := h (t, o) (by simp)
  simp only at hx
  rw [hs, List.take_of_length_le (by rw [List.length_drop]; omega)] at hx
  exact he enc w spare held fuel _ _ hx
theorem opensF_cons {α β : Type} {P : Program} {t : TypeId} {L : List (TypeId × Nat)} {o o2 : Nat} {d : Kd α} {d2 : Kd β} {ok : α → Prop} {ok2 : β → Prop} (hs : P.cellsOf t = d.sz) (ho : o + d.sz = o2) (he : Opens P t d ok) (hr : OpensF P L o2 d2 ok2) :
    OpensF P ((t, o) :: L) o (Kd.pair d d2) (fun x => ok x.1 ∧ ok2 x.2) := by
  intro H enc w spare held fuel cs h hl
  subst ho
  obtain ⟨x, hx⟩ := h (t, o) (by simp)
  simp only at hx
  rw [hs] at hx
  obtain ⟨a, ha, hoa⟩ := he enc w spare held fuel _ _ hx
  have hl' : cs.length = o + d.sz + d2.sz := by rw [hl]; show o + (d.sz + d2.sz) = _; omega
  obtain ⟨b, hb, hob⟩ := hr enc w spare held fuel cs (fun p hp => h p (by simp [hp])) hl'
  refine ⟨(a, b), ⟨_, _, ?_, ha, hb⟩, hoa, hob⟩
  rw [← List.drop_drop, List.take_append_drop]
theorem opens_struct {α : Type} {P : Program} {t : TypeId} {fs : Array Field} {L : List (TypeId × Nat)} {d : Kd α} {ok : α → Prop} (ht : P.underlying t = some (.struct fs)) (hL : (fs.toList.map fun f => (f.type, f.offset)) = L) (hs : P.cellsOf t = d.sz) (h : OpensF P L 0 d ok) : Opens P t d ok := by
  intro H enc w spare held fuel cs x hx
  obtain ⟨xs, n, _, _, hl, hlen, hf⟩ := DataW.trod_struct ht hx
  have := h enc w spare held n cs (fun p hp => by
    rw [← hL, List.mem_map] at hp
    obtain ⟨f, hm, rfl⟩ := hp
    obtain ⟨j, hj, hjf⟩ := List.getElem_of_mem hm
    have hj' : j < fs.size := by simpa using hj
    have h1 := hf j f (by rw [Array.getElem?_eq_getElem hj']; simpa using hjf)
    rw [List.getElem?_eq_getElem (by omega)] at h1
    exact ⟨_, h1⟩) (by rw [hl, hs]; omega)
  rwa [List.drop_zero] at this

/-- A slice that is an argument. -/
theorem open_slice_arg {H : Type} {enc : TypeId × Value → H} {α : Type} {P : Program} {w : World} {spare : Nat → Bool} {held : Bool} {t e : TypeId} {d : Kd α} {ok : List α → Prop} (h : Opens P t (Kd.slice e d) ok) {a : Option Addr} {len cap : Nat} {x : DataW H} {ps : List MemPlace} (hd : DataW.Trod enc P w 0 spare held t (.slice a len cap) x ps) :
    ∃ l : List α, l.length = len ∧ len ≤ cap ∧ d.C w a len l ∧ ok l := by
  obtain ⟨fuel, hf⟩ := hd
  obtain ⟨l, ⟨A, c, hc, hl, hC⟩, hok⟩ := h enc w spare held fuel _ _ hf
  simp only [Value.cells, List.cons.injEq, Value.slice.injEq, and_true] at hc
  obtain ⟨rfl, rfl, rfl⟩ := hc
  exact ⟨l, rfl, hl, hC, hok⟩
/-- A struct that is an argument. -/
theorem open_agg_arg {H : Type} {enc : TypeId × Value → H} {α : Type} {P : Program} {w : World} {spare : Nat → Bool} {held : Bool} {t : TypeId} {d : Kd α} {ok : α → Prop} (h : Opens P t d ok) {cs : Array Value} {x : DataW H} {ps : List MemPlace} (hd : DataW.Trod enc P w 0 spare held t (.agg cs) x ps) :
    ∃ a : α, d.K w a cs.toList ∧ ok a := by
  obtain ⟨fuel, hf⟩ := hd
  exact h enc w spare held fuel _ _ hf

end Go.Proofs.Ytmfamkkikiglmaa.Op
