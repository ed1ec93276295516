/- Proved: the statement SrtTextsUpto: the Go function of that name returns true at every input of bulk at most 1048576 that the given row reads, and leaves its arguments as they were. Conditions: none beside the row's own. -/
import Derived.Test.YtbndilnbfclmbaaRows
import Derived.Test.YtbndilnbfclmbaaPAllx22
import Derived.Test.YtbndilnbfclmbaaPureSrtTexts
import Derived.WalkKit
import Derived.ProofKit
import Derived.OpenShut
import Derived.ShutString
import Derived.ChangeOld
import Derived.Below
import Derived.SizedLaws
import Derived.Test.YtbndilnbfclmbaaWAll
import Derived.Test.YtbndilnbfclmbaaOpens
import Derived.JoinedCond
namespace Go.Proofs.Ytbndilnbfclmbaa.srtTextsUpto
open Go.Proofs.Ytbndilnbfclmbaa.PAll Go.Proofs.YtbndilnbfclmbaaW.PrintWords
open Go.ChangeShapes Go.WideShapes Go.ChangeAt Go.RowKit Go.Deep
open Go.ChangeMaps (open_string shut_string)
set_option linter.unusedVariables false
theorem own : ownKnob Try.prog.godebug = none := by kernel_rfl
theorem laidOut : laidOutB Try.prog = true := by kernel_rfl
theorem part_le {H : Type} {d : DataW H} {l : List (DataW H)} (h : d ∈ l) : Rows.uptoBulk d ≤ Rows.uptoBulkAll l := by
  induction l with
  | nil => cases h
  | cons x r ih =>
    simp only [Rows.uptoBulkAll]
    cases List.mem_cons.1 h with
    | inl e => subst e; omega
    | inr e => have := ih e; omega
/-- A slice of texts that is an argument: each text is no longer than what was read is of bulk. -/
theorem open_strs {H : Type} {enc : TypeId × Value → H} {P : Program} {w : World} {spare : Nat → Bool} {held : Bool} {t e : TypeId} (ht : P.underlying t = some (.slice e)) (hs : P.cellsOf e = Kd.string.sz) (he : P.underlying e = some .string) {a : Option Addr} {len cap : Nat} {x : DataW H} {ps : List MemPlace} (hd : DataW.Trod enc P w 0 spare held t (.slice a len cap) x ps) :
    ∃ l : List ByteArray, l.length = len ∧ len ≤ cap ∧ Kd.C Kd.string w a len l ∧ l.length ≤ 9223372036854775807 ∧ ∀ s ∈ l, s.size ≤ Rows.uptoBulk x := by
  obtain ⟨fuel, hf⟩ := hd
  rcases open_slice ht hf with ⟨hc, hx0⟩ | ⟨a', len', cap', m, n, D, Pl, hc, _, hl, hm, hmm, hxe, hx⟩
  · simp only [Value.cells, List.cons.injEq, Value.slice.injEq, and_true] at hc
    obtain ⟨rfl, rfl, rfl⟩ := hc
    exact ⟨[], rfl, Nat.le_refl _, Kd.C_nil Kd.string w, by simp, by simp⟩
  · simp only [Value.cells, List.cons.injEq, Value.slice.injEq, and_true] at hc
    obtain ⟨rfl, rfl, rfl⟩ := hc
    have hlm : len ≤ m := by rw [hmm]; split <;> omega
    have each : ∀ i, i < len → ∃ p : ByteArray, D i = .lit (.string p.data.toList) ∧ ∃ c : List Value, c.length = Kd.string.sz ∧ Kd.string.K w p c ∧ ∀ j u, c[j]? = some u → w.cell? (a'.add (i * Kd.string.sz + j)) = some u := by
      intro i hi
      obtain ⟨c, h1, h2⟩ := hx i (by omega)
      obtain ⟨_, hlen, hcell⟩ := World.cells?_some h1
      obtain ⟨p, hp, hq, hsz⟩ := DataW.trod_string he h2
      have hK : Kd.string.K w p c := hp
      refine ⟨p, (Prod.mk.inj hq).1, c, Kd.string.K_len hK, hK, fun j u hu => ?_⟩
      have hj : j < P.cellsOf e := by rw [← hlen]; exact (List.getElem?_eq_some_iff.1 hu).1
      have := hcell j hj
      rw [Go.Deep.add_add, hs] at this
      rw [this, hu]
    obtain ⟨f, hf2⟩ := choose_lt each
    have hll : ((List.range len).map f).length = len := by simp
    have hmax : len ≤ 9223372036854775807 := Nat.le_trans hl hm
    refine ⟨(List.range len).map f, hll, hl, ⟨hll, hmax, fun _ => ⟨a', rfl, fun j p hj => ?_⟩⟩, by rw [hll]; exact hmax, ?_⟩
    · have hj' : j < len := by have := (List.getElem?_eq_some_iff.1 hj).1; rwa [hll] at this
      have hp : f j = p := by simpa [hj'] using hj
      subst hp
      exact (hf2 j hj').2
    · intro s hs2
      simp only [List.mem_map, List.mem_range] at hs2
      obtain ⟨j, hj, rfl⟩ := hs2
      have h1 : Rows.uptoBulk (D j) = (f j).size + 1 := by rw [(hf2 j hj).1]; exact congrArg (· + 1) (Array.length_toList (xs := (f j).data))
      have h2 : Rows.uptoBulk (D j) ≤ Rows.uptoBulkAll ((List.range len).map D) := part_le (List.mem_map.mpr ⟨j, List.mem_range.mpr hj, rfl⟩)
      have h3 : x = .slice ((List.range len).map D) ((List.range (m - len)).map fun j => D (len + j)) := (Prod.mk.inj hxe).1
      rw [h3]
      simp only [Rows.uptoBulk]
      omega
set_option maxRecDepth 100000 in
theorem contract (H : Type) (enc : TypeId × Value → H) (W : World) (base : Nat) (args : Array Value) (ds gs : List (DataW H)) (before : List MemPlace)
    (hval0 : ∀ (j : Nat) t v, Try.f9.params[j]? = some t → args[j]? = some v → Value.okWide Try.prog W .any base t v)
    (hW : DataW.Whole enc Try.prog Try.f9.params.toList Rows.srtTextsSpec.vars false W args.toList ds gs before) (hk : Rows.uptoSmall H (ds ++ gs) = true) :
    Calls Try.prog 9 args W fun e W' => ∃ v, e = .returned v ∧ Rows.srtTextsSpec.post enc Try.prog Try.f9 false true false false W args v W' := by
  have hval : ∀ (j : Nat) t v, Try.f9.params[j]? = some t → args[j]? = some v → Value.okWide Try.prog W .any base t v := hval0
  have hW' := hW
  obtain ⟨p, q, hA0, hV, rfl, hfz, hnd⟩ := hW
  have hA : DataW.TrodAll enc Try.prog W 0 (fun _ => true) true Try.f9.params.toList args.toList ds p := hA0
  rw [Try.params9] at hA hval
  obtain ⟨v0, vs0, d0, ds0, p0, q0, hargs, rfl, rfl, h0, r0⟩ := trodAll_cons hA
  obtain ⟨rfl, rfl, rfl⟩ := trodAll_nil r0
  obtain rfl : args = #[v0] := by cases args; simp_all
  obtain ⟨rfl, rfl⟩ := trodVars_none hV
  obtain ⟨A0, len0, c0, rfl⟩ := okWide_slice Try.underlying32 (hval 0 32 v0 rfl rfl)
  have k0 := h0
  have lt0 : ∀ x ∈ p0, x.block < W.heap.size := by obtain ⟨m, hm⟩ := k0; exact DataW.trod_lt m _ _ _ hm
  obtain ⟨l0, rfl, hc0, hr0, w0_0, w0_1⟩ := open_strs Try.underlying32 (by kernel_rfl) Try.underlying9 h0
  have hb : Rows.uptoBulk d0 ≤ 1048576 := by
    have h_ : Rows.uptoBulkAll ([d0] ++ ([] : List (DataW H))) ≤ 1048576 := of_decide_eq_true hk
    simp only [List.cons_append, List.nil_append, Rows.uptoBulkAll] at h_
    omega
  clear hA0 hval0
  obtain ⟨k, h⟩ := Pure.SrtTexts l0 w0_0 (fun s hs => Nat.le_trans (w0_1 s hs) hb)
  refine (PAll.diacriticlaw24_SrtTexts.calls k _ _ l0 true W hr0 hc0 h).mono ?_
  rintro e W' ⟨rfl, bel⟩
  exact ⟨_, rfl, _, _, _, [], _, [], hW', trodAll_mk1 (shut_bool Try.underlying4 _), (trodAll_cons_mk (Below.trod laidOut (by kernel_rfl) (of_decide_eq_true (by kernel_rfl)) k0 bel lt0) trodAll_mk0), rfl, bel.frame _, fun h => by cases h⟩
set_option maxRecDepth 100000 in
theorem lifted (os : Os) (started : os.Started) (H : Type) (enc : TypeId × Value → H) (F : Stop.Interp) :
    ReturnsInHanded {} Try.checked os 9 .any ((Rows.OpenSpec.upto Rows.srtTextsSpec).pre6 enc Try.prog Try.f9 Rows.srtTextsUptoRow.domain false) (((Rows.OpenSpec.upto Rows.srtTextsSpec).at F).post enc Try.prog Try.f9 false true false false) := by
  refine returnsInHanded_of_cond (C := Try.checked) (s := Rows.OpenSpec.upto Rows.srtTextsSpec) (k := Rows.uptoSmall) rfl own started (by kernel_rfl) Try.func9
    (OpenSpec.witness (enc := enc) (C := Try.checked) (s := Rows.OpenSpec.upto Rows.srtTextsSpec) (k := Rows.uptoSmall) rfl false ⟨#[], #[.slice none 0 0], []⟩ 8 (by kernel_rfl) (by kernel_rfl) (by kernel_rfl)
      (x := ([.nil], [], [])) (by kernel_rfl) rfl (by kernel_rfl)) ?_
  intro W base args ds gs before hval hW _ hk _
  exact contract H enc W base args ds gs before hval hW hk
theorem over : Rows.srtTextsUptoRow.holds Try.pinned (Rows.OpenSpec.upto Rows.srtTextsSpec) :=
  OpenClaim.holds_of_cond 9 Try.f9 rfl rfl rfl rfl rfl rfl rfl ⟨rfl, rfl, rfl, rfl, rfl⟩ rfl rfl rfl rfl rfl (by kernel_rfl) Try.func9 (by kernel_rfl)
    (of_decide_eq_true (by kernel_rfl)) (by unfold Func.isWrapper; first | (rw [if_pos (by decide +kernel)]; kernel_rfl) | (rw [if_neg (by decide +kernel)]; exact ⟨rfl, rfl⟩))
    (fun os started H enc _ F => lifted os started H enc F)
theorem proved : Rows.SrtTextsUptoSaid := over
#print axioms proved
end Go.Proofs.Ytbndilnbfclmbaa.srtTextsUpto
namespace Go.Proofs.Ytbndilnbfclmbaa
/-- The row, under a short name, for the claim. -/
theorem srtTextsUpto_holds : Rows.SrtTextsUptoSaid := srtTextsUpto.proved
end Go.Proofs.Ytbndilnbfclmbaa
