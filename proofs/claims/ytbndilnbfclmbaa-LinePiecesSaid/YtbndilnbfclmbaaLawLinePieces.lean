/- Proved: the statement LinePieces: the Go function of that name returns true at every input that the given row reads, and leaves its arguments as they were. Conditions: none beside the row's own. -/
import Derived.Test.YtbndilnbfclmbaaRows
import Derived.Test.YtbndilnbfclmbaaPAllx11
import Derived.Test.YtbndilnbfclmbaaPureLinePieces
import Derived.WalkKit
import Derived.ProofKit
import Derived.OpenShut
import Derived.ShutString
import Derived.ChangeOld
import Derived.Below
import Derived.SizedLaws
import Derived.Test.YtbndilnbfclmbaaWSized
import Derived.Test.YtbndilnbfclmbaaOpens
namespace Go.Proofs.Ytbndilnbfclmbaa.linePieces
open Go.Proofs.Ytbndilnbfclmbaa.PAll Go.Proofs.YtbndilnbfclmbaaW.PrintWords
open Go.ChangeShapes Go.WideShapes Go.ChangeAt Go.RowKit
open Go.ChangeMaps (open_string shut_string)
set_option linter.unusedVariables false
theorem own : ownKnob Try.prog.godebug = none := by kernel_rfl
theorem laidOut : laidOutB Try.prog = true := by kernel_rfl
def IsRow (k : IntKind) (w : World) (a : Option Addr) (len cap : Nat) (zs : List Int) : Prop :=
  (a = none ∧ len = 0 ∧ cap = 0 ∧ zs = []) ∨
  ∃ x, a = some x ∧ len ≤ cap ∧ cap ≤ maxLen ∧ zs.length = cap ∧ (∀ i, i < zs.length → w.cell? (x.add i) = some (.int k (zs.getD i 0))) ∧ ∀ n ∈ zs, (Lit.int k n).wf = true
instance : Inhabited S34 := ⟨z34⟩
theorem opensS34 : Op.Opens Try.prog 34 k34 okS34 := Op.opens_iso (f := (fun x : S34 => (x.f0, x.f1, x.f2))) (g := (fun b => (⟨b.1, b.2.1, b.2.2⟩ : S34))) (fun _ => rfl) (Op.opens_struct Try.underlying34 (by kernel_rfl) (by kernel_rfl) (Op.opensF_cons (t := 4) (o := 0) (o2 := 1) (by kernel_rfl) rfl (Op.opens_bool Try.underlying4) (Op.opensF_cons (t := 9) (o := 1) (o2 := 2) (by kernel_rfl) rfl (Op.opens_string Try.underlying9) (Op.opensF_last (t := 9) (o := 2) (by kernel_rfl) (Op.opens_string Try.underlying9)))))
set_option maxRecDepth 100000 in
theorem lifted (os : Os) (started : os.Started) (H : Type) (enc : TypeId × Value → H) :
    ReturnsInHanded {} Try.checked os 4 .any (Rows.linePiecesSpec.pre6 enc Try.prog Try.f4 Rows.linePiecesRow.domain false) (Rows.linePiecesSpec.post enc Try.prog Try.f4 false true false false) := by
  refine returnsInHanded_of_change_sized (C := Try.checked) own started (by kernel_rfl) Try.func4
    (ChangeSpec.witness6 (enc := enc) (C := Try.checked) false ⟨#[], #[.slice none 0 0, .slice none 0 0], []⟩ 8 (by kernel_rfl) (by kernel_rfl) (by kernel_rfl) (by kernel_rfl)) ?_
  intro W base args ds gs before hval0 hW hcnd hsz0 _
  have hsz : (DataW.weightsEach Try.prog (Try.f4.params.toList ++ Rows.linePiecesSpec.plain.varTypes Try.prog) (ds ++ gs)).all (· ≤ reachBytes) = true := hsz0
  have hval : ∀ (j : Nat) t v, Try.f4.params[j]? = some t → args[j]? = some v → Value.okWide Try.prog W .any base t v := hval0
  have hW' := hW
  obtain ⟨p, q, hA0, hV, rfl, hfz, hnd⟩ := hW
  have hA : DataW.TrodAll enc Try.prog W 0 (fun _ => true) true Try.f4.params.toList args.toList ds p := hA0
  rw [Try.params4] at hA hval hsz
  obtain ⟨v0, vs0, d0, ds0, p0, q0, hargs, rfl, rfl, h0, r0⟩ := trodAll_cons hA
  obtain ⟨v1, vs1, d1, ds1, p1, q1, rfl, rfl, rfl, h1, r1⟩ := trodAll_cons r0
  obtain ⟨rfl, rfl, rfl⟩ := trodAll_nil r1
  obtain rfl : args = #[v0, v1] := by cases args; simp_all
  obtain ⟨rfl, rfl⟩ := trodVars_none hV
  obtain ⟨A0, len0, c0, rfl⟩ := okWide_slice Try.underlying31 (hval 0 31 v0 rfl rfl)
  have k0 := h0
  have lt0 : ∀ x ∈ p0, x.block < W.heap.size := by obtain ⟨m, hm⟩ := k0; exact DataW.trod_lt m _ _ _ hm
  obtain ⟨l0, rfl, hc0, hr0, w0_0, w0_1⟩ := Op.open_slice_arg (Op.opens_slice Try.underlying31 (by kernel_rfl) opensS34) h0
  obtain ⟨A1, len1, c1, rfl⟩ := okWide_slice Try.underlying32 (hval 1 32 v1 rfl rfl)
  have k1 := h1
  have lt1 : ∀ x ∈ p1, x.block < W.heap.size := by obtain ⟨m, hm⟩ := k1; exact DataW.trod_lt m _ _ _ hm
  obtain ⟨l1, rfl, hc1, hr1, w1_0, w1_1⟩ := Op.open_slice_arg (Op.opens_slice Try.underlying32 (by kernel_rfl) (Op.opens_string Try.underlying9)) h1
  clear hA0 hval0 hsz0 hsz
  refine (PAll.diacriticlaw22_LinePieces.walk Pure.LinePieces A0 c0 l0 A1 c1 l1 W w0_0 w0_1 hr0 hc0 w1_0 w1_1 hr1 hc1).mono fun e W' ⟨he, bel⟩ => ?_
  subst he
  exact ⟨_, rfl, _, _, _, [], _, [], hW', trodAll_mk1 (shut_bool Try.underlying4 _), (trodAll_cons_mk (Below.trod laidOut (by kernel_rfl) (of_decide_eq_true (by kernel_rfl)) k0 bel lt0) (trodAll_cons_mk (Below.trod laidOut (by kernel_rfl) (of_decide_eq_true (by kernel_rfl)) k1 bel lt1) trodAll_mk0)), rfl, bel.frame _, fun h => by cases h⟩
theorem over : Rows.linePiecesRow.holds Try.pinned (OpenSpec.ofChange Rows.linePiecesSpec) :=
  OpenClaim.holds_of_wide 4 Try.f4 rfl rfl rfl rfl rfl rfl rfl ⟨rfl, rfl, rfl, rfl, rfl⟩ rfl rfl rfl rfl rfl (by kernel_rfl) Try.func4 (by kernel_rfl)
    (of_decide_eq_true (by kernel_rfl)) (by unfold Func.isWrapper; first | (rw [if_pos (by decide +kernel)]; kernel_rfl) | (rw [if_neg (by decide +kernel)]; exact ⟨rfl, rfl⟩))
    (fun os started H enc _ => lifted os started H enc)
theorem proved : Rows.LinePiecesSaid := over
#print axioms proved
end Go.Proofs.Ytbndilnbfclmbaa.linePieces
namespace Go.Proofs.Ytbndilnbfclmbaa
/-- The row, under a short name, for the claim. -/
theorem linePieces_holds : Rows.LinePiecesSaid := linePieces.proved
end Go.Proofs.Ytbndilnbfclmbaa
