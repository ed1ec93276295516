/- Proved: the statement OctetReads: the Go function of that name returns true at every input that the given row reads, and leaves its arguments as they were. Conditions: none beside the row's own. -/
import Derived.Test.YtkcckhlkaknggaaRows
import Derived.Test.YtkcckhlkaknggaaPAllx16
import Derived.Test.YtkcckhlkaknggaaPureOctetReads
import Derived.WalkKit
import Derived.ProofKit
import Derived.OpenShut
import Derived.ShutString
import Derived.ChangeOld
import Derived.Below
import Derived.SizedLaws
import Derived.Test.YtkcckhlkaknggaaWAll
import Derived.Test.YtkcckhlkaknggaaOpens
namespace Go.Proofs.Ytkcckhlkaknggaa.octetReads
open Go.Proofs.Ytkcckhlkaknggaa.PAll Go.Proofs.YtkcckhlkaknggaaW.PrintWords
open Go.ChangeShapes Go.WideShapes Go.ChangeAt Go.RowKit
open Go.ChangeMaps (open_string shut_string)
set_option linter.unusedVariables false
theorem own : ownKnob Try.prog.godebug = none := by kernel_rfl
theorem laidOut : laidOutB Try.prog = true := by kernel_rfl
def IsRow (k : IntKind) (w : World) (a : Option Addr) (len cap : Nat) (zs : List Int) : Prop :=
  (a = none ∧ len = 0 ∧ cap = 0 ∧ zs = []) ∨
  ∃ x, a = some x ∧ len ≤ cap ∧ cap ≤ maxLen ∧ zs.length = cap ∧ (∀ i, i < zs.length → w.cell? (x.add i) = some (.int k (zs.getD i 0))) ∧ ∀ n ∈ zs, (Lit.int k n).wf = true
instance : Inhabited S56 := ⟨z56⟩
theorem opensS56 : Op.Opens Try.prog 56 k56 okS56 := Op.opens_iso (f := (fun x : S56 => (x.f0, x.f1, x.f2, x.f3))) (g := (fun b => (⟨b.1, b.2.1, b.2.2.1, b.2.2.2⟩ : S56))) (fun _ => rfl) (Op.opens_struct Try.underlying56 (by kernel_rfl) (by kernel_rfl) (Op.opensF_cons (t := 3) (o := 0) (o2 := 1) (by kernel_rfl) rfl (Op.opens_int Try.underlying3) (Op.opensF_cons (t := 3) (o := 1) (o2 := 2) (by kernel_rfl) rfl (Op.opens_int Try.underlying3) (Op.opensF_cons (t := 3) (o := 2) (o2 := 3) (by kernel_rfl) rfl (Op.opens_int Try.underlying3) (Op.opensF_last (t := 9) (o := 3) (by kernel_rfl) (Op.opens_string Try.underlying9))))))
set_option maxRecDepth 100000 in
theorem lifted (os : Os) (started : os.Started) (H : Type) (enc : TypeId × Value → H) :
    ReturnsInHanded {} Try.checked os 8 .any (Rows.octetReadsSpec.pre6 enc Try.prog Try.f8 Rows.octetReadsRow.domain false) (Rows.octetReadsSpec.post enc Try.prog Try.f8 false true false false) := by
  refine returnsInHanded_of_change_sized (C := Try.checked) own started (by kernel_rfl) Try.func8
    (ChangeSpec.witness6 (enc := enc) (C := Try.checked) false ⟨#[], #[.string ByteArray.empty, .int .i64 0, .slice none 0 0], []⟩ 8 (by kernel_rfl) (by kernel_rfl) (by kernel_rfl) (by kernel_rfl)) ?_
  intro W base args ds gs before hval0 hW hcnd hsz0 _
  have hsz : (DataW.weightsEach Try.prog (Try.f8.params.toList ++ Rows.octetReadsSpec.plain.varTypes Try.prog) (ds ++ gs)).all (· ≤ reachBytes) = true := hsz0
  have hval : ∀ (j : Nat) t v, Try.f8.params[j]? = some t → args[j]? = some v → Value.okWide Try.prog W .any base t v := hval0
  have hW' := hW
  obtain ⟨p, q, hA0, hV, rfl, hfz, hnd⟩ := hW
  have hA : DataW.TrodAll enc Try.prog W 0 (fun _ => true) true Try.f8.params.toList args.toList ds p := hA0
  rw [Try.params8] at hA hval hsz
  obtain ⟨v0, vs0, d0, ds0, p0, q0, hargs, rfl, rfl, h0, r0⟩ := trodAll_cons hA
  obtain ⟨v1, vs1, d1, ds1, p1, q1, rfl, rfl, rfl, h1, r1⟩ := trodAll_cons r0
  obtain ⟨v2, vs2, d2, ds2, p2, q2, rfl, rfl, rfl, h2, r2⟩ := trodAll_cons r1
  obtain ⟨rfl, rfl, rfl⟩ := trodAll_nil r2
  obtain rfl : args = #[v0, v1, v2] := by cases args; simp_all
  obtain ⟨rfl, rfl⟩ := trodVars_none hV
  obtain ⟨a0, rfl, rfl, rfl, y0⟩ := open_string Try.underlying9 (hval 0 9 v0 rfl rfl) h0
  have w0 : a0.size ≤ 140737488351232 := by
    have z := sized_string hsz (j := 0) (t := 9) rfl rfl
    rw [Array.length_toList] at z
    exact z
  obtain ⟨a1, rfl, rfl, rfl, w1⟩ := open_int Try.underlying3 (hval 1 3 v1 rfl rfl) h1
  obtain ⟨A2, len2, c2, rfl⟩ := okWide_slice Try.underlying51 (hval 2 51 v2 rfl rfl)
  have k2 := h2
  have lt2 : ∀ x ∈ p2, x.block < W.heap.size := by obtain ⟨m, hm⟩ := k2; exact DataW.trod_lt m _ _ _ hm
  obtain ⟨l2, rfl, hc2, hr2, w2_0, w2_1⟩ := Op.open_slice_arg (Op.opens_slice Try.underlying51 (by kernel_rfl) opensS56) h2
  clear hA0 hval0 hsz0 hsz
  refine (PAll.diacriticlaw01_OctetReads.walk Pure.OctetReads a0 a1 A2 c2 l2 W w0 w1 w2_0 w2_1 hr2 hc2).mono fun e W' ⟨he, bel⟩ => ?_
  subst he
  exact ⟨_, rfl, _, _, _, [], _, [], hW', trodAll_mk1 (shut_bool Try.underlying4 _), (trodAll_cons_mk (shut_string Try.underlying9 y0) (trodAll_cons_mk (shut_int Try.underlying3 w1) (trodAll_cons_mk (Below.trod laidOut (by kernel_rfl) (of_decide_eq_true (by kernel_rfl)) k2 bel lt2) trodAll_mk0))), rfl, bel.frame _, fun h => by cases h⟩
theorem over : Rows.octetReadsRow.holds Try.pinned (OpenSpec.ofChange Rows.octetReadsSpec) :=
  OpenClaim.holds_of_wide 8 Try.f8 rfl rfl rfl rfl rfl rfl rfl ⟨rfl, rfl, rfl, rfl, rfl⟩ rfl rfl rfl rfl rfl (by kernel_rfl) Try.func8 (by kernel_rfl)
    (of_decide_eq_true (by kernel_rfl)) (by unfold Func.isWrapper; first | (rw [if_pos (by decide +kernel)]; kernel_rfl) | (rw [if_neg (by decide +kernel)]; exact ⟨rfl, rfl⟩))
    (fun os started H enc _ => lifted os started H enc)
theorem proved : Rows.OctetReadsSaid := over
#print axioms proved
end Go.Proofs.Ytkcckhlkaknggaa.octetReads
namespace Go.Proofs.Ytkcckhlkaknggaa
/-- The row, under a short name, for the claim. -/
theorem octetReads_holds : Rows.OctetReadsSaid := octetReads.proved
end Go.Proofs.Ytkcckhlkaknggaa
