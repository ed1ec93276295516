/- Proved: the statement PageSpoilt: the Go function of that name returns true at every input that the given row reads, and leaves its arguments as they were. Conditions: none beside the row's own. -/
import Derived.Test.YtmfamkkikiglmaaRows
import Derived.Test.YtmfamkkikiglmaaPAllx12
import Derived.Test.YtmfamkkikiglmaaPurePageSpoilt
import Derived.WalkKit
import Derived.ProofKit
import Derived.OpenShut
import Derived.ShutString
import Derived.ChangeOld
import Derived.Below
import Derived.SizedLaws
import Derived.Test.YtmfamkkikiglmaaWAll
import Derived.Test.YtmfamkkikiglmaaOpens
namespace Go.Proofs.Ytmfamkkikiglmaa.pageSpoilt
open Go.Proofs.Ytmfamkkikiglmaa.PAll Go.Proofs.YtmfamkkikiglmaaW.PrintWords
open Go.ChangeShapes Go.WideShapes Go.ChangeAt Go.RowKit
open Go.ChangeMaps (open_string shut_string)
set_option linter.unusedVariables false
theorem own : ownKnob Try.prog.godebug = none := by kernel_rfl
theorem laidOut : laidOutB Try.prog = true := by kernel_rfl
def IsRow (k : IntKind) (w : World) (a : Option Addr) (len cap : Nat) (zs : List Int) : Prop :=
  (a = none ∧ len = 0 ∧ cap = 0 ∧ zs = []) ∨
  ∃ x, a = some x ∧ len ≤ cap ∧ cap ≤ maxLen ∧ zs.length = cap ∧ (∀ i, i < zs.length → w.cell? (x.add i) = some (.int k (zs.getD i 0))) ∧ ∀ n ∈ zs, (Lit.int k n).wf = true
instance : Inhabited S25 := ⟨z25⟩
theorem opensS25 : Op.Opens Try.prog 25 k25 okS25 := Op.opens_iso (f := (fun x : S25 => (x.f0, x.f1, x.f2, x.f3))) (g := (fun b => (⟨b.1, b.2.1, b.2.2.1, b.2.2.2⟩ : S25))) (fun _ => rfl) (Op.opens_struct Try.underlying25 (by kernel_rfl) (by kernel_rfl) (Op.opensF_cons (t := 5) (o := 0) (o2 := 1) (by kernel_rfl) rfl (Op.opens_int Try.underlying5) (Op.opensF_cons (t := 22) (o := 1) (o2 := 2) (by kernel_rfl) rfl (Op.opens_int Try.underlying22) (Op.opensF_cons (t := 23) (o := 2) (o2 := 3) (by kernel_rfl) rfl (Op.opens_int Try.underlying23) (Op.opensF_last (t := 23) (o := 3) (by kernel_rfl) (Op.opens_int Try.underlying23))))))
instance : Inhabited S27 := ⟨z27⟩
theorem opensS27 : Op.Opens Try.prog 27 k27 okS27 := Op.opens_iso (f := (fun x : S27 => (x.f0, x.f1, x.f2))) (g := (fun b => (⟨b.1, b.2.1, b.2.2⟩ : S27))) (fun _ => rfl) (Op.opens_struct Try.underlying27 (by kernel_rfl) (by kernel_rfl) (Op.opensF_cons (t := 25) (o := 0) (o2 := 4) (by kernel_rfl) rfl opensS25 (Op.opensF_cons (t := 9) (o := 4) (o2 := 5) (by kernel_rfl) rfl (Op.opens_string Try.underlying9) (Op.opensF_last (t := 9) (o := 5) (by kernel_rfl) (Op.opens_string Try.underlying9)))))
set_option maxRecDepth 100000 in
theorem lifted (os : Os) (started : os.Started) (H : Type) (enc : TypeId × Value → H) :
    ReturnsInHanded {} Try.checked os 3 .any (Rows.pageSpoiltSpec.pre6 enc Try.prog Try.f3 Rows.pageSpoiltRow.domain false) (Rows.pageSpoiltSpec.post enc Try.prog Try.f3 false true false false) := by
  refine returnsInHanded_of_change_sized (C := Try.checked) own started (by kernel_rfl) Try.func3
    (ChangeSpec.witness6 (enc := enc) (C := Try.checked) false ⟨#[], #[.agg #[.int .u8 0, .int .u64 0, .int .u32 0, .int .u32 0, .string ByteArray.empty, .string ByteArray.empty], .int .u16 0, .int .u8 0], []⟩ 8 (by kernel_rfl) (by kernel_rfl) (by kernel_rfl) (by kernel_rfl)) ?_
  intro W base args ds gs before hval0 hW hcnd hsz0 _
  have hsz : (DataW.weightsEach Try.prog (Try.f3.params.toList ++ Rows.pageSpoiltSpec.plain.varTypes Try.prog) (ds ++ gs)).all (· ≤ reachBytes) = true := hsz0
  have hval : ∀ (j : Nat) t v, Try.f3.params[j]? = some t → args[j]? = some v → Value.okWide Try.prog W .any base t v := hval0
  have hW' := hW
  obtain ⟨p, q, hA0, hV, rfl, hfz, hnd⟩ := hW
  have hA : DataW.TrodAll enc Try.prog W 0 (fun _ => true) true Try.f3.params.toList args.toList ds p := hA0
  rw [Try.params3] at hA hval hsz
  obtain ⟨v0, vs0, d0, ds0, p0, q0, hargs, rfl, rfl, h0, r0⟩ := trodAll_cons hA
  obtain ⟨v1, vs1, d1, ds1, p1, q1, rfl, rfl, rfl, h1, r1⟩ := trodAll_cons r0
  obtain ⟨v2, vs2, d2, ds2, p2, q2, rfl, rfl, rfl, h2, r2⟩ := trodAll_cons r1
  obtain ⟨rfl, rfl, rfl⟩ := trodAll_nil r2
  obtain rfl : args = #[v0, v1, v2] := by cases args; simp_all
  obtain ⟨rfl, rfl⟩ := trodVars_none hV
  obtain ⟨cs0, rfl, hcs0⟩ := okWide_struct Try.underlying27 (hval 0 27 v0 rfl rfl)
  have k0 := h0
  have lt0 : ∀ x ∈ p0, x.block < W.heap.size := by obtain ⟨m, hm⟩ := k0; exact DataW.trod_lt m _ _ _ hm
  obtain ⟨xx0, hk0, hok0⟩ := Op.open_agg_arg opensS27 h0
  have hl0 := k27_open hk0
  obtain rfl : cs0 = #[.int .u8 xx0.f0.f0, .int .u64 xx0.f0.f1, .int .u32 xx0.f0.f2, .int .u32 xx0.f0.f3, .string xx0.f1, .string xx0.f2] := by cases cs0; simpa using hl0
  obtain ⟨a1, rfl, rfl, rfl, w1⟩ := open_int Try.underlying28 (hval 1 28 v1 rfl rfl) h1
  obtain ⟨a2, rfl, rfl, rfl, w2⟩ := open_int Try.underlying5 (hval 2 5 v2 rfl rfl) h2
  clear hA0 hval0 hsz0 hsz
  refine (PAll.diacriticlaw17_PageSpoilt.walk Pure.PageSpoilt xx0.f0.f0 xx0.f0.f1 xx0.f0.f2 xx0.f0.f3 xx0.f1 xx0.f2 a1 a2 W hok0.1.1 hok0.1.2.1 hok0.1.2.2.1 hok0.1.2.2.2 hok0.2.1 hok0.2.2 w1 w2).mono fun e W' ⟨he, bel⟩ => ?_
  subst he
  exact ⟨_, rfl, _, _, _, [], _, [], hW', trodAll_mk1 (shut_bool Try.underlying4 _), (trodAll_cons_mk (Below.trod laidOut (by kernel_rfl) (of_decide_eq_true (by kernel_rfl)) k0 bel lt0) (trodAll_cons_mk (shut_int Try.underlying28 w1) (trodAll_cons_mk (shut_int Try.underlying5 w2) trodAll_mk0))), rfl, bel.frame _, fun h => by cases h⟩
theorem over : Rows.pageSpoiltRow.holds Try.pinned (OpenSpec.ofChange Rows.pageSpoiltSpec) :=
  OpenClaim.holds_of_wide 3 Try.f3 rfl rfl rfl rfl rfl rfl rfl ⟨rfl, rfl, rfl, rfl, rfl⟩ rfl rfl rfl rfl rfl (by kernel_rfl) Try.func3 (by kernel_rfl)
    (of_decide_eq_true (by kernel_rfl)) (by unfold Func.isWrapper; first | (rw [if_pos (by decide +kernel)]; kernel_rfl) | (rw [if_neg (by decide +kernel)]; exact ⟨rfl, rfl⟩))
    (fun os started H enc _ => lifted os started H enc)
theorem proved : Rows.PageSpoiltSaid := over
#print axioms proved
end Go.Proofs.Ytmfamkkikiglmaa.pageSpoilt
namespace Go.Proofs.Ytmfamkkikiglmaa
/-- The row, under a short name, for the claim. -/
theorem pageSpoilt_holds : Rows.PageSpoiltSaid := pageSpoilt.proved
end Go.Proofs.Ytmfamkkikiglmaa
