/- Proved: the tied card FramePrintsCardSaid: the Go function FramePrints returns true at every input that the given row reads, and leaves its arguments as they were. Conditions: none beside the row's own (the listed tables of Go's library start as the program's text lays them; the card ties them). -/
import Derived.Test.YtlmhlmendnjmlaaDoorCards
import Derived.Test.YtlmhlmendnjmlaaDoorTie
import Derived.Deep.DeepHandedRow
import Derived.Shelf.Vars
import Derived.JoinedCond
import Derived.Test.YtlmhlmendnjmlaaDoorPAllx22
import Derived.Test.YtlmhlmendnjmlaaDoorPureFramePrints
import Derived.WalkKit
import Derived.ProofKit
import Derived.OpenShut
import Derived.ShutString
import Derived.ChangeOld
import Derived.Below
import Derived.SizedLaws
import Derived.Test.YtlmhlmendnjmlaaDoorWAll
import Derived.Test.YtlmhlmendnjmlaaDoorOpens
namespace Go.Proofs.YtlmhlmendnjmlaaDoor.framePrints
open Go.Proofs.YtlmhlmendnjmlaaDoor.PAll Go.Proofs.YtlmhlmendnjmlaaDoorW.PrintWords
open Go.ChangeShapes Go.WideShapes Go.ChangeAt Go.RowKit
open Go.ChangeMaps (open_string shut_string)
set_option linter.unusedVariables false
theorem own : ownKnob Tryd.prog.godebug = none := by kernel_rfl
theorem laidOut : laidOutB Tryd.prog = true := by kernel_rfl
def IsRow (k : IntKind) (w : World) (a : Option Addr) (len cap : Nat) (zs : List Int) : Prop :=
  (a = none ∧ len = 0 ∧ cap = 0 ∧ zs = []) ∨
  ∃ x, a = some x ∧ len ≤ cap ∧ cap ≤ maxLen ∧ zs.length = cap ∧ (∀ i, i < zs.length → w.cell? (x.add i) = some (.int k (zs.getD i 0))) ∧ ∀ n ∈ zs, (Lit.int k n).wf = true
instance : Inhabited S29 := ⟨z29⟩
theorem opensS29 : Op.Opens Tryd.prog 29 k29 okS29 := Op.opens_iso (f := (fun x : S29 => (x.f0, x.f1, x.f2))) (g := (fun b => (⟨b.1, b.2.1, b.2.2⟩ : S29))) (fun _ => rfl) (Op.opens_struct Tryd.underlying29 (by kernel_rfl) (by kernel_rfl) (Op.opensF_cons (t := 9) (o := 0) (o2 := 1) (by kernel_rfl) rfl (Op.opens_string Tryd.underlying9) (Op.opensF_cons (t := 5) (o := 1) (o2 := 2) (by kernel_rfl) rfl (Op.opens_int Tryd.underlying5) (Op.opensF_last (t := 5) (o := 2) (by kernel_rfl) (Op.opens_int Tryd.underlying5)))))
instance : Inhabited S36 := ⟨z36⟩
theorem opensS36 : Op.Opens Tryd.prog 36 k36 okS36 := Op.opens_iso (f := (fun x : S36 => (x.f0, x.f1, x.f2, x.f3))) (g := (fun b => (⟨b.1, b.2.1, b.2.2.1, b.2.2.2⟩ : S36))) (fun _ => rfl) (Op.opens_struct Tryd.underlying36 (by kernel_rfl) (by kernel_rfl) (Op.opensF_cons (t := 29) (o := 0) (o2 := 3) (by kernel_rfl) rfl opensS29 (Op.opensF_cons (t := 5) (o := 3) (o2 := 4) (by kernel_rfl) rfl (Op.opens_int Tryd.underlying5) (Op.opensF_cons (t := 9) (o := 4) (o2 := 5) (by kernel_rfl) rfl (Op.opens_string Tryd.underlying9) (Op.opensF_last (t := 3) (o := 5) (by kernel_rfl) (Op.opens_int Tryd.underlying3))))))
set_option maxRecDepth 100000 in
theorem contract (H : Type) (enc : TypeId × Value → H) (W : World) (base : Nat) (args : Array Value) (ds gs : List (DataW H)) (before : List MemPlace)
    (hval0 : ∀ (j : Nat) t v, Tryd.f7.params[j]? = some t → args[j]? = some v → Value.okWide Tryd.prog W .any base t v)
    (hW : DataW.Whole enc Tryd.prog Tryd.f7.params.toList Rows.framePrintsSpec.vars false W args.toList ds gs before)
    (hsz0 : (DataW.weightsEach Tryd.prog (Tryd.f7.params.toList ++ Rows.framePrintsSpec.plain.varTypes Tryd.prog) (ds ++ gs)).all (· ≤ reachBytes) = true) (hsh : W.ShapedOpen Tryd.prog) :
    Calls Tryd.prog 7 args W fun e W' => ∃ v, e = .returned v ∧ Rows.framePrintsSpec.post enc Tryd.prog Tryd.f7 false true false false W args v W' := by
  have hsz : (DataW.weightsEach Tryd.prog (Tryd.f7.params.toList ++ Rows.framePrintsSpec.plain.varTypes Tryd.prog) (ds ++ gs)).all (· ≤ reachBytes) = true := hsz0
  have hval : ∀ (j : Nat) t v, Tryd.f7.params[j]? = some t → args[j]? = some v → Value.okWide Tryd.prog W .any base t v := hval0
  have hW' := hW
  obtain ⟨p, q, hA0, hV, rfl, hfz, hnd⟩ := hW
  have hA : DataW.TrodAll enc Tryd.prog W 0 (fun _ => true) true Tryd.f7.params.toList args.toList ds p := hA0
  rw [Tryd.params7] at hA hval hsz
  obtain ⟨v0, vs0, d0, ds0, p0, q0, hargs, rfl, rfl, h0, r0⟩ := trodAll_cons hA
  obtain ⟨v1, vs1, d1, ds1, p1, q1, rfl, rfl, rfl, h1, r1⟩ := trodAll_cons r0
  obtain ⟨v2, vs2, d2, ds2, p2, q2, rfl, rfl, rfl, h2, r2⟩ := trodAll_cons r1
  obtain ⟨rfl, rfl, rfl⟩ := trodAll_nil r2
  obtain rfl : args = #[v0, v1, v2] := by cases args; simp_all
  obtain ⟨rfl, rfl⟩ := trodVars_none hV
  obtain ⟨a0, rfl, rfl, rfl, w0⟩ := open_int Tryd.underlying3 (hval 0 3 v0 rfl rfl) h0
  obtain ⟨cs1, rfl, hcs1⟩ := okWide_struct Tryd.underlying36 (hval 1 36 v1 rfl rfl)
  have k1 := h1
  have lt1 : ∀ x ∈ p1, x.block < W.heap.size := by obtain ⟨m, hm⟩ := k1; exact DataW.trod_lt m _ _ _ hm
  obtain ⟨xx1, hk1, hok1⟩ := Op.open_agg_arg opensS36 h1
  have hl1 := k36_open hk1
  obtain rfl : cs1 = #[.string xx1.f0.f0, .int .u8 xx1.f0.f1, .int .u8 xx1.f0.f2, .int .u8 xx1.f1, .string xx1.f2, .int .i64 xx1.f3] := by cases cs1; simpa using hl1
  obtain ⟨a2, rfl, rfl, rfl, y2⟩ := open_string Tryd.underlying9 (hval 2 9 v2 rfl rfl) h2
  have w2 : a2.size ≤ 140737488351232 := by
    have z := sized_string hsz (j := 2) (t := 9) rfl rfl
    rw [Array.length_toList] at z
    exact z
  clear hA0 hval0 hsz0 hsz
  have hgm : PAll.GM W := cell_of_shapedOpen_int (zero := #[.int .i64 0]) hsh (of_decide_eq_true (by kernel_rfl)) (by kernel_rfl) rfl (by kernel_rfl) (by kernel_rfl) Tryd.underlying3
  refine (PAll.diacriticlaw13_FramePrints.walk Pure.FramePrints a0 xx1.f0.f0 xx1.f0.f1 xx1.f0.f2 xx1.f1 xx1.f2 xx1.f3 a2 W w0 hok1.1.1 hok1.1.2.1 hok1.1.2.2 hok1.2.1 hok1.2.2.1 hok1.2.2.2 w2 hgm).mono fun e W' ⟨he, bel⟩ => ?_
  subst he
  exact ⟨_, rfl, _, _, _, [], _, [], hW', trodAll_mk1 (shut_bool Tryd.underlying4 _), (trodAll_cons_mk (shut_int Tryd.underlying3 w0) (trodAll_cons_mk (Below.trod laidOut (by kernel_rfl) (of_decide_eq_true (by kernel_rfl)) k1 bel lt1) (trodAll_cons_mk (shut_string Tryd.underlying9 y2) trodAll_mk0))), rfl, bel.frame _, fun h => by cases h⟩
/-! The listed tables, as their initialisers lay them. -/
def lay2 (h : Array Obj) : Array Obj := h.modify 2 fun
  | .cells _ t frozen => .cells #[.int .u8 128, .int .u8 191, .int .u8 160, .int .u8 191, .int .u8 128, .int .u8 159, .int .u8 144, .int .u8 191, .int .u8 128, .int .u8 143, .int .u8 0, .int .u8 0, .int .u8 0, .int .u8 0, .int .u8 0, .int .u8 0, .int .u8 0, .int .u8 0, .int .u8 0, .int .u8 0, .int .u8 0, .int .u8 0, .int .u8 0, .int .u8 0, .int .u8 0, .int .u8 0, .int .u8 0, .int .u8 0, .int .u8 0, .int .u8 0, .int .u8 0, .int .u8 0] t frozen
  | o => o
def lay1 (h : Array Obj) : Array Obj := h.modify 1 fun
  | .cells _ t frozen => .cells (Go.Pinned.utf8FirstZ.map fun n : Nat => Value.int .u8 (n : Int)).toArray t frozen
  | o => o
/-- A world for the witness: the settled one, the listed tables as their initialisers lay them. -/
noncomputable def laidWorld (os : Os) : World :=
  { World.holding Tryd.prog os ⟨#[], #[], []⟩ with heap := lay2 (lay1 ((World.holding Tryd.prog os ⟨#[], #[], []⟩).heap)) }
theorem laid_met (os : Os) : laidMet Tryd.prog Rows.framePrintsRow.laid ((laidWorld os).forCall (fun _ _ => 0) ⟨#[], #[.int .i64 0, .agg #[.string ByteArray.empty, .int .u8 0, .int .u8 0, .int .u8 0, .string ByteArray.empty, .int .i64 0], .string ByteArray.empty], []⟩).memory :=
  laidMet_of_run' 8 (by kernel_rfl) (by kernel_rfl)
theorem reads (os : Os) {H : Type} (enc : TypeId × Value → H) : ∃ places, DataW.whole enc Tryd.prog ((laidWorld os).forCall (fun _ _ => 0) ⟨#[], #[.int .i64 0, .agg #[.string ByteArray.empty, .int .u8 0, .int .u8 0, .int .u8 0, .string ByteArray.empty, .int .i64 0], .string ByteArray.empty], []⟩).memory Tryd.f7.params.toList Rows.framePrintsSpec.vars false (#[.int .i64 0, .agg #[.string ByteArray.empty, .int .u8 0, .int .u8 0, .int .u8 0, .string ByteArray.empty, .int .i64 0], .string ByteArray.empty] : Array Value).toList 8 = some ([.lit (.int .i64 0), .agg [.agg [.lit (.string []), .lit (.int .u8 0), .lit (.int .u8 0)], .lit (.int .u8 0), .lit (.string []), .lit (.int .i64 0)], .lit (.string [])], [], places) :=
  ⟨[], by kernel_rfl⟩
set_option maxRecDepth 100000 in
theorem lifted (os : Os) (started : os.Started) (H : Type) (enc : TypeId × Value → H) (F : Stop.Interp) :
    ReturnsInHanded {} Tryd.checked os 7 .any ((OpenSpec.ofChange Rows.framePrintsSpec).preRow enc Tryd.prog Tryd.f7 Rows.framePrintsRow.domain false Rows.framePrintsRow.laid) (((OpenSpec.ofChange Rows.framePrintsSpec).at F).post enc Tryd.prog Tryd.f7 false true false false) := by
  obtain ⟨places, hx⟩ := reads os enc
  refine returnsInHanded_of_row (C := Tryd.checked) (s := OpenSpec.ofChange Rows.framePrintsSpec) own started (by kernel_rfl) Tryd.func7
    (witness_row_at (enc := enc) (C := Tryd.checked) false (laidWorld os) #[.int .i64 0, .agg #[.string ByteArray.empty, .int .u8 0, .int .u8 0, .int .u8 0, .string ByteArray.empty, .int .i64 0], .string ByteArray.empty] rfl (by kernel_rfl) (by kernel_rfl) (by kernel_rfl)
      (OpenSpec.preRow_of_cond 8 hx (by kernel_rfl) (fun k hk => by cases hk) (by kernel_rfl) (laid_met os))) ?_
  intro W base args ds gs before hval hW _ _ hz _ hsh _
  exact contract H enc W base args ds gs before hval hW hz hsh
theorem said : Rows.FramePrintsSaid :=
  OpenClaim.holds_of_cond 7 Tryd.f7 rfl rfl rfl rfl rfl rfl rfl ⟨rfl, rfl, rfl, rfl, rfl⟩ rfl rfl rfl rfl rfl (by kernel_rfl) Tryd.func7 (by kernel_rfl)
    (of_decide_eq_true (by kernel_rfl)) (by unfold Func.isWrapper; first | (rw [if_pos (by decide +kernel)]; kernel_rfl) | (rw [if_neg (by decide +kernel)]; exact ⟨rfl, rfl⟩))
    (fun os started H enc _ F => by rw [OpenClaim.pre_eq_preRow]; exact lifted os started H enc F)
theorem plain (f : FuncId) (fn : Func) (hf : Tryd.pinned.checked.prog.funcNamed "diacritic/diacriticlaw13.FramePrints" = some f) (hfn : Tryd.pinned.checked.prog.funcs[f]? = some fn) :
    false = Tryd.pinned.checked.prog.looks [] ∧ ∀ (j : Nat) t, fn.params[j]? = some t → Tryd.pinned.checked.prog.wantsStandIn t = false := by
  obtain rfl : f = 7 := Option.some.inj ((show Tryd.prog.funcNamed "diacritic/diacriticlaw13.FramePrints" = some 7 by kernel_rfl).symm.trans hf) |>.symm
  obtain rfl : fn = Tryd.f7 := (Option.some.inj (Tryd.func7.symm.trans hfn)).symm
  refine ⟨by kernel_rfl, fun j t ht => ?_⟩
  have hall : (Tryd.f7.params.toList.all fun u => !Tryd.prog.wantsStandIn u) = true := by kernel_rfl
  have hm : t ∈ Tryd.f7.params.toList := Array.mem_toList_iff.mpr (Array.mem_of_getElem? ht)
  exact (show Tryd.prog.wantsStandIn t = false by simpa using List.all_eq_true.1 hall t hm)
theorem proved : Rows.FramePrintsCardSaid :=
  Claim7.holds_tied_plain_at .later [] _ _ _ _ said (fun _ h => by cases h) (by kernel_rfl) (fun _ h => by cases h) framePrints_row_tie rfl ⟨rfl, rfl⟩ (by kernel_rfl) rfl plain (by kernel_rfl)
#print axioms proved
end Go.Proofs.YtlmhlmendnjmlaaDoor.framePrints
namespace Go.Proofs.YtlmhlmendnjmlaaDoor
/-- The card, under a short name, for the claim. -/
theorem framePrints_holds : Rows.FramePrintsCardSaid := framePrints.proved
end Go.Proofs.YtlmhlmendnjmlaaDoor
