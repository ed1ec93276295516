/- A frame's bytes, printed: plain lemmas. -/
import Derived.Test.YtlmhlmendnjmlaaDoorPAllx10
import Derived.Test.YtlmhlmendnjmlaaDoorPAllx11
import Derived.Test.YtlmhlmendnjmlaaDoorPAllx7
import Derived.Test.YtlmhlmendnjmlaaDoorPAllx8
import Derived.Test.YtlmhlmendnjmlaaDoorLflag
import Derived.Test.YtlmhlmendnjmlaaDoorLsync
import Derived.Test.YtlmhlmendnjmlaaDoorLfn
namespace Go.Proofs.YtlmhlmendnjmlaaDoor.Pl
open Go.RowKit Go.Proofs.YtlmhlmendnjmlaaDoor.PAll Go.Proofs.YtlmhlmendnjmlaaDoorW.PrintWords Go.Proofs.YtlmhlmendnjmlaaDoorW.PrintLast Go.Proofs.YtlmhlmendnjmlaaDoorW.PrintMore
set_option linter.unusedVariables false
set_option linter.unusedSimpArgs false

def grpL (v fo : Int) (gr : Nat) : List Nat := if grpB v fo = true then [gr] else []
def meaL (v fo : Int) (n : Nat) : List Nat := if meaB v fo = true then sevens n else []
def bodL (v fo : Int) (bo : ByteArray) : List Nat := if sprB v fo = true then nats (putS bo) else nats bo
def datL (v fo : Int) (gr : Nat) (bo : ByteArray) : List Nat := grpL v fo gr ++ (meaL v fo bo.size ++ bodL v fo bo)
def numL (v : Int) (n : Nat) : List Nat := if v = 2 then (sm n 3).reverse else if v = 3 then (sm n 4).reverse else sevens n
def flgL (v : Int) (st fo : Nat) : List Nat := if v = 2 then [] else [st, fo]
def frmL (v : Int) (id : ByteArray) (st fo gr : Nat) (bo : ByteArray) : List Nat := nats id ++ (numL v (datL v fo gr bo).length ++ (flgL v st fo ++ datL v fo gr bo))
theorem grpL_len (v fo : Int) (gr : Nat) : (grpL v fo gr).length ≤ 1 := by unfold grpL; split <;> simp
theorem meaL_len (v fo : Int) (n : Nat) : (meaL v fo n).length ≤ 4 := by unfold meaL; split <;> simp [sevens]
theorem bodL_len (v fo : Int) (bo : ByteArray) : (bodL v fo bo).length ≤ 2 * bo.size := by
  have := cntS_le bo
  unfold bodL
  split
  · rw [nats_len, size_putS]; omega
  · rw [nats_len]; omega
theorem datL_len (v fo : Int) (gr : Nat) (bo : ByteArray) : (datL v fo gr bo).length ≤ 5 + 2 * bo.size := by
  have h1 := grpL_len v fo gr
  have h2 := meaL_len v fo bo.size
  have h3 := bodL_len v fo bo
  rw [datL, List.length_append, List.length_append]; omega
theorem numL_len (v : Int) (n : Nat) : (numL v n).length ≤ 4 := by
  unfold numL
  split
  · simp [sm_len]
  · split <;> simp [sm_len, sevens]
theorem flgL_len (v : Int) (st fo : Nat) : (flgL v st fo).length ≤ 2 := by unfold flgL; split <;> simp
theorem frmL_len (v : Int) (id : ByteArray) (st fo gr : Nat) (bo : ByteArray) : (frmL v id st fo gr bo).length ≤ id.size + 11 + 2 * bo.size := by
  have h1 := numL_len v (datL v fo gr bo).length
  have h2 := flgL_len v st fo
  have h3 := datL_len v fo gr bo
  rw [frmL, List.length_append, List.length_append, List.length_append, nats_len]; omega
theorem grpL_lt {v fo : Int} {gr : Nat} (h : gr < 256) : ∀ x ∈ grpL v fo gr, x < 256 := by
  intro x hx
  unfold grpL at hx
  split at hx
  · simp only [List.mem_cons, List.not_mem_nil, or_false] at hx; omega
  · cases hx
theorem meaL_lt {v fo : Int} {n : Nat} : ∀ x ∈ meaL v fo n, x < 256 := by
  intro x hx
  unfold meaL at hx
  split at hx
  · exact sevens_lt256 _ x hx
  · cases hx
theorem bodL_lt {v fo : Int} {bo : ByteArray} : ∀ x ∈ bodL v fo bo, x < 256 := by
  intro x hx
  unfold bodL at hx
  split at hx
  · exact nats_lt _ x hx
  · exact nats_lt _ x hx
theorem datL_lt {v fo : Int} {gr : Nat} {bo : ByteArray} (h : gr < 256) : ∀ x ∈ datL v fo gr bo, x < 256 := by
  intro x hx
  rw [datL, List.mem_append, List.mem_append] at hx
  rcases hx with hx | hx | hx
  · exact grpL_lt h x hx
  · exact meaL_lt x hx
  · exact bodL_lt x hx
theorem numL_lt {v : Int} {n : Nat} : ∀ x ∈ numL v n, x < 256 := by
  intro x hx
  unfold numL at hx
  split at hx
  · rw [List.mem_reverse] at hx; exact sm_lt _ _ x hx
  · split at hx
    · rw [List.mem_reverse] at hx; exact sm_lt _ _ x hx
    · exact sevens_lt256 _ x hx
theorem flgL_lt {v : Int} {st fo : Nat} (h : st < 256) (h2 : fo < 256) : ∀ x ∈ flgL v st fo, x < 256 := by
  intro x hx
  unfold flgL at hx
  split at hx
  · cases hx
  · simp only [List.mem_cons, List.not_mem_nil, or_false] at hx; omega
theorem frmL_lt {v : Int} {id : ByteArray} {st fo gr : Nat} {bo : ByteArray} (h : st < 256) (h2 : fo < 256) (h3 : gr < 256) : ∀ x ∈ frmL v id st fo gr bo, x < 256 := by
  intro x hx
  rw [frmL, List.mem_append, List.mem_append, List.mem_append] at hx
  rcases hx with hx | hx | hx | hx
  · exact nats_lt _ x hx
  · exact numL_lt x hx
  · exact flgL_lt h h2 x hx
  · exact datL_lt h3 x hx

/-! ### the data -/
theorem one_rev (g : Nat) (h : g < 256) : (sm g 1).reverse = [g] := by
  simp only [sm, List.reverse_cons, List.reverse_nil, List.nil_append]
  rw [Nat.mod_eq_of_lt h]
theorem map_snoc (l : List (List Nat)) (x : List Nat) : l.map strN ++ [strN x] = (l ++ [x]).map strN := by simp
theorem bod_str (v fo : Int) (bo : ByteArray) : strN (bodL v fo bo) = if sprB v fo = true then putS bo else bo := by
  unfold bodL
  split
  · exact strN_nats _
  · exact strN_nats _
theorem data_j1 (v : Int) (l : List (List Nat)) (hl : l.length ≤ 10) (hz : l.flatten.length ≤ 10) (id : ByteArray) (st fo gr at_ : Int) (bo : ByteArray) (hb : bo.size ≤ 1000) :
    Ev (fun k => frame_Frame_data.j1 k v (l.map strN) id st fo gr bo at_) (strN (l.flatten ++ bodL v fo bo), true) := by
  have hz2 := bodL_len v fo bo
  have j := join_str (l ++ [bodL v fo bo]) (by simp; omega) (by rw [List.flatten_append, List.length_append, List.flatten_cons, List.flatten_nil, List.append_nil]; omega)
  rw [List.flatten_append, List.flatten_cons, List.flatten_nil, List.append_nil, ← map_snoc, bod_str] at j
  refine Ev.step (fun k => by rw [frame_Frame_data.j1]) (Ev.bindc (spread_ev id st fo v) ?_)
  by_cases hs : sprB v fo = true
  · rw [if_pos hs] at j
    refine Ev.itep hs (Ev.bind (put_ev bo (by omega)) (Ev.itep (by rw [List.length_map]; omega) ?_))
    exact Ev.bindc j (Ev.some rfl)
  · rw [if_neg hs] at j
    refine Ev.iten hs (Ev.itep (by rw [List.length_map]; omega) ?_)
    exact Ev.bindc j (Ev.some rfl)
theorem data_j0 (v : Int) (l : List (List Nat)) (hl : l.length ≤ 5) (hz : l.flatten.length ≤ 5) (id : ByteArray) (st fo gr at_ : Int) (bo : ByteArray) (hb : bo.size ≤ 1000) :
    Ev (fun k => frame_Frame_data.j0 k v (l.map strN) id st fo gr bo at_) (strN (l.flatten ++ (meaL v fo bo.size ++ bodL v fo bo)), true) := by
  refine Ev.step (fun k => by rw [frame_Frame_data.j0]) (Ev.bindc (measured_ev id st fo v) ?_)
  unfold meaL
  by_cases hm : meaB v fo = true
  · rw [if_pos hm]
    refine Ev.itep hm ?_
    rw [wu64 (by omega)]
    refine Ev.bindc (safe_yes bo.size (by omega)) (Ev.itep rfl (Ev.itep (by rw [List.length_map]; omega) ?_))
    have := data_j1 v (l ++ [sevens bo.size]) (by simp; omega) (by rw [List.flatten_append, List.length_append, List.flatten_cons, List.flatten_nil, List.append_nil, show (sevens bo.size).length = 4 from rfl]; omega) id st fo gr at_ bo hb
    rw [List.flatten_append, List.flatten_cons, List.flatten_nil, List.append_nil, List.append_assoc, ← map_snoc] at this
    exact this
  · rw [if_neg hm]
    exact Ev.iten hm (data_j1 v l (by omega) (by omega) id st fo gr at_ bo hb)
theorem data_ev (v : Int) (id : ByteArray) (st fo at_ : Int) (gr : Nat) (hg : gr < 256) (bo : ByteArray) (hb : bo.size ≤ 1000) :
    Ev (fun k => frame_Frame_data.f k id st fo (gr : Int) bo at_ v) (strN (datL v fo gr bo), true) := by
  unfold frame_Frame_data.f datL grpL
  refine Ev.bindc (grouped_ev id st fo v) ?_
  by_cases h : grpB v fo = true
  · rw [if_pos h]
    refine Ev.itep h ?_
    rw [wu64 (by omega)]
    refine Ev.bind (big_str gr 1 (by decide)) (Ev.itep (by simp) ?_)
    rw [one_rev gr hg]
    exact data_j0 v [[gr]] (by simp) (by simp) id st fo gr at_ bo hb
  · rw [if_neg h]
    exact Ev.iten h (data_j0 v [] (by simp) (by simp) id st fo gr at_ bo hb)

/-! ### what is wrong -/
def chkF (v : Int) (id : ByteArray) (st fo gr : Nat) : Int := if namedB v id = true ∧ (v = 2 → st = 0 ∧ fo = 0) ∧ (gr = 0 ∨ grpB v fo = true) then 0 else 5
theorem chk_pos {v : Int} {id : ByteArray} {st fo gr : Nat} (h : namedB v id = true ∧ (v = 2 → st = 0 ∧ fo = 0) ∧ (gr = 0 ∨ grpB v fo = true)) : chkF v id st fo gr = 0 := if_pos h
theorem chk_neg {v : Int} {id : ByteArray} {st fo gr : Nat} (h : ¬ (namedB v id = true ∧ (v = 2 → st = 0 ∧ fo = 0) ∧ (gr = 0 ∨ grpB v fo = true))) : chkF v id st fo gr = 5 := if_neg h
theorem check_ev (v : Int) (id : ByteArray) (hi : id.size ≤ 100000) (st fo gr : Nat) (bo : ByteArray) (at_ : Int) :
    Ev (fun k => frame_Frame_Check.f k id (st : Int) (fo : Int) (gr : Int) bo at_ v) (chkF v id st fo gr, 0) := by
  unfold frame_Frame_Check.f
  refine Ev.bind (named_ev v id hi) ?_
  by_cases hn : namedB v id = true
  case neg => rw [chk_neg (fun h => hn h.1)]; exact Ev.iten hn (Ev.some rfl)
  refine Ev.itep hn ?_
  have tail : (v = 2 → st = 0 ∧ fo = 0) → Ev (fun k => if (gr : Int) = 0 then (some ((0 : Int), (0 : Int))) else ((frame_Head_Grouped.f id (st : Int) (fo : Int) v).bind fun t152 => (if t152 = true then (some (0, 0)) else (some (5, 0))))) (chkF v id st fo gr, 0) := by
    intro hv
    by_cases hg : gr = 0
    · rw [chk_pos ⟨hn, hv, .inl hg⟩]; exact Ev.itep (by omega) (Ev.some rfl)
    · refine Ev.iten (by omega) (Ev.bindc (grouped_ev id st fo v) ?_)
      by_cases h : grpB v fo = true
      · rw [chk_pos ⟨hn, hv, .inr h⟩]; exact Ev.itep h (Ev.some rfl)
      · rw [chk_neg (fun x => x.2.2.elim hg h)]; exact Ev.iten h (Ev.some rfl)
  by_cases h2 : v = 2
  · refine Ev.itep h2 ?_
    by_cases hs : st = 0
    · refine Ev.itep (by omega) ?_
      by_cases hf : fo = 0
      · exact Ev.itep (by omega) (tail fun _ => ⟨hs, hf⟩)
      · rw [chk_neg (fun x => hf (x.2.1 h2).2)]; exact Ev.iten (by omega) (Ev.some rfl)
    · rw [chk_neg (fun x => hs (x.2.1 h2).1)]; exact Ev.iten (by omega) (Ev.some rfl)
  · exact Ev.iten h2 (tail fun h => absurd h h2)
theorem chk_cases (v : Int) (id : ByteArray) (st fo gr : Nat) : chkF v id st fo gr = 0 ∨ chkF v id st fo gr = 5 := by
  unfold chkF; split
  · exact .inl rfl
  · exact .inr rfl
theorem chk_zero {v : Int} {id : ByteArray} {st fo gr : Nat} (h : chkF v id st fo gr = 0) : namedB v id = true ∧ (v = 2 → st = 0 ∧ fo = 0) ∧ (gr = 0 ∨ grpB v fo = true) := by
  unfold chkF at h
  split at h
  · assumption
  · exact absurd h (by decide)
theorem named_facts {v : Int} {id : ByteArray} (h : namedB v id = true) : allL (bytesOf id) = true ∧ (id.size : Int) = letsI v ∧ 0 < id.size := by
  simpa [namedB] using h
theorem vers {v : Int} {id : ByteArray} (h : namedB v id = true) : (v = 2 ∧ id.size = 3) ∨ (v = 3 ∧ id.size = 4) ∨ (v = 4 ∧ id.size = 4) := by
  obtain ⟨_, h1, h2⟩ := named_facts h
  unfold letsI at h1
  by_cases h2 : v = 2
  · rw [if_pos h2] at h1; exact .inl ⟨h2, by omega⟩
  · rw [if_neg h2] at h1
    by_cases h3 : v = 3
    · rw [if_pos h3] at h1; exact .inr (.inl ⟨h3, by omega⟩)
    · rw [if_neg h3] at h1
      by_cases h4 : v = 4
      · rw [if_pos h4] at h1; exact .inr (.inr ⟨h4, by omega⟩)
      · rw [if_neg h4] at h1; omega

/-! ### the frame -/
theorem print_j0 (v : Int) (id : ByteArray) (hi : id.size ≤ 100000) (st fo gr : Nat) (h1 : st < 256) (h2 : fo < 256) (bo : ByteArray) (at_ c d : Int) (hb : bo.size ≤ 1000) (b : Bool) (hbf : b = false) (x : Int) (hx : x = ((datL v fo gr bo).length : Int)) :
    Ev (fun k => frame_Frame_Print.j0 k v (strN (datL v fo gr bo)) x b id (st : Int) (fo : Int) (gr : Int) bo at_ c d) (strN (frmL v id st fo gr bo), 0, 0) := by
  have hd := datL_len v fo gr bo
  subst hx hbf
  refine Ev.step (fun k => by rw [frame_Frame_Print.j0]) (Ev.iten (by decide) (Ev.bindc (safe_yes _ (by omega)) ?_))
  unfold frmL numL flgL
  by_cases hv2 : v = 2
  · refine Ev.itep hv2 (Ev.bind (big_str _ 3 (by decide)) ?_)
    rw [if_pos hv2, if_pos hv2]
    have j := join_str [nats id, (sm (datL v fo gr bo).length 3).reverse, datL v fo gr bo] (by simp) (by simp [sm_len, nats_len]; omega)
    rw [List.map_cons, List.map_cons, List.map_cons, List.map_nil, strN_nats] at j
    refine Ev.bindc j (Ev.some ?_)
    simp
  · refine Ev.iten hv2 ?_
    rw [if_neg hv2, if_neg hv2]
    by_cases hv3 : v = 3
    · refine Ev.itep hv3 (Ev.bind (big_str _ 4 (by decide)) ?_)
      rw [if_pos hv3, wu64 (n := (st : Int)) (by omega), wu64 (n := (fo : Int)) (by omega)]
      refine Ev.bind (big_str st 1 (by decide)) (Ev.bind (big_str fo 1 (by decide)) ?_)
      rw [one_rev st h1, one_rev fo h2]
      have j := join_str [nats id, (sm (datL v fo gr bo).length 4).reverse, [st], [fo], datL v fo gr bo] (by simp) (by simp [sm_len, nats_len]; omega)
      rw [List.map_cons, List.map_cons, List.map_cons, List.map_cons, List.map_cons, List.map_nil, strN_nats] at j
      refine Ev.bindc j (Ev.some ?_)
      simp
    · refine Ev.iten hv3 ?_
      rw [if_neg hv3, wu64 (n := (st : Int)) (by omega), wu64 (n := (fo : Int)) (by omega)]
      refine Ev.bind (big_str st 1 (by decide)) (Ev.bind (big_str fo 1 (by decide)) ?_)
      rw [one_rev st h1, one_rev fo h2]
      have j := join_str [nats id, sevens (datL v fo gr bo).length, [st], [fo], datL v fo gr bo] (by simp) (by simp [sevens, nats_len]; omega)
      rw [List.map_cons, List.map_cons, List.map_cons, List.map_cons, List.map_cons, List.map_nil, strN_nats] at j
      refine Ev.bindc j (Ev.some ?_)
      simp
theorem print_ok (v : Int) (id : ByteArray) (hi : id.size ≤ 100000) (st fo gr : Nat) (h1 : st < 256) (h2 : fo < 256) (h3 : gr < 256) (bo : ByteArray) (at_ : Int) (hb : bo.size ≤ 1000) (hc : chkF v id st fo gr = 0) :
    Ev (fun k => frame_Frame_Print.f k id (st : Int) (fo : Int) (gr : Int) bo at_ v) (strN (frmL v id st fo gr bo), 0, 0) := by
  have hd := datL_len v fo gr bo
  unfold frame_Frame_Print.f
  refine Ev.bind (check_ev v id hi st fo gr bo at_) (Ev.bindc rfl ?_)
  rw [hc]
  refine Ev.iten (by decide) (Ev.bind (data_ev v id st fo at_ gr h3 bo hb) (Ev.itep rfl ?_))
  have hw : IntKind.u64.wrap (((strN (datL v fo gr bo)).size : Nat) : Int) = ((datL v fo gr bo).length : Int) := by
    rw [size_strN, wu64 (by omega)]
  rw [hw]
  refine Ev.iten (by omega) ?_
  by_cases hv2 : v = 2
  · exact Ev.itep hv2 (print_j0 v id hi st fo gr h1 h2 bo at_ _ _ hb _ (decide_eq_false (by omega)) _ rfl)
  · exact Ev.iten hv2 (print_j0 v id hi st fo gr h1 h2 bo at_ _ _ hb _ rfl _ rfl)
theorem print_bad (v : Int) (id : ByteArray) (hi : id.size ≤ 100000) (st fo gr : Nat) (bo : ByteArray) (at_ : Int) (hc : chkF v id st fo gr = 5) :
    Ev (fun k => frame_Frame_Print.f k id (st : Int) (fo : Int) (gr : Int) bo at_ v) ((⟨#[]⟩ : ByteArray), 5, 0) := by
  unfold frame_Frame_Print.f
  refine Ev.bind (check_ev v id hi st fo gr bo at_) (Ev.bindc rfl ?_)
  rw [hc]
  exact Ev.itep (by decide) (Ev.some rfl)

end Go.Proofs.YtlmhlmendnjmlaaDoor.Pl
