/- Any frame's bytes, in any version, or what is wrong with it, are the document's; what is printed is read as it was: the plain law. -/
import Derived.Test.YtlmhlmendnjmlaaDoorPAllx12
import Derived.Test.YtlmhlmendnjmlaaDoorPAllx16
import Derived.Test.YtlmhlmendnjmlaaDoorPAllx17
import Derived.Test.YtlmhlmendnjmlaaDoorPAllx18
import Derived.Test.YtlmhlmendnjmlaaDoorPAllx20
import Derived.Test.YtlmhlmendnjmlaaDoorPAllx21
import Derived.Test.YtlmhlmendnjmlaaDoorPAllx22
import Derived.Test.YtlmhlmendnjmlaaDoorPAllx8
import Derived.Test.YtlmhlmendnjmlaaDoorLfr2
namespace Go.Proofs.YtlmhlmendnjmlaaDoor.Pure
open Go.RowKit Go.Proofs.YtlmhlmendnjmlaaDoor.PAll Go.Proofs.YtlmhlmendnjmlaaDoor.Pl Go.Proofs.YtlmhlmendnjmlaaDoorW.PrintWords Go.Proofs.YtlmhlmendnjmlaaDoorW.PrintLast
set_option linter.unusedVariables false
set_option linter.unusedSimpArgs false

theorem awake13 : Ev (fun k => diacriticlaw13_awake.f k) true := Ev.of diacriticlaw13_awake.mono (k := 60) (by kernel_rfl)
theorem parse_j3 {v : Int} {id : ByteArray} {st fo gr : Nat} (hf : fo < 256) (hg : gr < 256) (hgr : gr = 0 ∨ grpB v fo = true) {bo : ByteArray} (hb : bo.size ≤ 1000) {s : ByteArray} {p b : Nat} {r : List Nat} (h : Pl.Rest s p (datL v fo gr bo ++ r)) (ok : Ok s b) (hok : b + p ≤ 140737488355328) (a0 : Int) (b0 : ByteArray) :
    Ev (fun k => frame_Parse.j3 k v ((datL v fo gr bo).length : Int) s (p : Int) (b : Int) 0 0 id (st : Int) (fo : Int) 0 b0 a0) (id, (st : Int), (fo : Int), (gr : Int), bo, a0, true, s, ((p + (datL v fo gr bo).length : Nat) : Int), (b : Int), 0, 0) := by
  refine Ev.step (fun k => by rw [frame_Parse.j3]) (Ev.bindc (rat ok h.2 0 0) (Ev.bindc (rtake h ok 0 _ rfl) ?_))
  refine Ev.bindc (show octet_In_Fault.f _ _ _ _ _ = some (0, 0, s, ((p + (datL v fo gr bo).length : Nat) : Int), (b : Int), 0, 0) from rfl) ?_
  refine Ev.bindc (show api_Fault_Bad.f 0 0 = some false from rfl) ?_
  refine Ev.iten (by decide) (Ev.bindc (locked_ev id st fo v) ?_)
  by_cases hl : lockB v fo = true
  · obtain ⟨l1, l2, l3⟩ := locked_none hl
    have e : gr = 0 := hgr.elim (fun x => x) (fun x => by rw [l1] at x; exact absurd x (by decide))
    have ed : strN (datL v fo gr bo) = bo := by
      rw [datL, grpL, meaL, bodL, if_neg (by rw [l1]; decide), if_neg (by rw [l2]; decide), if_neg (by rw [l3]; decide), List.nil_append, List.nil_append, strN_nats]
    refine Ev.itep hl (Ev.some ?_)
    rw [ed, e]; rfl
  · refine Ev.iten hl (Ev.bind (content_ok hg hgr hb id st _ a0 (b + p) hok) ?_)
    refine Ev.bindc (show api_Fault_Bad.f 0 0 = some false from rfl) ?_
    exact Ev.iten (by decide) (Ev.some rfl)
theorem parse_ok {v : Int} {id : ByteArray} {st fo gr : Nat} (hs : st < 256) (hf : fo < 256) (hg : gr < 256) (hc : chkF v id st fo gr = 0) {bo : ByteArray} (hb : bo.size ≤ 1000) {s : ByteArray} {p b : Nat} {r : List Nat} (h : Pl.Rest s p (frmL v id st fo gr bo ++ r)) (ok : Ok s b) (hok : b + s.size ≤ 140737488355328) :
    Ev (fun k => frame_Parse.f k v s (p : Int) (b : Int) 0 0 false) (id, (st : Int), (fo : Int), (gr : Int), bo, ((b + p : Nat) : Int), true, s, ((p + (frmL v id st fo gr bo).length : Nat) : Int), (b : Int), 0, 0) := by
  obtain ⟨hn, hz, hgr⟩ := chk_zero hc
  obtain ⟨ha, hl, h0⟩ := named_facts hn
  have hv := vers hn
  have hv3 : v = 2 ∨ v = 3 ∨ v = 4 := by omega
  have hd := datL_len v fo gr bo
  have hsz := h.size
  have e : frmL v id st fo gr bo ++ r = nats id ++ (numL v (datL v fo gr bo).length ++ (flgL v st fo ++ (datL v fo gr bo ++ r))) := by
    rw [frmL]; simp only [List.append_assoc]
  have ep : p + (frmL v id st fo gr bo).length = p + id.size + (numL v (datL v fo gr bo).length).length + (flgL v st fo).length + (datL v fo gr bo).length := by
    rw [frmL]; simp only [List.length_append, nats_len]; omega
  rw [ep]
  have hfl := hsz
  rw [List.length_append] at hfl
  rw [e] at h
  have h1 := h.next
  have h2 := h1.next
  rw [nats_len] at h1 h2
  -- the first sign
  obtain ⟨c, t, hct⟩ : ∃ c t, nats id = c :: t := by
    cases hx : nats id with
    | nil => have := nats_len id; rw [hx] at this; simp at this; omega
    | cons c t => exact ⟨c, t, rfl⟩
  have hcl : letB (c : Int) = true := by
    rw [bytes_ints, hct] at ha
    simp only [ints, List.map_cons, allL, Bool.and_eq_true] at ha
    exact ha.1
  have hpk : Pl.Rest s p ([c] ++ (t ++ (numL v (datL v fo gr bo).length ++ (flgL v st fo ++ (datL v fo gr bo ++ r))))) := by
    rw [hct] at h; exact h
  have hcn : c < 256 := h.lt c (by rw [hct]; simp)
  have hbt : bt (strN [c]) 0 = (c : Int) := bt_strN [c] (by intro x hx; simp at hx; omega) 0 (by simp)
  unfold frame_Parse.f
  refine Ev.bindc (rpeek hpk ok 0 1 rfl) (Ev.iten ?_ (Ev.itep (by rw [size_strN]; simp) ?_))
  · intro hx
    rw [tl_nil, size_strN] at hx
    simp at hx
  rw [hbt]
  refine Ev.iten (let_pos hcl) (Ev.bindc (letters_ev v) ?_)
  have hl0 : (letsI v == 0) = false := by rw [beq_eq_false_iff_ne]; omega
  rw [hl0]
  refine Ev.step (fun k => by rw [frame_Parse.j0]) (Ev.iten (by decide) (Ev.bindc (rat ok h.2 0 0) (Ev.bind (name_ok hn h ok 0) (Ev.bindc (size_ok hv3 (by omega) h1 ok 0) ?_))))
  have to3 : ∀ (x a1 a2 : Int) (pp : Nat) (b0 : ByteArray), Ev (fun k => frame_Parse.j3 k v ((datL v fo gr bo).length : Int) s (pp : Int) (b : Int) 0 0 id a1 a2 0 b0 x) (id, (st : Int), (fo : Int), (gr : Int), bo, x, true, s, ((pp + (datL v fo gr bo).length : Nat) : Int), (b : Int), 0, 0) →
      Ev (fun k => frame_Parse.j1 k v false ((datL v fo gr bo).length : Int) s (pp : Int) (b : Int) 0 0 id a1 a2 0 b0 x) (id, (st : Int), (fo : Int), (gr : Int), bo, x, true, s, ((pp + (datL v fo gr bo).length : Nat) : Int), (b : Int), 0, 0) := by
    intro x a1 a2 pp b0 hev
    have e2 : Ev (fun k => frame_Parse.j2 k v ((datL v fo gr bo).length : Int) false s (pp : Int) (b : Int) 0 0 id a1 a2 0 b0 x) (id, (st : Int), (fo : Int), (gr : Int), bo, x, true, s, ((pp + (datL v fo gr bo).length : Nat) : Int), (b : Int), 0, 0) :=
      Ev.step (fun k => by rw [frame_Parse.j2]) (Ev.iten (by decide) hev)
    refine Ev.step (fun k => by rw [frame_Parse.j1]) ?_
    by_cases h4 : v = 4
    · exact Ev.itep h4 e2
    · exact Ev.iten h4 e2
  unfold flgL at h2 ⊢
  by_cases h22 : v = 2
  · obtain ⟨z1, z2⟩ := hz h22
    rw [if_pos h22] at h2 ⊢
    rw [List.nil_append] at h2
    subst z1 z2
    refine Ev.iten (by omega) (to3 _ _ _ _ _ ?_)
    exact parse_j3 hf hg hgr hb h2 ok (by omega) _ _
  · rw [if_neg h22] at h2 ⊢
    have h2a : Pl.Rest s (p + id.size + (numL v (datL v fo gr bo).length).length) ([st] ++ ([fo] ++ (datL v fo gr bo ++ r))) := h2
    have h3 := h2a.next
    have h4 := h3.next
    simp only [List.length_cons, List.length_nil] at h3 h4
    have b1 : (((bigN [st] : Nat) : Int)) % 256 = (st : Int) := by
      have : bigN [st] = st := by simp [bigN]
      rw [this]; omega
    have b2 : (((bigN [fo] : Nat) : Int)) % 256 = (fo : Int) := by
      have : bigN [fo] = fo := by simp [bigN]
      rw [this]; omega
    refine Ev.itep (by omega) (Ev.bindc (rbig h2a ok 0 1 rfl (by simp)) (Ev.bindc (rbig h3 ok 0 1 rfl (by simp)) ?_))
    simp only [b1, b2, List.length_cons, List.length_nil]
    have := parse_j3 (id := id) (st := st) hf hg hgr hb h4 ok (by have := h4.size; omega) ((b + p : Nat) : Int) (⟨#[]⟩ : ByteArray)
    exact to3 _ _ _ _ _ this

/-! ### the document's -/
theorem rcheck_ev (v : Int) (id : ByteArray) (hi : id.size ≤ 100000) (st fo gr : Nat) (hf : fo < 256) (bo : ByteArray) (at_ : Int) :
    Ev (fun k => diacriticref13_Check.f k v id (st : Int) (fo : Int) (gr : Int) bo at_) (chkF v id st fo gr) := by
  unfold diacriticref13_Check.f
  refine Ev.bind (rnamed_ev v id hi) ?_
  by_cases hn : namedB v id = true
  case neg => rw [chk_neg (fun h => hn h.1)]; exact Ev.iten hn (Ev.some rfl)
  refine Ev.itep hn ?_
  have tail : (v = 2 → st = 0 ∧ fo = 0) → Ev (fun k => if (gr : Int) > 0 then ((diacriticref13_Grouped.f v (fo : Int)).bind fun t152 => (if t152 = true then (some (0 : Int)) else (some 5))) else (some 0)) (chkF v id st fo gr) := by
    intro hv
    by_cases hg : gr = 0
    · rw [chk_pos ⟨hn, hv, .inl hg⟩]; exact Ev.iten (by omega) (Ev.some rfl)
    · refine Ev.itep (by omega) (Ev.bindc (rgrouped_ev v fo (by omega)) ?_)
      by_cases h : grpB v fo = true
      · rw [chk_pos ⟨hn, hv, .inr h⟩]; exact Ev.itep h (Ev.some rfl)
      · rw [chk_neg (fun x => x.2.2.elim hg h)]; exact Ev.iten h (Ev.some rfl)
  by_cases h2 : v = 2
  · refine Ev.itep h2 ?_
    by_cases hs : st = 0
    · refine Ev.iten (by omega) ?_
      by_cases hf0 : fo = 0
      · exact Ev.iten (by omega) (tail fun _ => ⟨hs, hf0⟩)
      · rw [chk_neg (fun x => hf0 (x.2.1 h2).2)]; exact Ev.itep (by omega) (Ev.some rfl)
    · rw [chk_neg (fun x => hs (x.2.1 h2).1)]; exact Ev.itep (by omega) (Ev.some rfl)
  · exact Ev.iten h2 (tail fun h => absurd h h2)
theorem rprint_j2 (v : Int) (id : ByteArray) (hi : id.size ≤ 1000) (st fo gr : Nat) (h1 : st < 256) (h2 : fo < 256) (bo : ByteArray) (at_ : Int) (hb : bo.size ≤ 1000) (hv : v = 2 ∨ v = 3 ∨ v = 4) :
    Ev (fun k => diacriticref13_Print.j2 k v (strN (datL v fo gr bo)) id (st : Int) (fo : Int) (gr : Int) bo at_) (strN (frmL v id st fo gr bo)) := by
  have hd := datL_len v fo gr bo
  have hw : IntKind.u64.wrap (((strN (datL v fo gr bo)).size : Nat) : Int) = ((datL v fo gr bo).length : Int) := by
    rw [size_strN, wu64 (by omega)]
  refine Ev.step (fun k => by rw [diacriticref13_Print.j2]) ?_
  rw [hw]
  have s4 : (sevens (datL v fo gr bo).length).length = 4 := rfl
  have g1 : ([st] : List Nat).length = 1 := rfl
  have g2 : ([fo] : List Nat).length = 1 := rfl
  unfold frmL numL flgL
  by_cases hv2 : v = 2
  · rw [if_pos hv2, if_pos hv2]
    refine Ev.itep hv2 (Ev.bind (rbig_str _ (by omega) 3 (by decide)) (Ev.itep ?_ (Ev.itep ?_ (Ev.some ?_))))
    · simp only [size_app, size_strN, sm_len, List.length_reverse]; omega
    · simp only [size_app, size_strN, sm_len, List.length_reverse]; omega
    · rw [strN_app, strN_app, List.nil_append, strN_nats, ba_assoc]
  · rw [if_neg hv2, if_neg hv2]
    refine Ev.iten hv2 (Ev.bind (rbig_str _ (by omega) 4 (by decide)) ?_)
    rw [wu64 (n := (st : Int)) (by omega), wu64 (n := (fo : Int)) (by omega)]
    by_cases hv4 : v = 4
    · rw [if_neg (show ¬ v = 3 by omega)]
      refine Ev.itep hv4 (Ev.bindc (refsafe _ (by omega)) (Ev.itep ?_ (Ev.bind (rbig_str st (by omega) 1 (by decide)) ?_)))
      · show id.size + (strN (sevens (datL v fo gr bo).length)).size ≤ _
        rw [size_strN, s4]; omega
      rw [one_rev st h1]
      refine Ev.itep ?_ (Ev.bind (rbig_str fo (by omega) 1 (by decide)) ?_)
      · show (id ++ (strN (sevens (datL v fo gr bo).length))).size + _ ≤ _
        simp only [size_app, size_strN, s4, g1]; omega
      rw [one_rev fo h2]
      refine Ev.itep ?_ (Ev.itep ?_ (Ev.some ?_))
      · show ((id ++ (strN (sevens (datL v fo gr bo).length))) ++ strN [st]).size + _ ≤ _
        simp only [size_app, size_strN, s4, g1, g2]; omega
      · show (((id ++ (strN (sevens (datL v fo gr bo).length))) ++ strN [st]) ++ strN [fo]).size + _ ≤ _
        simp only [size_app, size_strN, s4, g1, g2]; omega
      · show (((id ++ (strN (sevens (datL v fo gr bo).length))) ++ strN [st]) ++ strN [fo]) ++ strN (datL v fo gr bo) = _
        rw [show ([st, fo] : List Nat) = [st] ++ [fo] from rfl]
        simp only [strN_app, strN_nats, ba_assoc]
    · rw [if_pos (show v = 3 by omega)]
      refine Ev.iten hv4 (Ev.itep ?_ (Ev.bind (rbig_str st (by omega) 1 (by decide)) ?_))
      · simp only [size_app, size_strN, sm_len, List.length_reverse]; omega
      rw [one_rev st h1]
      refine Ev.itep ?_ (Ev.bind (rbig_str fo (by omega) 1 (by decide)) ?_)
      · simp only [size_app, size_strN, sm_len, List.length_reverse, g1]; omega
      rw [one_rev fo h2]
      refine Ev.itep ?_ (Ev.itep ?_ (Ev.some ?_))
      · simp only [size_app, size_strN, sm_len, List.length_reverse, g1, g2]; omega
      · simp only [size_app, size_strN, sm_len, List.length_reverse, g1, g2]; omega
      · rw [show ([st, fo] : List Nat) = [st] ++ [fo] from rfl]
        simp only [strN_app, strN_nats, ba_assoc]
theorem rprint_j1 (v : Int) (id : ByteArray) (hi : id.size ≤ 1000) (st fo gr : Nat) (h1 : st < 256) (h2 : fo < 256) (bo : ByteArray) (at_ : Int) (hb : bo.size ≤ 1000) (hv : v = 2 ∨ v = 3 ∨ v = 4) (x : ByteArray) (hx : x = strN (grpL v fo gr ++ meaL v fo bo.size)) :
    Ev (fun k => diacriticref13_Print.j1 k v x id (st : Int) (fo : Int) (gr : Int) bo at_) (strN (frmL v id st fo gr bo)) := by
  have z1 := grpL_len v fo gr
  have z2 := meaL_len v fo bo.size
  have z3 := cntS_le bo
  have e : x ++ strN (bodL v fo bo) = strN (datL v fo gr bo) := by
    rw [hx, datL, ← strN_app, List.append_assoc]
  have hxs : x.size ≤ 5 := by rw [hx, size_strN, List.length_append]; omega
  rw [bod_str] at e
  refine Ev.step (fun k => by rw [diacriticref13_Print.j1]) (Ev.bindc (rspread_ev v fo (by omega)) ?_)
  by_cases h : sprB v fo = true
  · rw [if_pos h] at e
    refine Ev.itep h (Ev.bind (rput_ev bo (by omega)) (Ev.itep (by rw [size_putS]; omega) ?_))
    rw [e]
    exact rprint_j2 v id hi st fo gr h1 h2 bo at_ hb hv
  · rw [if_neg h] at e
    refine Ev.iten h (Ev.itep (by omega) ?_)
    rw [e]
    exact rprint_j2 v id hi st fo gr h1 h2 bo at_ hb hv
theorem rprint_j0 (v : Int) (id : ByteArray) (hi : id.size ≤ 1000) (st fo gr : Nat) (h1 : st < 256) (h2 : fo < 256) (bo : ByteArray) (at_ : Int) (hb : bo.size ≤ 1000) (hv : v = 2 ∨ v = 3 ∨ v = 4) :
    Ev (fun k => diacriticref13_Print.j0 k v (strN (grpL v fo gr)) id (st : Int) (fo : Int) (gr : Int) bo at_) (strN (frmL v id st fo gr bo)) := by
  have z1 := grpL_len v fo gr
  have s4 : (sevens bo.size).length = 4 := rfl
  refine Ev.step (fun k => by rw [diacriticref13_Print.j0]) (Ev.bindc (rmeasured_ev v fo (by omega)) ?_)
  by_cases h : meaB v fo = true
  · refine Ev.itep h ?_
    rw [wu64 (by omega)]
    refine Ev.bindc (refsafe _ (by omega)) (Ev.itep ?_ (rprint_j1 v id hi st fo gr h1 h2 bo at_ hb hv _ ?_))
    · show (strN (grpL v fo gr)).size + (strN (sevens bo.size)).size ≤ _
      rw [size_strN, size_strN, s4]; omega
    · rw [meaL, if_pos h, strN_app]; rfl
  · refine Ev.iten h (rprint_j1 v id hi st fo gr h1 h2 bo at_ hb hv _ ?_)
    rw [meaL, if_neg h, List.append_nil]
theorem rprint_ev (v : Int) (id : ByteArray) (hi : id.size ≤ 1000) (st fo gr : Nat) (h1 : st < 256) (h2 : fo < 256) (h3 : gr < 256) (bo : ByteArray) (at_ : Int) (hb : bo.size ≤ 1000) (hv : v = 2 ∨ v = 3 ∨ v = 4) :
    Ev (fun k => diacriticref13_Print.f k v id (st : Int) (fo : Int) (gr : Int) bo at_) (strN (frmL v id st fo gr bo)) := by
  have j := rprint_j0 v id hi st fo gr h1 h2 bo at_ hb hv
  unfold diacriticref13_Print.f
  refine Ev.bindc (rgrouped_ev v fo (by omega)) ?_
  unfold grpL at j
  by_cases h : grpB v fo = true
  · rw [if_pos h] at j
    refine Ev.itep h ?_
    rw [wu64 (n := (gr : Int)) (by omega)]
    refine Ev.bind (rbig_str gr (by omega) 1 (by decide)) (Ev.itep (by rw [size_strN, List.length_reverse, sm_len]; omega) ?_)
    rw [ba_nil_app, one_rev gr h3]
    exact j
  · rw [if_neg h] at j
    exact Ev.iten h j
theorem prints_over (v : Int) (id : ByteArray) (st fo gr at_ : Int) (bo x : ByteArray) : Ev (fun k => diacriticlaw13_FramePrints.j0 k v x true id st fo gr bo at_) true :=
  Ev.step (fun k => by rw [diacriticlaw13_FramePrints.j0]) (Ev.itep rfl (Ev.bind awake13 (Ev.some rfl)))
theorem FramePrints : diacriticlaw13_FramePrints.Pure := by
  intro v id st fo gr bo at_ x h0 h1 h2 h3 h4 h5 h6 h7
  have r1 := wf_u8 h2
  have r2 := wf_u8 h3
  have r3 := wf_u8 h4
  obtain ⟨st, rfl⟩ := Int.eq_ofNat_of_zero_le r1.1
  obtain ⟨fo, rfl⟩ := Int.eq_ofNat_of_zero_le r2.1
  obtain ⟨gr, rfl⟩ := Int.eq_ofNat_of_zero_le r3.1
  apply Ev.rounds
  unfold diacriticlaw13_FramePrints.f
  by_cases hz : (bo.size : Int) > 1000
  · exact Ev.itep hz (prints_over _ _ _ _ _ _ _ _)
  refine Ev.iten hz ?_
  by_cases hz2 : (id.size : Int) > 100
  · exact Ev.itep hz2 (prints_over _ _ _ _ _ _ _ _)
  refine Ev.iten hz2 ?_
  by_cases hz3 : (x.size : Int) > 100
  · rw [decide_eq_true hz3]; exact prints_over _ _ _ _ _ _ _ _
  rw [decide_eq_false hz3]
  have hof : ∀ a : Int, diacriticlaw13_Of.f id (st : Int) (fo : Int) (gr : Int) bo a = some (id, (st : Int), (fo : Int), (gr : Int), bo, a) := by
    intro a
    unfold diacriticlaw13_Of.f
    rw [w64 (n := (st : Int)) (by omega), w64 (n := (fo : Int)) (by omega), w64 (n := (gr : Int)) (by omega)]
  have hce := check_ev v id (by omega) st fo gr bo at_
  have hre := rcheck_ev v id (by omega) st fo gr (by omega) bo at_
  refine Ev.step (fun k => by rw [diacriticlaw13_FramePrints.j0]) (Ev.iten (by decide) ?_)
  rcases chk_cases v id st fo gr with hc | hc
  · rw [hc] at hce hre
    have hlt := frmL_lt (v := v) (id := id) (st := st) (fo := fo) (gr := gr) (bo := bo) (by omega) (by omega) (by omega)
    have hll := frmL_len v id st fo gr bo
    obtain ⟨hn, -, -⟩ := chk_zero hc
    have hv := vers hn
    refine Ev.bind (print_ok v id (by omega) st fo gr (by omega) (by omega) (by omega) bo at_ (by omega) hc) (Ev.bindc (hof _) (Ev.bind hre (Ev.bind hce (Ev.iten (by decide) (Ev.bind hce ?_)))))
    refine Ev.step (fun k => by rw [diacriticlaw13_FramePrints.j1]) (Ev.iten (by simp) (Ev.itep rfl (Ev.itep (by simp only [size_strN]; omega) ?_)))
    have hrest : Pl.Rest (strN (frmL v id st fo gr bo) ++ x) 0 (frmL v id st fo gr bo ++ nats x) := by
      have := Pl.Rest.start (strN (frmL v id st fo gr bo) ++ x)
      rwa [nats_app, nats_strN hlt] at this
    have hsz : (strN (frmL v id st fo gr bo) ++ x).size ≤ 10000 := by rw [size_app, size_strN]; omega
    have ok : Ok (strN (frmL v id st fo gr bo) ++ x) 0 := ⟨by omega, by omega⟩
    refine Ev.bindc rfl (Ev.bind (parse_ok (s := strN (frmL v id st fo gr bo) ++ x) (p := 0) (b := 0) (by omega) (by omega) (by omega) hc (by omega) hrest ok (by omega)) (Ev.bind awake13 (Ev.itep rfl (Ev.bindc (hof _) (Ev.bind (rprint_ev v id (by omega) st fo gr (by omega) (by omega) (by omega) bo 0 (by omega) (by omega)) (Ev.itep rfl (Ev.itep rfl (Ev.itep (by simp) ?_))))))))
    refine Ev.bindc (rrest hrest.next ok 0) (Ev.some ?_)
    simp only [strN_nats]
    simp
  · rw [hc] at hce hre
    refine Ev.bind (print_bad v id (by omega) st fo gr bo at_ hc) (Ev.bindc (hof _) (Ev.bind hre (Ev.bind hce (Ev.iten (by decide) (Ev.bind hce ?_)))))
    refine Ev.step (fun k => by rw [diacriticlaw13_FramePrints.j1]) (Ev.iten (by simp) (Ev.iten (by decide) (Ev.bind awake13 (Ev.itep rfl (Ev.some ?_)))))
    rw [tl_data]; rfl
end Go.Proofs.YtlmhlmendnjmlaaDoor.Pure
