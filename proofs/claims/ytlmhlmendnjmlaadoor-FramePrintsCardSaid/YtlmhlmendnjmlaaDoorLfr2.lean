/- A frame that is read: plain lemmas. -/
import Derived.Test.YtlmhlmendnjmlaaDoorPAllx12
import Derived.Test.YtlmhlmendnjmlaaDoorPAllx13
import Derived.Test.YtlmhlmendnjmlaaDoorPAllx14
import Derived.Test.YtlmhlmendnjmlaaDoorPAllx15
import Derived.Test.YtlmhlmendnjmlaaDoorPAllx7
import Derived.Test.YtlmhlmendnjmlaaDoorPAllx8
import Derived.Test.YtlmhlmendnjmlaaDoorPAllx9
import Derived.Test.YtlmhlmendnjmlaaDoorLfr
namespace Go.Proofs.YtlmhlmendnjmlaaDoor.Pl
open Go.RowKit Go.Proofs.YtlmhlmendnjmlaaDoor.PAll Go.Proofs.YtlmhlmendnjmlaaDoorW.PrintWords Go.Proofs.YtlmhlmendnjmlaaDoorW.PrintLast Go.Proofs.YtlmhlmendnjmlaaDoorW.PrintMore
set_option linter.unusedVariables false
set_option linter.unusedSimpArgs false

theorem dropS_putS (s : ByteArray) : dropS (putS s) = s := by
  rw [dropS, bytes_putS, drop_put, str_bytesOf]
theorem locked_none {v fo : Int} (h : lockB v fo = true) : grpB v fo = false ∧ meaB v fo = false ∧ sprB v fo = false := by
  refine ⟨?_, ?_, ?_⟩
  · unfold grpB frame_Head_Grouped.f; rw [locked_ev]; simp only [Option.bind_some]; rw [if_pos h]; rfl
  · unfold meaB frame_Head_Measured.f; rw [locked_ev]; simp only [Option.bind_some]; rw [if_pos h]; rfl
  · unfold sprB frame_Head_Spread.f; rw [locked_ev]; simp only [Option.bind_some]; rw [if_pos h]; rfl
theorem w0 : wrap64 0 = 0 := w64 (by omega)
theorem let_pos {c : Int} (h : letB c = true) : c ≠ 0 := by
  intro h0; subst h0; exact absurd h (by decide)

/-! ### steps of readers -/
theorem rsafe {s : ByteArray} {p b n : Nat} {r : List Nat} (hn : n ≤ 268435455) (h : Rest s p (sevens n ++ r)) (ok : Ok s b) (fa : Int) :
    octet_In_Safe.f s (p : Int) (b : Int) 0 fa = some ((n : Int), s, ((p + 4 : Nat) : Int), (b : Int), 0, fa) := by
  obtain ⟨o1, o2⟩ := ok
  have hs := h.size
  unfold octet_In_Safe.f
  rw [rtake h ⟨o1, o2⟩ fa 4 rfl]
  simp only [Option.bind_some]
  have hz : (strN (sevens n)).size = 4 := by rw [size_strN]; rfl
  have hb : bytesOf (strN (sevens n)) = ints (sevens n) := bytesOf_str (ints_range _ (sevens_lt256 n))
  rw [if_pos (by omega), hb, bad_ints _ (sevens_lt n)]
  simp only
  rw [safeOf_sevens n hn]
  rfl
theorem rsafe_short {s : ByteArray} {p b : Nat} {l : List Nat} (h : Rest s p l) (ok : Ok s b) (fa : Int) (hn : l.length < 4) :
    octet_In_Safe.f s (p : Int) (b : Int) 0 fa = some (0, s, (p : Int), (b : Int), 1, (b : Int) + s.size) := by
  obtain ⟨o1, o2⟩ := ok
  have hs := h.size
  unfold octet_In_Safe.f
  rw [rtake_short h ⟨o1, o2⟩ fa 4 (by omega)]
  simp only [Option.bind_some]
  rw [if_pos ⟨by show 0 ≤ 4; omega, by omega, by omega, by omega, by omega⟩]
  rfl
theorem safe_bad (s : ByteArray) (p b : Nat) (ok : Ok s b) (hp : p ≤ s.size) (fa : Int) : octet_In_Safe.f s (p : Int) (b : Int) 1 fa = some (0, s, (p : Int), (b : Int), 1, fa) := by
  obtain ⟨o1, o2⟩ := ok
  unfold octet_In_Safe.f
  rw [take_bad s p b ⟨o1, o2⟩ hp]
  simp only [Option.bind_some]
  rw [if_pos ⟨by show 0 ≤ 4; omega, by omega, by omega, by omega, by omega⟩]
  rfl
theorem rrest {s : ByteArray} {p b : Nat} {l : List Nat} (h : Rest s p l) (ok : Ok s b) (fa : Int) :
    octet_In_Rest.f s (p : Int) (b : Int) 0 fa = some (strN l, s, ((p + l.length : Nat) : Int), (b : Int), 0, fa) := by
  unfold octet_In_Rest.f
  rw [rleft h ok fa, Option.bind_some]
  simp only
  rw [rtake (x := l) (r := []) (by rw [List.append_nil]; exact h) ok fa _ rfl, Option.bind_some]
theorem rat {s : ByteArray} {p b : Nat} (ok : Ok s b) (hp : p ≤ s.size) (c fa : Int) : octet_In_At.f s (p : Int) (b : Int) c fa = some (((b + p : Nat) : Int), s, (p : Int), (b : Int), c, fa) := by
  obtain ⟨o1, o2⟩ := ok
  unfold octet_In_At.f
  rw [w64 (by omega)]
  congr 2
/-! ### the name -/
theorem name_loop (at_ : Int) (id s : ByteArray) (hi : id.size ≤ 100000) (p b c fa : Int) : ∀ (d i : Nat), i + d = id.size → allL ((bytesOf id).drop i) = true →
    Ev (fun k => frame_name.l0 k at_ id (id.size : Int) (i : Int) s p b c fa) (id, s, p, b, c, fa)
  | 0, i, h, _ => Ev.step (fun k => by rw [frame_name.l0]) (Ev.iten (by omega) (Ev.some rfl))
  | d + 1, i, h, ha => by
    have w : wrap64 ((i : Int) + 1) = ((i + 1 : Nat) : Int) := by rw [w64 (by omega)]; omega
    rw [drop_cons id i (by omega), allL, Bool.and_eq_true] at ha
    refine Ev.step (fun k => by rw [frame_name.l0]) (Ev.itep (by omega) (Ev.itep (by omega) (Ev.itep (by omega) (Ev.bindc (letter_ev _) (Ev.itep ha.1 ?_)))))
    rw [w]
    exact name_loop at_ id s hi p b c fa d (i + 1) (by omega) ha.2
theorem name_ok {v : Int} {id s : ByteArray} (hn : namedB v id = true) {p b : Nat} {r : List Nat} (h : Rest s p (nats id ++ r)) (ok : Ok s b) (fa : Int) :
    Ev (fun k => frame_name.f k s (p : Int) (b : Int) 0 fa v) (id, s, ((p + id.size : Nat) : Int), (b : Int), 0, fa) := by
  obtain ⟨ha, hl, h0⟩ := named_facts hn
  have hle : id.size ≤ 4 := by have := vers hn; omega
  unfold frame_name.f
  refine Ev.bindc (rat ok h.2 0 fa) (Ev.bindc (letters_ev v) (Ev.bindc (rtake h ok fa _ (by rw [nats_len]; omega)) ?_))
  rw [strN_nats, nats_len]
  exact name_loop _ id s (by omega) _ _ _ _ id.size 0 (by omega) ha
theorem name_nil (at_ : Int) (s : ByteArray) (p b c fa : Int) : Ev (fun k => frame_name.l0 k at_ (⟨#[]⟩ : ByteArray) (((⟨#[]⟩ : ByteArray).size : Nat) : Int) 0 s p b c fa) ((⟨#[]⟩ : ByteArray), s, p, b, c, fa) :=
  Ev.step (fun k => by rw [frame_name.l0]) (Ev.iten (by decide) (Ev.some rfl))
theorem name_short {v : Int} {s : ByteArray} {p b : Nat} {l : List Nat} (h : Rest s p l) (ok : Ok s b) (fa : Int) (hn : (l.length : Int) < letsI v) :
    Ev (fun k => frame_name.f k s (p : Int) (b : Int) 0 fa v) ((⟨#[]⟩ : ByteArray), s, (p : Int), (b : Int), 1, (b : Int) + s.size) := by
  unfold frame_name.f
  refine Ev.bindc (rat ok h.2 0 fa) (Ev.bindc (letters_ev v) (Ev.bindc (rtake_short h ok fa _ hn) ?_))
  exact name_nil _ _ _ _ _ _
/-! ### the size -/
theorem size_ok {v : Int} (hv : v = 2 ∨ v = 3 ∨ v = 4) {n : Nat} (hn : n ≤ 100000) {s : ByteArray} {p b : Nat} {r : List Nat} (h : Rest s p (numL v n ++ r)) (ok : Ok s b) (fa : Int) :
    frame_size.f s (p : Int) (b : Int) 0 fa v = some ((n : Int), s, ((p + (numL v n).length : Nat) : Int), (b : Int), 0, fa) := by
  unfold frame_size.f
  unfold numL at h ⊢
  by_cases h2 : v = 2
  · rw [if_pos h2] at h
    rw [if_pos h2, if_pos h2, rbig h ok fa 3 (by simp [sm_len]) (by simp [sm_len]), Option.bind_some, bigN_sm, Nat.mod_eq_of_lt (by omega)]
    rw [w64 (by omega)]
  · rw [if_neg h2] at h
    rw [if_neg h2, if_neg h2]
    by_cases h3 : v = 3
    · rw [if_pos h3] at h
      rw [if_pos h3, if_pos h3, rbig h ok fa 4 (by simp [sm_len]) (by simp [sm_len]), Option.bind_some, bigN_sm, Nat.mod_eq_of_lt (by omega)]
      rw [w64 (by omega)]
    · rw [if_neg h3] at h
      rw [if_neg h3, if_neg h3, rsafe (by omega) h ok fa, Option.bind_some]; rfl
theorem size_short {v : Int} (hv : v = 2 ∨ v = 3 ∨ v = 4) {n : Nat} {s : ByteArray} {p b : Nat} {l : List Nat} (h : Rest s p l) (ok : Ok s b) (fa : Int) (hl : l.length < (numL v n).length) :
    frame_size.f s (p : Int) (b : Int) 0 fa v = some (0, s, (p : Int), (b : Int), 1, (b : Int) + s.size) := by
  unfold frame_size.f
  unfold numL at hl
  by_cases h2 : v = 2
  · rw [if_pos h2, List.length_reverse, sm_len] at hl
    rw [if_pos h2, show (3 : Int) = ((3 : Nat) : Int) from rfl, rbig_short h ok fa 3 (by decide) hl, Option.bind_some]; simp only [w0]
  · rw [if_neg h2] at hl
    rw [if_neg h2]
    by_cases h3 : v = 3
    · rw [if_pos h3, List.length_reverse, sm_len] at hl
      rw [if_pos h3, show (4 : Int) = ((4 : Nat) : Int) from rfl, rbig_short h ok fa 4 (by decide) hl, Option.bind_some]; simp only [w0]
    · rw [if_neg h3] at hl
      rw [if_neg h3, rsafe_short h ok fa hl, Option.bind_some]
theorem size_bad (v : Int) (s : ByteArray) (p b : Nat) (ok : Ok s b) (hp : p ≤ s.size) (fa : Int) : frame_size.f s (p : Int) (b : Int) 1 fa v = some (0, s, (p : Int), (b : Int), 1, fa) := by
  unfold frame_size.f
  by_cases h2 : v = 2
  · rw [if_pos h2, big_bad s p b ok hp, Option.bind_some]; simp only [w0]
  · rw [if_neg h2]
    by_cases h3 : v = 3
    · rw [if_pos h3, big_bad s p b ok hp, Option.bind_some]; simp only [w0]
    · rw [if_neg h3, safe_bad s p b ok hp, Option.bind_some]
/-! ### the content -/
theorem content_j1 {v : Int} {fo : Int} {bo : ByteArray} (hb : bo.size ≤ 1000) (at_ long : Int) (hlong : long < 0 ∨ long = (bo.size : Int)) (id : ByteArray) (st gr : Int) (b0 : ByteArray) (a0 : Int) {s : ByteArray} {p b : Nat} (h : Rest s p (bodL v fo bo)) (ok : Ok s b) :
    Ev (fun k => frame_Frame_content.j1 k v at_ long id st fo gr b0 a0 s (p : Int) (b : Int) 0 0) (0, 0, id, st, fo, gr, bo, a0) := by
  have tail : ∀ (pp : Int), Ev (fun k => frame_Frame_content.j2 k at_ long id st fo gr bo a0 s pp (b : Int) 0 0) (0, 0, id, st, fo, gr, bo, a0) := by
    intro pp
    have z : Ev (fun k => frame_Frame_content.j3 k at_ false id st fo gr bo a0 s pp (b : Int) 0 0) (0, 0, id, st, fo, gr, bo, a0) := by
      refine Ev.step (fun k => by rw [frame_Frame_content.j3]) ?_
      exact Ev.iten (by decide) (Ev.bindc rfl (Ev.some rfl))
    refine Ev.step (fun k => by rw [frame_Frame_content.j2]) ?_
    rcases hlong with hl | hl
    · exact Ev.iten (by omega) z
    · refine Ev.itep (by omega) ?_
      rw [hl, bne_self_eq_false]
      exact z
  have hz := bodL_len v fo bo
  refine Ev.step (fun k => by rw [frame_Frame_content.j1]) (Ev.bindc (rrest h ok 0) (Ev.bindc (spread_ev id st fo v) ?_))
  rw [bod_str]
  by_cases hs : sprB v fo = true
  · rw [if_pos hs]
    refine Ev.itep hs (Ev.bindc (drop_ev (putS bo) (by rw [size_putS]; have := cntS_le bo; omega)) ?_)
    rw [dropS_putS]
    exact tail _
  · rw [if_neg hs]
    exact Ev.iten hs (tail _)
theorem content_j0 {v : Int} {fo : Int} {bo : ByteArray} (hb : bo.size ≤ 1000) (id : ByteArray) (st gr : Int) (b0 : ByteArray) (a0 : Int) {s : ByteArray} {p b : Nat} (h : Rest s p (meaL v fo bo.size ++ bodL v fo bo)) (ok : Ok s b) :
    Ev (fun k => frame_Frame_content.j0 k v id st fo gr b0 a0 s (p : Int) (b : Int) 0 0) (0, 0, id, st, fo, gr, bo, a0) := by
  refine Ev.step (fun k => by rw [frame_Frame_content.j0]) (Ev.bindc (rat ok h.2 0 0) (Ev.bindc (measured_ev id st fo v) ?_))
  unfold meaL at h
  by_cases hm : meaB v fo = true
  · rw [if_pos hm] at h
    refine Ev.itep hm (Ev.bindc (rsafe (by omega) h ok 0) ?_)
    exact content_j1 hb _ _ (.inr rfl) id st gr b0 a0 h.next ok
  · rw [if_neg hm, List.nil_append] at h
    exact Ev.iten hm (content_j1 hb _ _ (.inl (by decide)) id st gr b0 a0 h ok)
theorem content_ok {v : Int} {fo : Int} {gr : Nat} (hg : gr < 256) (hgr : gr = 0 ∨ grpB v fo = true) {bo : ByteArray} (hb : bo.size ≤ 1000) (id : ByteArray) (st : Int) (b0 : ByteArray) (a0 : Int) (base : Nat) (hbase : base ≤ 140737488355328) :
    Ev (fun k => frame_Frame_content.f k id st fo 0 b0 a0 v (strN (datL v fo gr bo)) (base : Int)) (0, 0, id, st, fo, (gr : Int), bo, a0) := by
  have hl := datL_len v fo gr bo
  have h : Rest (strN (datL v fo gr bo)) 0 (datL v fo gr bo) := Rest.strN (datL_lt hg)
  have ok : Ok (strN (datL v fo gr bo)) base := ⟨by rw [size_strN]; omega, hbase⟩
  unfold frame_Frame_content.f
  refine Ev.bindc (show octet_Inner.f (strN (datL v fo gr bo)) (base : Int) = some (strN (datL v fo gr bo), ((0 : Nat) : Int), (base : Int), 0, 0) by
    unfold octet_Inner.f mx; rw [if_neg (by omega)]; rfl) (Ev.bindc (grouped_ev id st fo v) ?_)
  generalize strN (datL v fo gr bo) = s at h ok
  unfold datL grpL at h
  by_cases hgp : grpB v fo = true
  · rw [if_pos hgp] at h
    refine Ev.itep hgp (Ev.bindc (rbig h ok 0 1 rfl (by simp)) ?_)
    have e : (((bigN [gr] : Nat) : Int)) % 256 = (gr : Int) := by
      have : bigN [gr] = gr := by simp [bigN]
      rw [this]; omega
    simp only [e]
    exact content_j0 hb id st _ b0 a0 h.next ok
  · rw [if_neg hgp, List.nil_append] at h
    have : gr = 0 := hgr.elim (fun x => x) (fun x => absurd x hgp)
    subst this
    exact Ev.iten hgp (content_j0 hb id st _ b0 a0 h ok)
end Go.Proofs.YtlmhlmendnjmlaaDoor.Pl
