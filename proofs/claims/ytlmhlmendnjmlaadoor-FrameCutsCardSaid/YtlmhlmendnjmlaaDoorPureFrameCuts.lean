/- A frame that is cut off anywhere isn't read, and nothing is, if no byte of it is there; what is wrong is no place ahead of it: the plain law. -/
import Derived.Test.YtlmhlmendnjmlaaDoorPAllx12
import Derived.Test.YtlmhlmendnjmlaaDoorPAllx13
import Derived.Test.YtlmhlmendnjmlaaDoorPAllx14
import Derived.Test.YtlmhlmendnjmlaaDoorPAllx16
import Derived.Test.YtlmhlmendnjmlaaDoorPAllx17
import Derived.Test.YtlmhlmendnjmlaaDoorPAllx24
import Derived.Test.YtlmhlmendnjmlaaDoorPAllx8
import Derived.Test.YtlmhlmendnjmlaaDoorLfr2
namespace Go.Proofs.YtlmhlmendnjmlaaDoor.Pure
open Go.RowKit Go.Proofs.YtlmhlmendnjmlaaDoor.PAll Go.Proofs.YtlmhlmendnjmlaaDoor.Pl Go.Proofs.YtlmhlmendnjmlaaDoorW.PrintWords Go.Proofs.YtlmhlmendnjmlaaDoorW.PrintLast
set_option linter.unusedVariables false
set_option linter.unusedSimpArgs false

theorem awake13 : Ev (fun k => diacriticlaw13_awake.f k) true := Ev.of diacriticlaw13_awake.mono (k := 60) (by kernel_rfl)
theorem split_pre {pre suf x y : List Nat} (h : pre ++ suf = x ++ y) : (∃ z, z ≠ [] ∧ x = pre ++ z) ∨ ∃ pre', pre = x ++ pre' ∧ y = pre' ++ suf := by
  rcases List.append_eq_append_iff.mp h with ⟨z, h1, h2⟩ | ⟨c, h1, h2⟩
  · cases z with
    | nil => exact .inr ⟨[], by rw [h1]; simp, by rw [h2]; simp⟩
    | cons a z => exact .inl ⟨a :: z, by simp, h1⟩
  · exact .inr ⟨c, h1, h2⟩
section
variable (v : Int) (s : ByteArray) (p b : Nat) (ok : Ok s b) (hp : p ≤ s.size) (hok : b + s.size ≤ 140737488355328)
include ok hp
theorem j3_bad (n fa : Int) (id : ByteArray) (a1 a2 a3 a0 : Int) (b0 : ByteArray) :
    Ev (fun k => frame_Parse.j3 k v n s (p : Int) (b : Int) 1 fa id a1 a2 a3 b0 a0) ((⟨#[]⟩ : ByteArray), 0, 0, 0, (⟨#[]⟩ : ByteArray), 0, false, s, (p : Int), (b : Int), 1, fa) := by
  refine Ev.step (fun k => by rw [frame_Parse.j3]) (Ev.bindc (rat ok hp 1 fa) (Ev.bindc (take_bad s p b ok hp fa n) ?_))
  refine Ev.bindc (show octet_In_Fault.f _ _ _ _ _ = some (1, fa, s, (p : Int), (b : Int), 1, fa) from rfl) ?_
  refine Ev.bindc (show api_Fault_Bad.f 1 fa = some true from rfl) ?_
  exact Ev.itep rfl (Ev.some rfl)
theorem j1_bad (n fa : Int) (id : ByteArray) (a1 a2 a3 a0 : Int) (b0 : ByteArray) :
    Ev (fun k => frame_Parse.j1 k v false n s (p : Int) (b : Int) 1 fa id a1 a2 a3 b0 a0) ((⟨#[]⟩ : ByteArray), 0, 0, 0, (⟨#[]⟩ : ByteArray), 0, false, s, (p : Int), (b : Int), 1, fa) := by
  have e2 : Ev (fun k => frame_Parse.j2 k v n false s (p : Int) (b : Int) 1 fa id a1 a2 a3 b0 a0) ((⟨#[]⟩ : ByteArray), 0, 0, 0, (⟨#[]⟩ : ByteArray), 0, false, s, (p : Int), (b : Int), 1, fa) := by
    refine Ev.step (fun k => by rw [frame_Parse.j2]) ?_
    exact Ev.iten (by decide) (j3_bad v s p b ok hp n fa id a1 a2 a3 a0 b0)
  refine Ev.step (fun k => by rw [frame_Parse.j1]) ?_
  by_cases h4 : v = 4
  · exact Ev.itep h4 e2
  · exact Ev.iten h4 e2
/-- Behind a size that could not be read. -/
theorem flags_bad (n fa : Int) (id : ByteArray) (a0 : Int) :
    Ev (fun k => if v > 2 then ((octet_In_Big.f s (p : Int) (b : Int) 1 fa 1).bind fun bt352 => ((octet_In_Big.f bt352.2.1 bt352.2.2.1 bt352.2.2.2.1 bt352.2.2.2.2.1 bt352.2.2.2.2.2 1).bind fun bt358 => (frame_Parse.j1 k v false n bt358.2.1 bt358.2.2.1 bt358.2.2.2.1 bt358.2.2.2.2.1 bt358.2.2.2.2.2 id ((bt352.1) % 256) ((bt358.1) % 256) 0 (⟨#[]⟩ : ByteArray) a0))) else (frame_Parse.j1 k v false n s (p : Int) (b : Int) 1 fa id 0 0 0 (⟨#[]⟩ : ByteArray) a0)) ((⟨#[]⟩ : ByteArray), 0, 0, 0, (⟨#[]⟩ : ByteArray), 0, false, s, (p : Int), (b : Int), 1, fa) := by
  by_cases h : v > 2
  · exact Ev.itep h (Ev.bindc (big_bad s p b ok hp fa 1) (Ev.bindc (big_bad s p b ok hp fa 1) (j1_bad v s p b ok hp n fa id _ _ _ a0 _)))
  · exact Ev.iten h (j1_bad v s p b ok hp n fa id _ _ _ a0 _)
end
theorem j1_short {v : Int} {s : ByteArray} {p b : Nat} {l : List Nat} (h : Pl.Rest s p l) (ok : Ok s b) (n : Int) (hn : (l.length : Int) < n) (id : ByteArray) (a1 a2 a3 a0 : Int) (b0 : ByteArray) :
    Ev (fun k => frame_Parse.j1 k v false n s (p : Int) (b : Int) 0 0 id a1 a2 a3 b0 a0) ((⟨#[]⟩ : ByteArray), 0, 0, 0, (⟨#[]⟩ : ByteArray), 0, false, s, (p : Int), (b : Int), 1, (b : Int) + s.size) := by
  have e3 : Ev (fun k => frame_Parse.j3 k v n s (p : Int) (b : Int) 0 0 id a1 a2 a3 b0 a0) ((⟨#[]⟩ : ByteArray), 0, 0, 0, (⟨#[]⟩ : ByteArray), 0, false, s, (p : Int), (b : Int), 1, (b : Int) + s.size) := by
    refine Ev.step (fun k => by rw [frame_Parse.j3]) (Ev.bindc (rat ok h.2 0 0) (Ev.bindc (rtake_short h ok 0 n hn) ?_))
    refine Ev.bindc (show octet_In_Fault.f _ _ _ _ _ = some (1, (b : Int) + s.size, s, (p : Int), (b : Int), 1, (b : Int) + s.size) from rfl) ?_
    refine Ev.bindc (show api_Fault_Bad.f 1 _ = some true from rfl) ?_
    exact Ev.itep rfl (Ev.some rfl)
  have e2 : Ev (fun k => frame_Parse.j2 k v n false s (p : Int) (b : Int) 0 0 id a1 a2 a3 b0 a0) ((⟨#[]⟩ : ByteArray), 0, 0, 0, (⟨#[]⟩ : ByteArray), 0, false, s, (p : Int), (b : Int), 1, (b : Int) + s.size) := by
    refine Ev.step (fun k => by rw [frame_Parse.j2]) ?_
    exact Ev.iten (by decide) e3
  refine Ev.step (fun k => by rw [frame_Parse.j1]) ?_
  by_cases h4 : v = 4
  · exact Ev.itep h4 e2
  · exact Ev.iten h4 e2
theorem parse_cut {v : Int} {id : ByteArray} {st fo gr : Nat} (hs : st < 256) (hf : fo < 256) (hg : gr < 256) (hc : chkF v id st fo gr = 0) {bo : ByteArray} (hb : bo.size ≤ 1000) {pre suf : List Nat} (hpre : pre ≠ []) (hsuf : suf ≠ []) (hcut : frmL v id st fo gr bo = pre ++ suf) {s : ByteArray} (h : Pl.Rest s 0 pre) (hsz : s.size ≤ 100000) :
    ∃ p : Nat, Ev (fun k => frame_Parse.f k v s 0 7 0 0 false) ((⟨#[]⟩ : ByteArray), 0, 0, 0, (⟨#[]⟩ : ByteArray), 0, false, s, (p : Int), 7, 1, 7 + s.size) := by
  obtain ⟨hn, hz, hgr⟩ := chk_zero hc
  obtain ⟨ha, hl, h0⟩ := named_facts hn
  have hv := vers hn
  have hv3 : v = 2 ∨ v = 3 ∨ v = 4 := by omega
  have hd := datL_len v fo gr bo
  have hidn := nats_len id
  have ok : Ok s 7 := ⟨by omega, by omega⟩
  have hsl := List.length_pos_iff.mpr hsuf
  have e : pre ++ suf = nats id ++ (numL v (datL v fo gr bo).length ++ (flgL v st fo ++ datL v fo gr bo)) := by rw [← hcut, frmL]
  -- the first sign
  obtain ⟨c, t, hct⟩ : ∃ c t, nats id = c :: t := by
    cases hx : nats id with
    | nil => rw [hx] at hidn; simp at hidn; omega
    | cons c t => exact ⟨c, t, rfl⟩
  obtain ⟨c', t', hpt⟩ : ∃ c t, pre = c :: t := by
    cases hx : pre with
    | nil => exact absurd hx hpre
    | cons c t => exact ⟨c, t, rfl⟩
  have hcc : c' = c := by
    have := e
    rw [hct, hpt] at this
    simp only [List.cons_append, List.cons.injEq] at this
    exact this.1
  subst hcc
  have hcl : letB (c' : Int) = true := by
    rw [bytes_ints, hct] at ha
    simp only [ints, List.map_cons, allL, Bool.and_eq_true] at ha
    exact ha.1
  have hpk : Pl.Rest s 0 ([c'] ++ t') := by rw [hpt] at h; exact h
  have hcn : c' < 256 := h.lt c' (by rw [hpt]; simp)
  have hbt : bt (strN [c']) 0 = (c' : Int) := bt_strN [c'] (by intro x hx; simp at hx; omega) 0 (by simp)
  have start : ∀ (p : Nat), Ev (fun k => frame_Parse.j0 k v false false s 0 7 0 0) ((⟨#[]⟩ : ByteArray), 0, 0, 0, (⟨#[]⟩ : ByteArray), 0, false, s, (p : Int), 7, 1, 7 + s.size) → Ev (fun k => frame_Parse.f k v s 0 7 0 0 false) ((⟨#[]⟩ : ByteArray), 0, 0, 0, (⟨#[]⟩ : ByteArray), 0, false, s, (p : Int), 7, 1, 7 + s.size) := by
    intro p hj
    unfold frame_Parse.f
    refine Ev.bindc (rpeek (p := 0) (b := 7) hpk ok 0 1 rfl) (Ev.iten ?_ (Ev.itep (by rw [size_strN]; simp) ?_))
    · intro hx
      rw [tl_nil, size_strN] at hx
      simp at hx
    rw [hbt]
    refine Ev.iten (let_pos hcl) (Ev.bindc (letters_ev v) ?_)
    have hl0 : (letsI v == 0) = false := by rw [beq_eq_false_iff_ne]; omega
    rw [hl0]
    exact hj
  have at0 := rat (p := 0) (b := 7) ok (Nat.zero_le _) 0 0
  rcases split_pre e with ⟨z, hz0, hx⟩ | ⟨pre1, hx, e1⟩
  · have hzl := List.length_pos_iff.mpr hz0
    have hlen : pre.length + z.length = id.size := by rw [← hidn, hx, List.length_append]
    refine ⟨0, start 0 ?_⟩
    refine Ev.step (fun k => by rw [frame_Parse.j0]) ?_
    refine Ev.iten (by decide) (Ev.bindc at0 (Ev.bind (name_short (p := 0) (b := 7) h ok 0 (by omega)) (Ev.bindc (size_bad v s 0 7 ok (Nat.zero_le _) _) ?_)))
    exact flags_bad v s 0 7 ok (Nat.zero_le _) _ _ _ _
  subst hx
  have h1 := h.next
  rw [hidn] at h1
  have nameok := name_ok (p := 0) (b := 7) hn h ok 0
  rcases split_pre e1.symm with ⟨z, hz0, hx⟩ | ⟨pre2, hx, e2⟩
  · have hzl := List.length_pos_iff.mpr hz0
    have hlen : pre1.length + z.length = (numL v (datL v fo gr bo).length).length := by rw [hx, List.length_append]
    refine ⟨0 + id.size, start _ ?_⟩
    refine Ev.step (fun k => by rw [frame_Parse.j0]) ?_
    refine Ev.iten (by decide) (Ev.bindc at0 (Ev.bind nameok (Ev.bindc (size_short hv3 (n := (datL v fo gr bo).length) h1 ok 0 (by omega)) ?_)))
    exact flags_bad v s _ 7 ok h1.2 _ _ _ _
  subst hx
  have h2 := h1.next
  have sizeok := size_ok (b := 7) hv3 (by omega) h1 ok 0
  have main : ∀ (p : Nat), Ev (fun k => if v > 2 then ((octet_In_Big.f s ((0 + id.size + (numL v (datL v fo gr bo).length).length : Nat) : Int) ((7 : Nat) : Int) 0 0 1).bind fun bt352 => ((octet_In_Big.f bt352.2.1 bt352.2.2.1 bt352.2.2.2.1 bt352.2.2.2.2.1 bt352.2.2.2.2.2 1).bind fun bt358 => (frame_Parse.j1 k v false ((datL v fo gr bo).length : Int) bt358.2.1 bt358.2.2.1 bt358.2.2.2.1 bt358.2.2.2.2.1 bt358.2.2.2.2.2 id ((bt352.1) % 256) ((bt358.1) % 256) 0 (⟨#[]⟩ : ByteArray) ((7 + 0 : Nat) : Int)))) else (frame_Parse.j1 k v false ((datL v fo gr bo).length : Int) s ((0 + id.size + (numL v (datL v fo gr bo).length).length : Nat) : Int) ((7 : Nat) : Int) 0 0 id 0 0 0 (⟨#[]⟩ : ByteArray) ((7 + 0 : Nat) : Int))) ((⟨#[]⟩ : ByteArray), 0, 0, 0, (⟨#[]⟩ : ByteArray), 0, false, s, (p : Int), 7, 1, 7 + s.size) →
      Ev (fun k => frame_Parse.j0 k v false false s 0 7 0 0) ((⟨#[]⟩ : ByteArray), 0, 0, 0, (⟨#[]⟩ : ByteArray), 0, false, s, (p : Int), 7, 1, 7 + s.size) := by
    intro p hj
    refine Ev.step (fun k => by rw [frame_Parse.j0]) ?_
    exact Ev.iten (by decide) (Ev.bindc at0 (Ev.bind nameok (Ev.bindc sizeok hj)))
  by_cases hv2 : v = 2
  · rw [flgL, if_pos hv2, List.nil_append] at e2
    have hlen := congrArg List.length e2
    rw [List.length_append] at hlen
    refine ⟨_, start _ (main _ (Ev.iten (by omega) (j1_short h2 ok _ (by omega) id _ _ _ _ _)))⟩
  · rw [flgL, if_neg hv2] at e2
    have hv23 : v > 2 := by omega
    match pre2, e2, h2, sizeok, nameok, h1 with
    | [], _, h2, _, _, _ =>
      exact ⟨_, start _ (main _ (Ev.itep hv23 (Ev.bindc (rbig_short h2 ok 0 1 (by decide) (by simp)) (Ev.bindc (big_bad s _ 7 ok h2.2 _ 1) (j1_bad v s _ 7 ok h2.2 _ _ id _ _ _ _ _)))))⟩
    | [x], _, h2, _, _, _ =>
      have h3 : Pl.Rest s (0 + id.size + (numL v (datL v fo gr bo).length).length) ([x] ++ []) := h2
      have h4 := h3.next
      exact ⟨_, start _ (main _ (Ev.itep hv23 (Ev.bindc (rbig h3 ok 0 1 rfl (by simp)) (Ev.bindc (rbig_short h4 ok 0 1 (by decide) (by simp)) (j1_bad v s _ 7 ok h4.2 _ _ id _ _ _ _ _)))))⟩
    | x :: y :: pre3, e2, h2, _, _, _ =>
      have h3 : Pl.Rest s (0 + id.size + (numL v (datL v fo gr bo).length).length) ([x] ++ ([y] ++ pre3)) := h2
      have h4 := h3.next
      have h5 := h4.next
      have hlen := congrArg List.length e2
      simp only [List.length_append, List.length_cons, List.length_nil] at hlen
      exact ⟨_, start _ (main _ (Ev.itep hv23 (Ev.bindc (rbig h3 ok 0 1 rfl (by simp)) (Ev.bindc (rbig h4 ok 0 1 rfl (by simp)) (j1_short h5 ok _ (by omega) id _ _ _ _ _)))))⟩
theorem cuts_over (v x : Int) (id : ByteArray) (st fo gr at_ : Int) (bo : ByteArray) : Ev (fun k => diacriticlaw13_FrameCuts.j0 k v x true id st fo gr bo at_) true :=
  Ev.step (fun k => by rw [diacriticlaw13_FrameCuts.j0]) (Ev.itep rfl (Ev.bind awake13 (Ev.some rfl)))
theorem FrameCuts : diacriticlaw13_FrameCuts.Pure := by
  intro v id st fo gr bo at_ x h0 h1 h2 h3 h4 h5 h6 h7
  have r1 := wf_u8 h2
  have r2 := wf_u8 h3
  have r3 := wf_u8 h4
  have r4 := wf_u16 h7
  obtain ⟨st, rfl⟩ := Int.eq_ofNat_of_zero_le r1.1
  obtain ⟨fo, rfl⟩ := Int.eq_ofNat_of_zero_le r2.1
  obtain ⟨gr, rfl⟩ := Int.eq_ofNat_of_zero_le r3.1
  obtain ⟨m, rfl⟩ := Int.eq_ofNat_of_zero_le r4.1
  apply Ev.rounds
  unfold diacriticlaw13_FrameCuts.f
  by_cases hz : (bo.size : Int) > 1000
  · exact Ev.itep hz (cuts_over _ _ _ _ _ _ _ _)
  refine Ev.iten hz ?_
  by_cases hz2 : (id.size : Int) > 100
  · rw [decide_eq_true hz2]; exact cuts_over _ _ _ _ _ _ _ _
  rw [decide_eq_false hz2]
  refine Ev.step (fun k => by rw [diacriticlaw13_FrameCuts.j0]) (Ev.iten (by decide) ?_)
  rcases chk_cases v id st fo gr with hc | hc
  case inr => exact Ev.bind (print_bad v id (by omega) st fo gr bo at_ hc) (Ev.bindc rfl (Ev.itep (by decide) (Ev.bind awake13 (Ev.some rfl))))
  refine Ev.bind (print_ok v id (by omega) st fo gr (by omega) (by omega) (by omega) bo at_ (by omega) hc) (Ev.bindc rfl (Ev.iten (by simp) ?_))
  dsimp only
  have hlt := frmL_lt (v := v) (id := id) (st := st) (fo := fo) (gr := gr) (bo := bo) (by omega) (by omega) (by omega)
  have hll := frmL_len v id st fo gr bo
  obtain ⟨hn, -, -⟩ := chk_zero hc
  have hidp := (named_facts hn).2.2
  have hpos : id.size ≤ (frmL v id st fo gr bo).length := by rw [frmL, List.length_append, nats_len]; omega
  have hm : Int.tmod (wrap64 (m : Int)) ((strN (frmL v id st fo gr bo)).size : Int) = ((m % (frmL v id st fo gr bo).length : Nat) : Int) := by
    rw [w64 (by omega), size_strN]; rfl
  have hml : m % (frmL v id st fo gr bo).length < (frmL v id st fo gr bo).length := Nat.mod_lt _ (by omega)
  rw [hm]
  generalize m % (frmL v id st fo gr bo).length = n at hml
  refine Ev.iten (by rw [tl_nil, size_strN]; omega) (Ev.iten (by rw [size_strN]; omega) (Ev.itep (by omega) (Ev.itep (by rw [size_strN]; omega) ?_)))
  have hext : (strN (frmL v id st fo gr bo)).extract 0 ((n : Nat) : Int).toNat = strN ((frmL v id st fo gr bo).take n) := by
    rw [Int.toNat_natCast, ext_strN _ hlt, List.drop_zero, Nat.sub_zero]
  rw [hext]
  have htl : ((frmL v id st fo gr bo).take n).length = n := by rw [List.length_take]; omega
  have hr : Pl.Rest (strN ((frmL v id st fo gr bo).take n)) 0 ((frmL v id st fo gr bo).take n) := Pl.Rest.strN (fun y hy => hlt y (List.mem_of_mem_take hy))
  have hrs := size_strN ((frmL v id st fo gr bo).take n)
  refine Ev.bindc (show octet_Inner.f (strN ((frmL v id st fo gr bo).take n)) 7 = some (strN ((frmL v id st fo gr bo).take n), 0, 7, 0, 0) from rfl) ?_
  by_cases hn0 : n = 0
  · subst hn0
    have hpz : Ev (fun k => frame_Parse.f k v (strN ((frmL v id st fo gr bo).take 0)) 0 7 0 0 false) ((⟨#[]⟩ : ByteArray), 0, 0, 0, (⟨#[]⟩ : ByteArray), 0, false, strN ((frmL v id st fo gr bo).take 0), 0, 7, 0, 0) := by
      unfold frame_Parse.f
      refine Ev.bindc (rpeek_short (p := 0) (b := 7) hr ⟨by omega, by omega⟩ 0 1 (by rw [htl]; decide)) (Ev.itep (by rw [tl_nil, hrs, htl]) ?_)
      refine Ev.step (fun k => by rw [frame_Parse.j0]) ?_
      exact Ev.itep rfl (Ev.some rfl)
    refine Ev.bind hpz (Ev.bind awake13 (Ev.itep rfl (Ev.iten (by simp) ?_)))
    refine Ev.bindc rfl ?_
    refine Ev.bindc (show api_Fault_Bad.f 0 0 = some false from rfl) ?_
    exact Ev.itep (by decide) (Ev.itep (by decide) (Ev.some rfl))
  · obtain ⟨p, hpz⟩ := parse_cut (by omega) (by omega) (by omega) hc (by omega) (pre := (frmL v id st fo gr bo).take n) (suf := (frmL v id st fo gr bo).drop n) (by intro hx; rw [hx] at htl; simp at htl; omega) (by intro hx; have := congrArg List.length hx; simp at this; omega) (List.take_append_drop n _).symm hr (by omega)
    refine Ev.bind hpz (Ev.bind awake13 (Ev.itep rfl (Ev.iten (by simp) ?_)))
    refine Ev.bindc (show octet_In_Fault.f _ _ _ _ _ = some (1, 7 + ((strN ((frmL v id st fo gr bo).take n)).size : Int), strN ((frmL v id st fo gr bo).take n), (p : Int), 7, 1, 7 + ((strN ((frmL v id st fo gr bo).take n)).size : Int)) from rfl) ?_
    refine Ev.bindc (show api_Fault_Bad.f 1 _ = some true from rfl) ?_
    refine Ev.itep (by rw [decide_eq_true (by omega)]; rfl) (Ev.iten (by omega) (Ev.bindc rfl (Ev.some ?_)))
    rw [w64 (by omega), hrs, htl]
    simp
end Go.Proofs.YtlmhlmendnjmlaaDoor.Pure
