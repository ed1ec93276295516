/- Any page's bytes, or what is wrong with it, are the document's; what is printed is read as it was: the plain law. -/
import Derived.Test.YtmfamkkikiglmaaPAllx11
import Derived.Test.YtmfamkkikiglmaaPAllx12
import Derived.Test.YtmfamkkikiglmaaPAllx13
import Derived.Test.YtmfamkkikiglmaaPAllx14
import Derived.Test.YtmfamkkikiglmaaPAllx15
import Derived.Test.YtmfamkkikiglmaaPAllx16
import Derived.Test.YtmfamkkikiglmaaLpage
namespace Go.Proofs.Ytmfamkkikiglmaa.Pure
open Go.RowKit Go.Proofs.Ytmfamkkikiglmaa.PAll Go.Proofs.Ytmfamkkikiglmaa.Pl Go.Proofs.YtmfamkkikiglmaaW.PrintWords Go.Proofs.YtmfamkkikiglmaaW.PrintLast
set_option linter.unusedSimpArgs false

theorem awake17 : Ev (fun k => diacriticlaw17_awake.f k) true := Ev.of diacriticlaw17_awake.mono (k := 100) (by kernel_rfl)
theorem rlong_loop (s : ByteArray) (hs : s.size ≤ 1000000000) : ∀ (d i : Nat), i + d = s.size →
    Ev (fun k => diacriticref17_Long.l0 k s ((longN ((nats s).take i) : Nat) : Int) (i : Int)) ((longN (nats s) : Nat) : Int)
  | 0, i, hi => by
    refine Ev.step (fun k => by rw [diacriticref17_Long.l0]) (Ev.iten (by omega) (Ev.some ?_))
    rw [List.take_of_length_le (by rw [nats_len]; omega)]
  | d + 1, i, hi => by
    obtain ⟨c, hc, hb, ht⟩ := take_snocN s i (by omega)
    have hn := longN_le ((nats s).take (i + 1)) (fun x hx => nats_lt s x (List.mem_of_mem_take hx))
    have hn2 : longN ((nats s).take (i + 1)) = longN ((nats s).take i) + c := by rw [ht]; simp [longN]
    rw [List.length_take, nats_len] at hn
    refine Ev.step (fun k => by rw [diacriticref17_Long.l0]) ?_
    refine Ev.itep (by omega) (Ev.itep (by omega) ?_)
    rw [hb, w64 (n := (c : Int)) (by omega), w64 (by omega), show wrap64 ((i : Int) + 1) = ((i + 1 : Nat) : Int) by rw [w64 (by omega)]; omega]
    have e : ((longN ((nats s).take i) : Nat) : Int) + (c : Int) = ((longN ((nats s).take (i + 1)) : Nat) : Int) := by omega
    rw [e]
    exact rlong_loop s hs d (i + 1) (by omega)
theorem rcheck_ev (a b c d : Int) (la bo : ByteArray) (hs : la.size ≤ 1000000000) : Ev (fun k => diacriticref17_Check.f k a b c d la bo) ((chkN la bo : Nat) : Int) := by
  unfold diacriticref17_Check.f chkN
  by_cases h : la.size > 255
  · rw [if_pos h]
    exact Ev.itep (by omega) (Ev.some rfl)
  · rw [if_neg h]
    refine Ev.iten (by omega) (Ev.bind (rlong_loop la hs la.size 0 (by omega)) ?_)
    by_cases h2 : longN (nats la) = bo.size
    · rw [if_pos h2]; exact Ev.itep (by omega) (Ev.some rfl)
    · rw [if_neg h2]; exact Ev.iten (by omega) (Ev.some rfl)
theorem rsmall_str (n : Nat) (hn : n < 18446744073709551616) (d : Nat) (hd : d ≤ 8) : Ev (fun k => diacriticref01_Small.f k (n : Int) (d : Int)) (strN (sm n d)) := by
  have := refsmall_ev n hn (d : Int)
  rwa [show clamp (d : Int) = d by unfold clamp; omega] at this
theorem rbig_str (n : Nat) (hn : n < 18446744073709551616) (d : Nat) (hd : d ≤ 8) : Ev (fun k => diacriticref01_Big.f k (n : Int) (d : Int)) (strN (sm n d).reverse) := by
  have := refbig_ev n hn (d : Int)
  rwa [show clamp (d : Int) = d by unfold clamp; omega] at this
theorem with_ev {fl po se nu : Nat} (hf : fl < 256) (hp : po < 18446744073709551616) (hs : se < 4294967296) (hn : nu < 4294967296) (la bo : ByteArray) (hl : la.size ≤ 255) (hb : bo.size ≤ 100000000) (l : List Nat) (hz : l.length = 4) :
    Ev (fun k => diacriticref17_with.f k (fl : Int) (po : Int) (se : Int) (nu : Int) la bo (strN l)) (strN (hdL fl po se nu ++ (l ++ bkL la bo))) := by
  have r1 : (sm fl 1).reverse = [fl] := by
    simp only [sm, List.reverse_cons, List.reverse_nil, List.nil_append]
    rw [Nat.mod_eq_of_lt hf]
  have r2 : (sm la.size 1).reverse = [la.size] := by
    simp only [sm, List.reverse_cons, List.reverse_nil, List.nil_append]
    rw [Nat.mod_eq_of_lt (by omega)]
  have e5 : (⟨#[79, 103, 103, 83, 0]⟩ : ByteArray) = strN [79, 103, 103, 83, 0] := rfl
  unfold diacriticref17_with.f
  rw [wu64 (n := (fl : Int)) (by omega), wu64 (n := (la.size : Int)) (by omega), e5]
  have z5 : ([79, 103, 103, 83, 0] : List Nat).length = 5 := rfl
  refine Ev.bind (rbig_str fl (by omega) 1 (by decide)) ?_
  rw [r1]
  refine Ev.itep (by rw [size_strN]; simp) ?_
  refine Ev.bind (rsmall_str po hp 8 (by decide)) (Ev.itep (by simp only [size_app, size_strN, sm_len, z5, List.length_cons, List.length_nil]; omega) ?_)
  refine Ev.bind (rsmall_str se (by omega) 4 (by decide)) (Ev.itep (by simp only [size_app, size_strN, sm_len, z5, List.length_cons, List.length_nil]; omega) ?_)
  refine Ev.bind (rsmall_str nu (by omega) 4 (by decide)) (Ev.itep (by simp only [size_app, size_strN, sm_len, z5, List.length_cons, List.length_nil]; omega) ?_)
  refine Ev.itep (by simp only [size_app, size_strN, sm_len, z5, List.length_cons, List.length_nil, hz]; omega) ?_
  refine Ev.bind (rbig_str la.size (by omega) 1 (by decide)) ?_
  rw [r2]
  refine Ev.itep (by simp only [size_app, size_strN, sm_len, z5, List.length_cons, List.length_nil, hz]; omega) ?_
  refine Ev.itep (by simp only [size_app, size_strN, sm_len, z5, List.length_cons, List.length_nil, hz]; omega) ?_
  refine Ev.itep (by simp only [size_app, size_strN, sm_len, z5, List.length_cons, List.length_nil, hz]; omega) (Ev.some ?_)
  have el : la = strN (nats la) := (strN_nats la).symm
  have eb : bo = strN (nats bo) := (strN_nats bo).symm
  rw [← strN_app, ← strN_app, ← strN_app, ← strN_app, ← strN_app, ← strN_app]
  conv => lhs; rw [eb]; lhs; rw [el]
  rw [← strN_app, ← strN_app]
  congr 1
  simp [hdL, bkL, strN_nats]
theorem rprint_ev {fl po se nu : Nat} (hf : fl < 256) (hp : po < 18446744073709551616) (hs : se < 4294967296) (hn : nu < 4294967296) (la bo : ByteArray) (hl : la.size ≤ 255) (hb : bo.size ≤ 100000000) :
    Ev (fun k => diacriticref17_Print.f k (fl : Int) (po : Int) (se : Int) (nu : Int) la bo) (strN (pgL fl po se nu la bo)) := by
  have hz : (hdL fl po se nu ++ ([0, 0, 0, 0] ++ bkL la bo)).length ≤ 200000000 := by
    rw [List.length_append, hdL_len]; simp [bkL, nats_len]; omega
  have hlt : ∀ x ∈ hdL fl po se nu ++ ([0, 0, 0, 0] ++ bkL la bo), x < 256 := by
    intro x hx
    rw [List.mem_append, List.mem_append] at hx
    rcases hx with h | h | h
    · exact hdL_lt hf x h
    · simp at h; omega
    · exact bkL_lt hl x h
  have e0 : (⟨#[0, 0, 0, 0]⟩ : ByteArray) = strN [0, 0, 0, 0] := rfl
  unfold diacriticref17_Print.f
  rw [e0]
  refine Ev.bind (with_ev hf hp hs hn la bo hl hb [0, 0, 0, 0] rfl) ?_
  refine Ev.bind (refof_ev 0 (by decide) _ (by rw [size_strN]; omega)) ?_
  rw [nats_strN hlt]
  have hs4 := sumP_lt (po := po) (se := se) (nu := nu) (bo := bo) hf hl
  refine Ev.bind (rsmall_str (sumP fl po se nu la bo) (by omega) 4 (by decide)) ?_
  exact Ev.bind (with_ev hf hp hs hn la bo hl hb _ (sm_len _ 4)) (Ev.some rfl)

theorem has_eq (a b : Int) (ha : 0 ≤ a ∧ a ≤ 255) (hb : 0 ≤ b ∧ b ≤ 255) : (Go.bits .and .u8 a b == b) = (Go.bits .or .u8 a b == a) := by
  obtain ⟨x, rfl⟩ := Int.eq_ofNat_of_zero_le ha.1
  obtain ⟨y, rfl⟩ := Int.eq_ofNat_of_zero_le hb.1
  have hx : x < 2 ^ 8 := by omega
  have hy : y < 2 ^ 8 := by omega
  have := bits_nat .u8 8 (by decide) (fun n h0 h1 => wu8 (by omega)) x y hx hy
  rw [this.1, this.2]
  have key : (x &&& y = y) ↔ (x ||| y = x) := by
    constructor
    · intro h
      apply Nat.eq_of_testBit_eq
      intro i
      have hi : (x &&& y).testBit i = y.testBit i := by rw [h]
      rw [Nat.testBit_and] at hi
      rw [Nat.testBit_or]
      cases hX : x.testBit i <;> cases hY : y.testBit i <;> simp_all
    · intro h
      apply Nat.eq_of_testBit_eq
      intro i
      have hi : (x ||| y).testBit i = x.testBit i := by rw [h]
      rw [Nat.testBit_or] at hi
      rw [Nat.testBit_and]
      cases hX : x.testBit i <;> cases hY : y.testBit i <;> simp_all
  rw [Bool.eq_iff_iff, beq_iff_eq, beq_iff_eq]
  constructor
  · intro h; have := key.mp (Int.ofNat.inj h); rw [this]
  · intro h; have := key.mpr (Int.ofNat.inj h); rw [this]
theorem prints_over (x : Int) (a b c d : Int) (la bo : ByteArray) : Ev (fun k => diacriticlaw17_PagePrints.j0 k x true a b c d la bo) true :=
  Ev.step (fun k => by rw [diacriticlaw17_PagePrints.j0]) (Ev.itep rfl (Ev.bind awake17 (Ev.some rfl)))
theorem opens_tail (x5 : ByteArray) (x7 a b c d : Int) (la bo : ByteArray) (hl : la.size ≤ 400) (h : Ev (fun k => diacriticlaw17_PagePrints.j2 k x5 x7 false a b c d la bo) true) :
    Ev (fun k => diacriticlaw17_PagePrints.j1 k x5 x7 false a b c d la bo) true := by
  refine Ev.step (fun k => by rw [diacriticlaw17_PagePrints.j1]) (Ev.iten (by decide) ?_)
  unfold page_Page_Open.f
  by_cases h0 : la.size = 0
  · rw [if_pos ((tl_nil la).mpr h0)]
    exact Ev.bindc rfl (Ev.iten (by omega) h)
  · rw [if_neg (fun e => h0 ((tl_nil la).mp e))]
    have w1 : wrap64 ((la.size : Int) - 1) = (la.size : Int) - 1 := w64 (by omega)
    rw [w1, if_pos (by omega), if_pos (by omega)]
    refine Ev.bindc rfl (Ev.itep (by omega) (Ev.itep (by omega) (Ev.itep (by omega) ?_)))
    rw [show ((bt la ((la.size : Int) - 1) == 255) != (bt la ((la.size : Int) - 1) == 255)) = false by simp]
    exact h
theorem PagePrints : diacriticlaw17_PagePrints.Pure := by
  intro a b c d la bo x h0 h1 h2 h3 h4 h5 h6
  have r0 := wf_u8 h0
  have r1 := wf_u64 h1
  have r2 := wf_u32 h2
  have r3 := wf_u32 h3
  have r6 := wf_u8 h6
  obtain ⟨fl, rfl⟩ := Int.eq_ofNat_of_zero_le r0.1
  obtain ⟨po, rfl⟩ := Int.eq_ofNat_of_zero_le r1.1
  obtain ⟨se, rfl⟩ := Int.eq_ofNat_of_zero_le r2.1
  obtain ⟨nu, rfl⟩ := Int.eq_ofNat_of_zero_le r3.1
  apply Ev.rounds
  unfold diacriticlaw17_PagePrints.f
  by_cases hc : (la.size : Int) > 400
  · exact Ev.itep hc (prints_over _ _ _ _ _ _ _)
  · refine Ev.iten hc ?_
    by_cases hd : (bo.size : Int) > 3000
    · rw [decide_eq_true hd]; exact prints_over _ _ _ _ _ _ _
    · rw [decide_eq_false hd]
      refine Ev.step (fun k => by rw [diacriticlaw17_PagePrints.j0]) (Ev.iten (by decide) ?_)
      refine Ev.bind (print_ev (by omega) (by omega) (by omega) (by omega) la bo (by omega) (by omega)) ?_
      refine Ev.bindc (show diacriticlaw17_Of.f (fl : Int) (po : Int) (se : Int) (nu : Int) la bo = some ((fl : Int), (po : Int), (se : Int), (nu : Int), la, bo) by
        unfold diacriticlaw17_Of.f; rw [w64 (by omega), wu64 (by omega), wu64 (by omega)]) ?_
      refine Ev.bind (rcheck_ev _ _ _ _ la bo (by omega)) (Ev.bindc rfl (Ev.iten (by simp) ?_))
      refine Ev.bind (check_ev _ _ _ _ la bo (by omega)) (Ev.iten (by simp) (Ev.bindc rfl ?_))
      rw [has_eq (fl : Int) x (by omega) (by omega), bne_self_eq_false]
      refine opens_tail _ _ _ _ _ _ la bo (by omega) ?_
      refine Ev.step (fun k => by rw [diacriticlaw17_PagePrints.j2]) (Ev.iten (by decide) ?_)
      by_cases hk : chkN la bo = 0
      · refine Ev.itep (by rw [hk]; rfl) ?_
        simp only [if_pos hk]
        have hl2 : la.size ≤ 255 := by
          have hk' := hk
          unfold chkN at hk'
          split at hk' <;> omega
        have hp := parse_ok (p := 0) (b := 0) (r := []) (fl := fl) (po := po) (se := se) (nu := nu) (by omega) (by omega) (by omega) (by omega) la bo hk (s := strN (pgL fl po se nu la bo)) (by rw [List.append_nil]; exact Rest.strN (pgL_lt (by omega) hl2)) ⟨by rw [size_strN, pgL_len]; omega, by omega⟩ 0
        refine Ev.bindc rfl (Ev.bind hp (Ev.bind awake17 (Ev.itep rfl ?_)))
        refine Ev.bindc (show diacriticlaw17_Of.f (fl : Int) (po : Int) (se : Int) (nu : Int) la bo = some ((fl : Int), (po : Int), (se : Int), (nu : Int), la, bo) by
          unfold diacriticlaw17_Of.f; rw [w64 (by omega), wu64 (by omega), wu64 (by omega)]) ?_
        exact Ev.bind (rprint_ev (by omega) (by omega) (by omega) (by omega) la bo hl2 (by omega)) (Ev.itep rfl (Ev.itep rfl (Ev.some (by simp))))
      · refine Ev.iten (by omega) (Ev.bind awake17 (Ev.itep rfl (Ev.some ?_)))
        simp only [if_neg hk]
        rw [tl_data]; rfl

end Go.Proofs.Ytmfamkkikiglmaa.Pure
