/- A page's bytes, printed and read: plain lemmas. -/
import Derived.Test.YtmfamkkikiglmaaPAllx10
import Derived.Test.YtmfamkkikiglmaaPAllx3
import Derived.Test.YtmfamkkikiglmaaPAllx4
import Derived.Test.YtmfamkkikiglmaaPAllx5
import Derived.Test.YtmfamkkikiglmaaPAllx6
import Derived.Test.YtmfamkkikiglmaaPAllx7
import Derived.Test.YtmfamkkikiglmaaLrd
import Derived.Test.YtmfamkkikiglmaaLjoin
namespace Go.Proofs.Ytmfamkkikiglmaa.Pl
open Go.RowKit Go.Proofs.Ytmfamkkikiglmaa.PAll Go.Proofs.YtmfamkkikiglmaaW.PrintWords Go.Proofs.YtmfamkkikiglmaaW.PrintLast Go.Proofs.YtmfamkkikiglmaaW.PrintMore
set_option linter.unusedVariables false
set_option linter.unusedSimpArgs false

/-- How many bytes laces come to. -/
def longN (l : List Nat) : Nat := l.sum
theorem longN_le (l : List Nat) (h : ∀ x ∈ l, x < 256) : longN l ≤ 255 * l.length := by
  unfold longN
  induction l with
  | nil => simp
  | cons a l ih =>
    have h1 := ih (fun x hx => h x (by simp [hx]))
    have h2 := h a (by simp)
    rw [List.sum_cons, List.length_cons]; omega
theorem take_snocN (s : ByteArray) (i : Nat) (h : i < s.size) : ∃ c : Nat, c < 256 ∧ bt s (i : Int) = (c : Int) ∧ (nats s).take (i + 1) = (nats s).take i ++ [c] := by
  have hl : i < (nats s).length := by rw [nats_len]; exact h
  refine ⟨(nats s)[i], nats_lt s _ (List.getElem_mem hl), ?_, List.take_succ_eq_append_getElem hl⟩
  rw [bt_nats s i h, List.getD_eq_getElem?_getD, List.getElem?_eq_getElem hl]; rfl
theorem long_loop (s : ByteArray) (hs : s.size ≤ 1000000000) : ∀ (d i : Nat), i + d = s.size →
    Ev (fun k => page_long.l0 k s ((longN ((nats s).take i) : Nat) : Int) (s.size : Int) (i : Int)) ((longN (nats s) : Nat) : Int)
  | 0, i, hi => by
    refine Ev.step (fun k => by rw [page_long.l0]) (Ev.iten (by omega) (Ev.some ?_))
    rw [List.take_of_length_le (by rw [nats_len]; omega)]
  | d + 1, i, hi => by
    obtain ⟨c, hc, hb, ht⟩ := take_snocN s i (by omega)
    have hn := longN_le ((nats s).take (i + 1)) (fun x hx => nats_lt s x (List.mem_of_mem_take hx))
    have hn2 : longN ((nats s).take (i + 1)) = longN ((nats s).take i) + c := by rw [ht]; simp [longN]
    rw [List.length_take, nats_len] at hn
    refine Ev.step (fun k => by rw [page_long.l0]) ?_
    refine Ev.itep (by omega) (Ev.itep (by omega) (Ev.itep (by omega) ?_))
    rw [hb, w64 (n := (c : Int)) (by omega), w64 (by omega), show wrap64 ((i : Int) + 1) = ((i + 1 : Nat) : Int) by rw [w64 (by omega)]; omega]
    have e : ((longN ((nats s).take i) : Nat) : Int) + (c : Int) = ((longN ((nats s).take (i + 1)) : Nat) : Int) := by omega
    rw [e]
    exact long_loop s hs d (i + 1) (by omega)
theorem long_ev (s : ByteArray) (hs : s.size ≤ 1000000000) : Ev (fun k => page_long.f k s) ((longN (nats s) : Nat) : Int) :=
  long_loop s hs s.size 0 (by omega)
/-- What is wrong with a page. -/
def chkN (la bo : ByteArray) : Nat := if la.size > 255 then 4 else if longN (nats la) = bo.size then 0 else 5
theorem check_ev (a b c d : Int) (la bo : ByteArray) (hs : la.size ≤ 1000000000) : Ev (fun k => page_Page_Check.f k a b c d la bo) (((chkN la bo : Nat) : Int), 0) := by
  unfold page_Page_Check.f chkN
  by_cases h : la.size > 255
  · rw [if_pos h]
    exact Ev.itep (by omega) (Ev.some rfl)
  · rw [if_neg h]
    refine Ev.iten (by omega) (Ev.bind (long_ev la hs) ?_)
    by_cases h2 : longN (nats la) = bo.size
    · rw [if_pos h2]; exact Ev.itep (by omega) (Ev.some rfl)
    · rw [if_neg h2]; exact Ev.iten (by omega) (Ev.some rfl)

/-! ### the bytes -/
def hdL (fl po se nu : Nat) : List Nat := [79, 103, 103, 83] ++ ([0, fl] ++ (sm po 8 ++ (sm se 4 ++ sm nu 4)))
def bkL (la bo : ByteArray) : List Nat := [la.size] ++ (nats la ++ nats bo)
def sumP (fl po se nu : Nat) (la bo : ByteArray) : Nat := sumN 0 (hdL fl po se nu ++ ([0, 0, 0, 0] ++ bkL la bo))
def pgL (fl po se nu : Nat) (la bo : ByteArray) : List Nat := hdL fl po se nu ++ (sm (sumP fl po se nu la bo) 4 ++ bkL la bo)
theorem hdL_lt {fl po se nu : Nat} (hf : fl < 256) : ∀ x ∈ hdL fl po se nu, x < 256 := by
  intro x hx
  simp only [hdL, List.mem_append, List.mem_cons, List.not_mem_nil, or_false] at hx
  rcases hx with (h | h | h | h) | ((h | h) | (h | (h | h)))
  all_goals first | omega | exact sm_lt _ _ x h
theorem bkL_lt {la bo : ByteArray} (hl : la.size ≤ 255) : ∀ x ∈ bkL la bo, x < 256 := by
  intro x hx
  simp only [bkL, List.mem_append, List.mem_cons, List.not_mem_nil, or_false] at hx
  rcases hx with h | (h | h)
  · omega
  · exact nats_lt _ x h
  · exact nats_lt _ x h
theorem hdL_len (fl po se nu : Nat) : (hdL fl po se nu).length = 22 := by
  simp [hdL, sm_len]
theorem pgL_lt {fl po se nu : Nat} {la bo : ByteArray} (hf : fl < 256) (hl : la.size ≤ 255) : ∀ x ∈ pgL fl po se nu la bo, x < 256 := by
  intro x hx
  rw [pgL, List.mem_append, List.mem_append] at hx
  rcases hx with h | h | h
  · exact hdL_lt hf x h
  · exact sm_lt _ _ x h
  · exact bkL_lt hl x h
theorem pgL_len (fl po se nu : Nat) (la bo : ByteArray) : (pgL fl po se nu la bo).length = 27 + la.size + bo.size := by
  rw [pgL, List.length_append, List.length_append, hdL_len, sm_len, bkL]
  simp only [List.length_append, List.length_cons, List.length_nil, nats_len]; omega
theorem sumP_lt {fl po se nu : Nat} {la bo : ByteArray} (hf : fl < 256) (hl : la.size ≤ 255) : sumP fl po se nu la bo < 4294967296 := by
  refine sumN_lt _ _ (by decide) ?_
  intro x hx
  rw [List.mem_append, List.mem_append] at hx
  rcases hx with h | h | h
  · exact hdL_lt hf x h
  · simp at h; omega
  · exact bkL_lt hl x h
theorem strN_cat (l : List (List Nat)) : cat (l.map strN) = strN l.flatten := by
  induction l with
  | nil => rfl
  | cons a l ih =>
    rw [List.map_cons, List.flatten_cons, strN_app, ← ih]
    apply bytesOf_inj
    rw [bytesOf_app, bytesOf_cat, bytesOf_cat]; rfl
theorem small_str (n : Nat) (d : Nat) (hd : d ≤ 8) : Ev (fun k => octet_Small.f k (n : Int) (d : Int)) (strN (sm n d)) := by
  have := small_ev n (d : Int)
  rwa [show clamp (d : Int) = d by unfold clamp; omega] at this
theorem big_str (n : Nat) (d : Nat) (hd : d ≤ 8) : Ev (fun k => octet_Big.f k (n : Int) (d : Int)) (strN (sm n d).reverse) := by
  have := big_ev n (d : Int)
  rwa [show clamp (d : Int) = d by unfold clamp; omega] at this
theorem join_str (l : List (List Nat)) (h1 : l.length ≤ 1000) (h2 : l.flatten.length ≤ 140737488355328) : octet_Join.f (l.map strN) = some (strN l.flatten) := by
  rw [join_ok _ (by rw [List.length_map]; omega) (by rw [strN_cat, size_strN]; exact h2), strN_cat]
theorem front_ev {fl po se nu : Nat} (hf : fl < 256) (hp : po < 18446744073709551616) (hs : se < 4294967296) (hn : nu < 4294967296) (la bo : ByteArray) :
    Ev (fun k => page_Page_front.f k (fl : Int) (po : Int) (se : Int) (nu : Int) la bo) (strN (hdL fl po se nu)) := by
  unfold page_Page_front.f
  rw [wu64 (n := (fl : Int)) (by omega), wu64 (n := (se : Int)) (by omega), wu64 (n := (nu : Int)) (by omega)]
  refine Ev.bind (big_str fl 2 (by decide)) (Ev.bind (small_str po 8 (by decide)) (Ev.bind (small_str se 4 (by decide)) (Ev.bind (small_str nu 4 (by decide)) ?_)))
  have e : (⟨#[79, 103, 103, 83]⟩ : ByteArray) = strN [79, 103, 103, 83] := rfl
  have j := join_str [[79, 103, 103, 83], (sm fl 2).reverse, sm po 8, sm se 4, sm nu 4] (by simp) (by simp [sm_len])
  rw [e]
  refine Ev.bindc j (Ev.some ?_)
  congr 1
  have : (sm fl 2).reverse = [0, fl] := by
    simp only [sm, List.reverse_cons, List.reverse_nil, List.nil_append, List.cons_append]
    rw [Nat.mod_eq_of_lt hf, Nat.div_eq_of_lt hf]
  rw [this]; simp [hdL]
theorem back_ev (a b c d : Int) (la bo : ByteArray) (hl : la.size ≤ 255) (hb : bo.size ≤ 100000000) : Ev (fun k => page_Page_back.f k a b c d la bo) (strN (bkL la bo)) := by
  unfold page_Page_back.f
  rw [wu64 (by omega)]
  refine Ev.bind (big_str la.size 1 (by decide)) ?_
  have j := join_str [(sm la.size 1).reverse, nats la, nats bo] (by simp) (by simp [sm_len, nats_len]; omega)
  rw [List.map_cons, List.map_cons, List.map_cons, List.map_nil, strN_nats, strN_nats] at j
  refine Ev.bindc j (Ev.some ?_)
  congr 1
  have : (sm la.size 1).reverse = [la.size] := by
    simp only [sm, List.reverse_cons, List.reverse_nil, List.nil_append]
    rw [Nat.mod_eq_of_lt (by omega)]
  rw [this]; simp [bkL]
theorem sum_ev {fl po se nu : Nat} {la bo : ByteArray} (hf : fl < 256) (hl : la.size ≤ 255) (hb : bo.size ≤ 100000000) :
    Ev (fun k => sum_Of.f k [strN (hdL fl po se nu), (⟨#[0, 0, 0, 0]⟩ : ByteArray), strN (bkL la bo)]) ((sumP fl po se nu la bo : Nat) : Int) := by
  have h1 : (bkL la bo).length ≤ 200000000 := by simp [bkL, nats_len]; omega
  refine Ev.eq (of_ev _ (by simp) ?_) ?_
  · intro x hx
    simp only [List.mem_cons, List.not_mem_nil, or_false] at hx
    rcases hx with rfl | rfl | rfl
    · rw [size_strN, hdL_len]; omega
    · decide
    · rw [size_strN]; omega
  · have e : addN 0 [strN (hdL fl po se nu), (⟨#[0, 0, 0, 0]⟩ : ByteArray), strN (bkL la bo)] = sumP fl po se nu la bo := by
      rw [addN, sumP, List.flatMap_cons, List.flatMap_cons, List.flatMap_cons, List.flatMap_nil, List.append_nil, nats_strN (hdL_lt hf), nats_strN (bkL_lt hl), show nats (⟨#[0, 0, 0, 0]⟩ : ByteArray) = [0, 0, 0, 0] from rfl]
    rw [e]
theorem sbytes_ev (n : Nat) (h : n < 4294967296) : Ev (fun k => sum_Sum_Bytes.f k (n : Int)) (strN (sm n 4)) := by
  unfold sum_Sum_Bytes.f
  rw [wu64 (by omega)]
  exact Ev.bind (small_str n 4 (by decide)) (Ev.some rfl)
theorem print_ev {fl po se nu : Nat} (hf : fl < 256) (hp : po < 18446744073709551616) (hs : se < 4294967296) (hn : nu < 4294967296) (la bo : ByteArray) (hb : bo.size ≤ 100000000) (hl : la.size ≤ 1000000) :
    Ev (fun k => page_Page_Print.f k (fl : Int) (po : Int) (se : Int) (nu : Int) la bo) (if chkN la bo = 0 then strN (pgL fl po se nu la bo) else (⟨#[]⟩ : ByteArray), ((chkN la bo : Nat) : Int), 0) := by
  unfold page_Page_Print.f
  refine Ev.bind (check_ev _ _ _ _ la bo (by omega)) (Ev.bindc rfl ?_)
  by_cases h : chkN la bo = 0
  · rw [if_pos h, h]
    have hl2 : la.size ≤ 255 := by
      unfold chkN at h
      split at h <;> omega
    refine Ev.iten (by decide) (Ev.bind (front_ev hf hp hs hn la bo) (Ev.bind (back_ev _ _ _ _ la bo hl2 hb) (Ev.bind (sum_ev hf hl2 hb) (Ev.bind (front_ev hf hp hs hn la bo) (Ev.bind (sbytes_ev _ (sumP_lt hf hl2)) (Ev.bind (back_ev _ _ _ _ la bo hl2 hb) ?_))))))
    have j := join_str [hdL fl po se nu, sm (sumP fl po se nu la bo) 4, bkL la bo] (by simp) (by simp [hdL_len, sm_len, bkL, nats_len]; omega)
    refine Ev.bindc j (Ev.some ?_)
    simp [pgL]
  · rw [if_neg h]
    refine Ev.itep ?_ (Ev.some rfl)
    show (((chkN la bo : Nat) : Int) != 0) = true
    rw [bne_iff_ne]; omega
/-! ### reading a page -/
theorem parse_ok {fl po se nu : Nat} (hf : fl < 256) (hp : po < 18446744073709551616) (hs : se < 4294967296) (hn : nu < 4294967296) (la bo : ByteArray) (hc : chkN la bo = 0) {s : ByteArray} {p b : Nat} {r : List Nat}
    (h : Rest s p (pgL fl po se nu la bo ++ r)) (ok : Ok s b) (fa : Int) :
    Ev (fun k => page_Parse.f k s (p : Int) (b : Int) 0 fa) ((fl : Int), (po : Int), (se : Int), (nu : Int), la, bo, true, s, ((p + (pgL fl po se nu la bo).length : Nat) : Int), (b : Int), 0, fa) := by
  have hl2 : la.size ≤ 255 := by
    unfold chkN at hc
    split at hc <;> omega
  have hlong : longN (nats la) = bo.size := by
    unfold chkN at hc
    rw [if_neg (by omega)] at hc
    split at hc
    · assumption
    · omega
  have hbo : bo.size ≤ 100000000 := by
    have := longN_le (nats la) (nats_lt la)
    rw [nats_len] at this; omega
  have hsz := h.size
  rw [List.length_append, pgL_len] at hsz
  have hok := ok
  obtain ⟨o1, o2⟩ := hok
  have e0 : pgL fl po se nu la bo ++ r = nats (⟨#[79, 103, 103, 83]⟩ : ByteArray) ++ (nats (⟨#[0]⟩ : ByteArray) ++ ([fl] ++ (sm po 8 ++ (sm se 4 ++ (sm nu 4 ++ (sm (sumP fl po se nu la bo) 4 ++ ([la.size] ++ (nats la ++ (nats bo ++ r))))))))) := by
    rw [show nats (⟨#[79, 103, 103, 83]⟩ : ByteArray) = [79, 103, 103, 83] from rfl, show nats (⟨#[0]⟩ : ByteArray) = [0] from rfl]
    simp [pgL, hdL, bkL]
  have h0 := h
  rw [e0] at h
  have h1 := h.next
  have h2 := h1.next
  have h3 := h2.next
  have h4 := h3.next
  have h5 := h4.next
  have h6 := h5.next
  have h7 := h6.next
  have h8 := h7.next
  have h9 := h8.next
  have z1 : (nats (⟨#[79, 103, 103, 83]⟩ : ByteArray)).length = 4 := rfl
  have z2 : (nats (⟨#[0]⟩ : ByteArray)).length = 1 := rfl
  simp only [z1, z2, sm_len, nats_len, List.length_cons, List.length_nil] at h1 h2 h3 h4 h5 h6 h7 h8 h9
  unfold page_Parse.f
  refine Ev.bindc (rleft h0 ok fa) (Ev.iten (by rw [List.length_append, pgL_len]; omega) ?_)
  refine Ev.bind (rwant _ h ok fa (by decide)) (Ev.bind (rwant _ h1 ok fa (by decide)) ?_)
  refine Ev.bindc (rbig h2 ok fa 1 rfl (by simp)) ?_
  refine Ev.bindc (rsmall h3 ok fa 8 (by rw [sm_len]; rfl) (by rw [sm_len]; omega)) ?_
  refine Ev.bindc (rsmall (by rw [sm_len]; exact h4) ok fa 4 (by rw [sm_len]; rfl) (by rw [sm_len]; omega)) ?_
  refine Ev.bindc (rsmall (by rw [sm_len, sm_len]; exact h5) ok fa 4 (by rw [sm_len]; rfl) (by rw [sm_len]; omega)) (Ev.bindc rfl ?_)
  simp only [sm_len, List.length_cons, List.length_nil]
  refine Ev.bindc (rtake h6 ok fa 4 (by rw [sm_len]; rfl)) ?_
  simp only [sm_len]
  refine Ev.bindc (rbig h7 ok fa 1 rfl (by simp)) ?_
  have b1 : bigN [fl] = fl := by simp [bigN]
  have b2 : bigN [la.size] = la.size := by simp [bigN]
  have m8 : smN (sm po 8) = po := by rw [smN_sm]; exact Nat.mod_eq_of_lt hp
  have m4 : smN (sm se 4) = se := by rw [smN_sm]; exact Nat.mod_eq_of_lt hs
  have m5 : smN (sm nu 4) = nu := by rw [smN_sm]; exact Nat.mod_eq_of_lt hn
  simp only [b1, b2, m8, m4, m5, List.length_cons, List.length_nil]
  rw [w64 (n := (la.size : Int)) (by omega)]
  refine Ev.bindc (rtake h8 ok fa _ (by rw [nats_len])) ?_
  simp only [strN_nats, nats_len]
  refine Ev.bind (long_ev la (by omega)) (Ev.bindc (rtake h9 ok fa _ (by rw [nats_len, hlong])) ?_)
  simp only [strN_nats, nats_len]
  refine Ev.bindc rfl (Ev.bindc rfl (Ev.iten (by simp) ?_))
  have f1 : (fl : Int) % 256 = (fl : Int) := by omega
  have f2 : (se : Int) % 4294967296 = (se : Int) := by omega
  have f3 : (nu : Int) % 4294967296 = (nu : Int) := by omega
  simp only [f1, f2, f3]
  refine Ev.bind (front_ev hf hp hs hn la bo) (Ev.bind (back_ev _ _ _ _ la bo hl2 hbo) (Ev.bind (sum_ev hf hl2 hbo) (Ev.bind (sbytes_ev _ (sumP_lt hf hl2)) ?_)))
  have en : ((strN (sm (sumP fl po se nu la bo) 4)).toList != (strN (sm (sumP fl po se nu la bo) 4)).toList) = false := by simp
  rw [en]
  refine Ev.step (fun k => by rw [page_Parse.j0]) (Ev.iten (by decide) ?_)
  refine Ev.step (fun k => by rw [page_Parse.j1]) ?_
  refine Ev.bindc rfl (Ev.bindc rfl (Ev.iten (by simp) (Ev.some ?_)))
  rw [pgL_len, show p + (27 + la.size + bo.size) = p + 4 + 1 + (0 + 1) + 8 + 4 + 4 + 4 + (0 + 1) + la.size + bo.size by omega]

end Go.Proofs.Ytmfamkkikiglmaa.Pl
