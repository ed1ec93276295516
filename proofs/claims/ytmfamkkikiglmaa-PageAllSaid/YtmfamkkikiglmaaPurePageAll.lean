/- All pages of a file that is some pages, one behind the other, are these, and their places; cut off anywhere it isn't whole pages: the plain law. -/
import Derived.Test.YtmfamkkikiglmaaPAllx0
import Derived.Test.YtmfamkkikiglmaaPAllx10
import Derived.Test.YtmfamkkikiglmaaPAllx11
import Derived.Test.YtmfamkkikiglmaaPAllx17
import Derived.Test.YtmfamkkikiglmaaPAllx18
import Derived.Test.YtmfamkkikiglmaaPAllx7
import Derived.Test.YtmfamkkikiglmaaLpage2
namespace Go.Proofs.Ytmfamkkikiglmaa.Pure
open Go.RowKit Go.Proofs.Ytmfamkkikiglmaa.PAll Go.Proofs.Ytmfamkkikiglmaa.Pl Go.Proofs.YtmfamkkikiglmaaW.PrintWords Go.Proofs.YtmfamkkikiglmaaW.PrintLast
set_option linter.unusedVariables false
set_option linter.unusedSimpArgs false

theorem awake17 : Ev (fun k => diacriticlaw17_awake.f k) true := Ev.of diacriticlaw17_awake.mono (k := 100) (by kernel_rfl)
abbrev Pg := S27
abbrev Hd := S25
def bytesP (x : Pg) : List Nat := pgL x.f0.f0.toNat x.f0.f1.toNat x.f0.f2.toNat x.f0.f3.toNat x.f1 x.f2
def rngP (x : Pg) : Prop := (0 ≤ x.f0.f0 ∧ x.f0.f0 < 256) ∧ (0 ≤ x.f0.f1 ∧ x.f0.f1 < 18446744073709551616) ∧ (0 ≤ x.f0.f2 ∧ x.f0.f2 < 4294967296) ∧ (0 ≤ x.f0.f3 ∧ x.f0.f3 < 4294967296)
def okP (x : Pg) : Prop := rngP x ∧ chkN x.f1 x.f2 = 0 ∧ x.f1.size ≤ 300 ∧ x.f2.size ≤ 600
theorem okP_la {x : Pg} (h : okP x) : x.f1.size ≤ 255 := by
  have := h.2.1
  unfold chkN at this
  split at this <;> omega
theorem bytesP_len {x : Pg} (h : okP x) : (bytesP x).length = 27 + x.f1.size + x.f2.size := pgL_len _ _ _ _ _ _
theorem bytesP_le {x : Pg} (h : okP x) : 27 ≤ (bytesP x).length ∧ (bytesP x).length ≤ 1000 := by
  have := bytesP_len h
  have := h.2.2
  have := okP_la h
  omega
theorem bytesP_lt {x : Pg} (h : okP x) : ∀ y ∈ bytesP x, y < 256 := pgL_lt (by have := h.1.1; omega) (okP_la h)
theorem print_page {x : Pg} (h : rngP x) (h1 : x.f1.size ≤ 300) (h2 : x.f2.size ≤ 600) : Ev (fun k => page_Page_Print.f k x.f0.f0 x.f0.f1 x.f0.f2 x.f0.f3 x.f1 x.f2) (if chkN x.f1 x.f2 = 0 then strN (bytesP x) else (⟨#[]⟩ : ByteArray), ((chkN x.f1 x.f2 : Nat) : Int), 0) := by
  obtain ⟨⟨a, b, c, d⟩, la, bo⟩ := x
  obtain ⟨⟨a1, a2⟩, ⟨b1, b2⟩, ⟨c1, c2⟩, ⟨d1, d2⟩⟩ := h
  simp only at a1 a2 b1 b2 c1 c2 d1 d2 h1 h2 ⊢
  obtain ⟨fl, rfl⟩ := Int.eq_ofNat_of_zero_le a1
  obtain ⟨po, rfl⟩ := Int.eq_ofNat_of_zero_le b1
  obtain ⟨se, rfl⟩ := Int.eq_ofNat_of_zero_le c1
  obtain ⟨nu, rfl⟩ := Int.eq_ofNat_of_zero_le d1
  exact print_ev (by omega) (by omega) (by omega) (by omega) la bo (by omega) (by omega)
theorem parse_page {x : Pg} (hx : okP x) {s : ByteArray} {p b : Nat} {r : List Nat} (h : Pl.Rest s p (bytesP x ++ r)) (ok : Ok s b) (fa : Int) :
    Ev (fun k => page_Parse.f k s (p : Int) (b : Int) 0 fa) (x.f0.f0, x.f0.f1, x.f0.f2, x.f0.f3, x.f1, x.f2, true, s, ((p + (bytesP x).length : Nat) : Int), (b : Int), 0, fa) := by
  obtain ⟨⟨a, b', c, d⟩, la, bo⟩ := x
  obtain ⟨⟨⟨a1, a2⟩, ⟨b1, b2⟩, ⟨c1, c2⟩, ⟨d1, d2⟩⟩, hc, h1, h2⟩ := hx
  simp only at a1 a2 b1 b2 c1 c2 d1 d2 h1 h2 hc h ⊢
  obtain ⟨fl, rfl⟩ := Int.eq_ofNat_of_zero_le a1
  obtain ⟨po, rfl⟩ := Int.eq_ofNat_of_zero_le b1
  obtain ⟨se, rfl⟩ := Int.eq_ofNat_of_zero_le c1
  obtain ⟨nu, rfl⟩ := Int.eq_ofNat_of_zero_le d1
  exact parse_ok (fl := fl) (po := po) (se := se) (nu := nu) (by omega) (by omega) (by omega) (by omega) la bo hc h ok fa
theorem parse_cut {x : Pg} (hx : okP x) {s : ByteArray} {p b : Nat} {l suf : List Nat} (hcut : l ++ suf = bytesP x) (hl : l ≠ []) (hsuf : suf ≠ []) (h : Pl.Rest s p l) (ok : Ok s b) (fa : Int) :
    ∃ q : Nat, Ev (fun k => page_Parse.f k s (p : Int) (b : Int) 0 fa) (0, 0, 0, 0, (⟨#[]⟩ : ByteArray), (⟨#[]⟩ : ByteArray), false, s, (q : Int), (b : Int), 1, (b : Int) + s.size) := by
  have := hx.1.1
  exact parse_short (by omega) x.f1 x.f2 hx.2.1 hcut hl hsuf h ok fa

/-! ### all pages -/
def allP (l : List Pg) : List Nat := (l.map bytesP).flatten
def placesP : Nat → List Pg → List Int
  | _, [] => []
  | p, x :: l => (p : Int) :: placesP (p + (bytesP x).length) l
theorem allP_cons (x : Pg) (l : List Pg) : allP (x :: l) = bytesP x ++ allP l := by simp [allP]
theorem allP_app (a b : List Pg) : allP (a ++ b) = allP a ++ allP b := by simp [allP]
theorem placesP_len (l : List Pg) : ∀ p, (placesP p l).length = l.length := by
  induction l with
  | nil => intro p; rfl
  | cons x l ih => intro p; simp [placesP, ih]
theorem placesP_snoc (l : List Pg) (x : Pg) : ∀ p, placesP p (l ++ [x]) = placesP p l ++ [((p + (allP l).length : Nat) : Int)] := by
  induction l with
  | nil => intro p; simp [placesP, allP]
  | cons y l ih =>
    intro p
    rw [List.cons_append, placesP, placesP, ih, allP_cons, List.length_append, List.cons_append]
    congr 4
    omega
theorem allP_le (l : List Pg) (h : ∀ x ∈ l, okP x) : (allP l).length ≤ l.length * 1000 := by
  induction l with
  | nil => simp [allP]
  | cons x l ih =>
    have h1 := ih (fun y hy => h y (by simp [hy]))
    have h2 := bytesP_le (h x (by simp))
    rw [allP_cons, List.length_append, List.length_cons, Nat.add_mul]; omega
theorem allP_lt (l : List Pg) (h : ∀ x ∈ l, okP x) : ∀ y ∈ allP l, y < 256 := by
  intro y hy
  simp only [allP, List.mem_flatten, List.mem_map] at hy
  obtain ⟨_, ⟨x, hx, rfl⟩, hy⟩ := hy
  exact bytesP_lt (h x hx) y hy
theorem pages_run {s : ByteArray} (ok : Ok s 0) {r : List Nat} {R : List Pg × List Int × Int × Int} : ∀ (l acc : List Pg) (pl : List Int) (p : Nat), (∀ x ∈ l, okP x) → acc.length + l.length ≤ 1000 → pl.length + l.length ≤ 1000 →
    Pl.Rest s p (allP l ++ r) → (Pl.Rest s (p + (allP l).length) r → Ev (fun k => page_Pages.l0 k (acc ++ l) (pl ++ placesP p l) s ((p + (allP l).length : Nat) : Int) 0 0 0) R) →
    Ev (fun k => page_Pages.l0 k acc pl s (p : Int) 0 0 0) R
  | [], acc, pl, p, _, _, _, hr, hk => by
    have := hk hr.next
    rw [List.append_nil, placesP, List.append_nil] at this
    exact this
  | x :: l, acc, pl, p, hx, ha, hp, hr, hk => by
    rw [allP_cons, List.append_assoc] at hr
    rw [List.length_cons] at ha hp
    have hsz := hr.size
    obtain ⟨o1, o2⟩ := ok
    refine Ev.step (fun k => by rw [page_Pages.l0]) ?_
    refine Ev.bindc rfl ?_
    have hp0 := parse_page (hx x (by simp)) hr (b := 0) ⟨o1, o2⟩ 0
    refine Ev.bind hp0 (Ev.itep rfl (Ev.iten (by omega) (Ev.itep (by omega) (Ev.itep (by omega) ?_))))
    have e1 : wrap64 (0 + (p : Int)) = (p : Int) := by rw [w64 (by omega)]; omega
    simp only [e1]
    refine pages_run ⟨o1, o2⟩ l (acc ++ [x]) (pl ++ [(p : Int)]) _ (fun y hy => hx y (by simp [hy])) (by rw [List.length_append, List.length_singleton]; omega) (by rw [List.length_append, List.length_singleton]; omega) hr.next ?_
    intro hr2
    have e2 : p + (bytesP x).length + (allP l).length = p + (allP (x :: l)).length := by rw [allP_cons, List.length_append]; omega
    rw [e2] at hr2 ⊢
    have := hk hr2
    rw [placesP] at this
    rw [List.append_assoc, List.append_assoc]
    exact this
theorem pages_all (l : List Pg) (hl : l.length ≤ 12) (h : ∀ x ∈ l, okP x) : Ev (fun k => page_Pages.f k (strN (allP l))) (l, placesP 0 l, 0, 0) := by
  have hz := allP_le l h
  have ok : Ok (strN (allP l)) 0 := ⟨by rw [size_strN]; omega, by omega⟩
  unfold page_Pages.f
  refine Ev.bindc rfl ?_
  refine pages_run ok (r := []) l [] [] 0 h (by simp; omega) (by simp; omega) (by rw [List.append_nil]; exact Pl.Rest.strN (allP_lt l h)) ?_
  intro hr
  refine Ev.step (fun k => by rw [page_Pages.l0]) ?_
  refine Ev.bindc rfl ?_
  have hp0 : Ev (fun k => page_Parse.f k (strN (allP l)) ((0 + (allP l).length : Nat) : Int) 0 0 0) (0, 0, 0, 0, (⟨#[]⟩ : ByteArray), (⟨#[]⟩ : ByteArray), false, strN (allP l), ((0 + (allP l).length : Nat) : Int), 0, 0, 0) := by
    unfold page_Parse.f
    exact Ev.bindc (rleft hr ok 0) (Ev.itep rfl (Ev.some rfl))
  refine Ev.bind hp0 (Ev.iten (by simp) ?_)
  refine Ev.step (fun k => by rw [page_Pages.j1]) ?_
  exact Ev.bindc rfl (Ev.bindc rfl (Ev.iten (by simp) (Ev.some rfl)))
theorem pages_cut (l : List Pg) (hl : l.length ≤ 12) (h : ∀ x ∈ l, okP x) (x : Pg) (hx : okP x) (y suf : List Nat) (hcut : y ++ suf = bytesP x) (hy : y ≠ []) (hsuf : suf ≠ []) :
    Ev (fun k => page_Pages.f k (strN (allP l ++ y))) ([], [], 1, (((allP l ++ y).length : Nat) : Int)) := by
  have hz := allP_le l h
  have hyl : y.length ≤ 1000 := by
    have := congrArg List.length hcut
    have := bytesP_le hx
    rw [List.length_append] at *
    omega
  have hb : ∀ c ∈ allP l ++ y, c < 256 := by
    intro c hc
    rw [List.mem_append] at hc
    rcases hc with hc | hc
    · exact allP_lt l h c hc
    · exact bytesP_lt hx c (by rw [← hcut]; simp [hc])
  have ok : Ok (strN (allP l ++ y)) 0 := ⟨by rw [size_strN, List.length_append]; omega, by omega⟩
  unfold page_Pages.f
  refine Ev.bindc rfl ?_
  refine pages_run ok (r := y) l [] [] 0 h (by simp; omega) (by simp; omega) (Pl.Rest.strN hb) ?_
  intro hr
  refine Ev.step (fun k => by rw [page_Pages.l0]) ?_
  refine Ev.bindc rfl ?_
  obtain ⟨q, hp0⟩ := parse_cut hx hcut hy hsuf hr ok 0
  refine Ev.bind hp0 (Ev.iten (by simp) ?_)
  refine Ev.step (fun k => by rw [page_Pages.j1]) ?_
  refine Ev.bindc rfl (Ev.bindc rfl (Ev.itep (by simp) (Ev.some ?_)))
  simp only [size_strN]
  congr 3
  omega
/-- A place within a file of pages at which none begins lies within one of them. -/
theorem find_cut : ∀ (l : List Pg) (p n : Nat), p ≤ n → n < p + (allP l).length → (∀ i, i < l.length → (placesP p l).getD i 0 ≠ (n : Int)) →
    ∃ a x c y suf, l = a ++ x :: c ∧ y ++ suf = bytesP x ∧ y ≠ [] ∧ suf ≠ [] ∧ (allP l).take (n - p) = allP a ++ y
  | [], p, n, h1, h2, _ => by simp [allP] at h2; omega
  | x :: l, p, n, h1, h2, hn => by
    rw [allP_cons, List.length_append] at h2
    by_cases hc : n < p + (bytesP x).length
    · have h0 := hn 0 (by simp)
      simp only [placesP, List.getD_cons_zero] at h0
      refine ⟨[], x, l, (bytesP x).take (n - p), (bytesP x).drop (n - p), rfl, List.take_append_drop _ _, ?_, ?_, ?_⟩
      · intro e
        have := congrArg List.length e
        rw [List.length_take, List.length_nil] at this; omega
      · intro e
        have := congrArg List.length e
        rw [List.length_drop, List.length_nil] at this; omega
      · rw [allP_cons, List.take_append_of_le_length (by omega)]; simp [allP]
    · obtain ⟨a, x', c, y, suf, e1, e2, e3, e4, e5⟩ := find_cut l (p + (bytesP x).length) n (by omega) (by omega) (by
        intro i hi
        have := hn (i + 1) (by simp; omega)
        simpa [placesP] using this)
      refine ⟨x :: a, x', c, y, suf, by rw [e1]; rfl, e2, e3, e4, ?_⟩
      rw [allP_cons, allP_cons, List.take_append, List.take_of_length_le (by omega), show n - p - (bytesP x).length = n - (p + (bytesP x).length) by omega, e5, List.append_assoc]

/-! ### the law -/
theorem rd_pg (l : List Pg) (i : Nat) (h : i < l.length) : rd_T27 l (i : Int) = l[i] := by
  unfold rd_T27
  rw [Int.toNat_natCast, List.getD_eq_getElem?_getD, List.getElem?_eq_getElem h]; rfl
theorem rd_int (l : List Int) (i : Nat) : rd l (i : Int) = l.getD i 0 := by
  unfold rd
  rw [Int.toNat_natCast]
theorem cut_loop (l : List Pg) (hl : l.length ≤ 12) (h : ∀ x ∈ l, okP x) (n : Nat) (hn : n < (allP l).length) : ∀ (d i : Nat), i + d = l.length → (∀ j, j < i → (placesP 0 l).getD j 0 ≠ (n : Int)) →
    Ev (fun k => diacriticlaw17_PageAll.l2 k (strN (allP l)) (n : Int) (placesP 0 l) ((placesP 0 l).length : Int) (i : Int)) true
  | 0, i, hi, hp => by
    have hz := allP_le l h
    have hpl := placesP_len l 0
    refine Ev.step (fun k => by rw [diacriticlaw17_PageAll.l2]) (Ev.iten (by omega) (Ev.itep (by omega) (Ev.itep (by rw [size_strN]; omega) ?_)))
    obtain ⟨a, x, c, y, suf, e1, e2, e3, e4, e5⟩ := find_cut l 0 n (by omega) (by omega) (fun j hj => hp j (by omega))
    have ex : (strN (allP l)).extract 0 (n : Int).toNat = strN (allP a ++ y) := by
      apply nats_inj
      rw [Int.toNat_natCast, nats_ext, nats_strN (allP_lt l h), List.drop_zero, e5, nats_strN]
      intro z hz
      rw [← e5] at hz
      exact allP_lt l h z (List.mem_of_mem_take hz)
    rw [ex]
    have hlen : (allP a ++ y).length = n := by
      rw [← e5, List.length_take]; omega
    have pc := pages_cut a (by rw [e1] at hl; simp at hl; omega) (fun z hz => h z (by rw [e1]; simp [hz])) x (h x (by rw [e1]; simp)) y suf e2 e3 e4
    rw [hlen] at pc
    exact Ev.bind pc (Ev.bind awake17 (Ev.itep rfl (Ev.itep rfl (Ev.some (by simp)))))
  | d + 1, i, hi, hp => by
    have hpl := placesP_len l 0
    refine Ev.step (fun k => by rw [diacriticlaw17_PageAll.l2]) (Ev.itep (by omega) (Ev.itep (by omega) (Ev.itep (by omega) ?_)))
    rw [rd_int]
    by_cases hc : (placesP 0 l).getD i 0 = (n : Int)
    · exact Ev.itep hc (Ev.bind awake17 (Ev.some rfl))
    · refine Ev.iten hc ?_
      rw [show wrap64 ((i : Int) + 1) = ((i + 1 : Nat) : Int) by rw [w64 (by omega)]; omega]
      refine cut_loop l hl h n hn d (i + 1) (by omega) ?_
      intro j hj
      rcases Nat.lt_or_ge j i with hj2 | hj2
      · exact hp j hj2
      · obtain rfl : j = i := by omega
        exact hc
theorem same_loop (l : List Pg) (hl : l.length ≤ 12) (h : ∀ x ∈ l, okP x) (cut : Nat) (hcut : cut ≤ 65535) : ∀ (d i : Nat), i + d = l.length →
    Ev (fun k => diacriticlaw17_PageAll.l1 k l (cut : Int) (strN (allP l)) (placesP 0 l) l (placesP 0 l) (l.length : Int) (i : Int)) true
  | 0, i, hi => by
    have hz := allP_le l h
    refine Ev.step (fun k => by rw [diacriticlaw17_PageAll.l1]) (Ev.iten (by omega) ?_)
    by_cases h0 : (allP l).length = 0
    · exact Ev.itep ((tl_nil _).mpr (by rw [size_strN]; exact h0)) (Ev.bind awake17 (Ev.some rfl))
    · refine Ev.iten (fun e => h0 (by have := (tl_nil _).mp e; rwa [size_strN] at this)) (Ev.iten (by rw [size_strN]; omega) ?_)
      have e : Int.tmod (wrap64 (cut : Int)) ((strN (allP l)).size : Int) = ((cut % (allP l).length : Nat) : Int) := by
        rw [w64 (by omega), size_strN, Int.tmod_eq_emod_of_nonneg (by omega)]; omega
      rw [e]
      have hlt : cut % (allP l).length < (allP l).length := Nat.mod_lt _ (by omega)
      exact cut_loop l hl h _ hlt l.length 0 (by omega) (by intro j hj; omega)
  | d + 1, i, hi => by
    have hpl := placesP_len l 0
    refine Ev.step (fun k => by rw [diacriticlaw17_PageAll.l1]) ?_
    refine Ev.itep (by omega) (Ev.itep (by omega) (Ev.itep (by omega) (Ev.itep (by omega) (Ev.iten (by simp) (Ev.itep (by omega) (Ev.itep (by omega) (Ev.itep rfl ?_)))))))
    rw [show wrap64 ((i : Int) + 1) = ((i + 1 : Nat) : Int) by rw [w64 (by omega)]; omega]
    exact same_loop l hl h cut hcut d (i + 1) (by omega)
theorem all_over (l : List Pg) (x1 : Int) (f : ByteArray) (q : List Int) (a b c d e g : Int) (la bo : ByteArray) (n i : Int) (l2 : List Pg) : Ev (fun k => diacriticlaw17_PageAll.j1 k l x1 f q l2 n i true a b c d la bo) true :=
  Ev.step (fun k => by rw [diacriticlaw17_PageAll.j1]) (Ev.itep rfl (Ev.bind awake17 (Ev.some rfl)))
theorem all_loop (l : List Pg) (hl : l.length ≤ 12) (hr : ∀ x ∈ l, rngP x) (cut : Nat) (hcut : cut ≤ 65535) : ∀ (d i : Nat), i + d = l.length → (∀ x ∈ l.take i, okP x) →
    Ev (fun k => diacriticlaw17_PageAll.l0 k l (cut : Int) (strN (allP (l.take i))) (placesP 0 (l.take i)) l (l.length : Int) (i : Int)) true
  | 0, i, hi, h => by
    rw [List.take_of_length_le (by omega)] at h ⊢
    have hpl := placesP_len l 0
    refine Ev.step (fun k => by rw [diacriticlaw17_PageAll.l0]) (Ev.iten (by omega) (Ev.bind (pages_all l hl h) ?_))
    refine Ev.bindc rfl ?_
    refine Ev.iten (by simp) (Ev.itep rfl ?_)
    refine Ev.step (fun k => by rw [diacriticlaw17_PageAll.j2]) (Ev.iten (by simp [hpl]) ?_)
    exact same_loop l hl h cut hcut l.length 0 (by omega)
  | d + 1, i, hi, h => by
    have hlt : i < l.length := by omega
    have hz := allP_le (l.take i) h
    have hpl := placesP_len (l.take i) 0
    rw [List.length_take] at hz hpl
    refine Ev.step (fun k => by rw [diacriticlaw17_PageAll.l0]) (Ev.itep (by omega) (Ev.itep (by omega) (Ev.itep (by omega) ?_)))
    rw [rd_pg l i hlt]
    by_cases h1 : (l[i].f1.size : Int) > 300
    · exact Ev.itep h1 (all_over _ _ _ _ _ _ _ _ 0 0 _ _ _ _ _)
    refine Ev.iten h1 ?_
    by_cases h2 : (l[i].f2.size : Int) > 600
    · rw [decide_eq_true h2]; exact all_over _ _ _ _ _ _ _ _ 0 0 _ _ _ _ _
    rw [decide_eq_false h2]
    have hx := hr l[i] (List.getElem_mem hlt)
    refine Ev.step (fun k => by rw [diacriticlaw17_PageAll.j1]) (Ev.iten (by decide) (Ev.bind (print_page hx (by omega) (by omega)) (Ev.bindc rfl ?_)))
    by_cases hk : chkN l[i].f1 l[i].f2 = 0
    · have hxk : okP l[i] := ⟨hx, hk, by omega, by omega⟩
      have hlen := bytesP_le hxk
      simp only [hk, if_pos]
      refine Ev.itep (by omega) (Ev.itep (by rw [size_strN, size_strN]; omega) ?_)
      rw [show wrap64 ((i : Int) + 1) = ((i + 1 : Nat) : Int) by rw [w64 (by omega)]; omega, ← strN_app, size_strN]
      have e1 : allP (l.take i) ++ bytesP l[i] = allP (l.take (i + 1)) := by
        rw [List.take_succ_eq_append_getElem hlt, allP_app]; simp [allP]
      have e2 : placesP 0 (l.take i) ++ [((allP (l.take i)).length : Int)] = placesP 0 (l.take (i + 1)) := by
        rw [List.take_succ_eq_append_getElem hlt, placesP_snoc, Nat.zero_add]
      rw [e1, e2]
      refine all_loop l hl hr cut hcut d (i + 1) (by omega) ?_
      intro y hy
      rw [List.take_succ_eq_append_getElem hlt, List.mem_append, List.mem_singleton] at hy
      rcases hy with hy | rfl
      · exact h y hy
      · exact hxk
    · refine Ev.itep ?_ (Ev.bind awake17 (Ev.some rfl))
      show (((chkN l[i].f1 l[i].f2 : Nat) : Int) != 0) = true
      rw [bne_iff_ne]; omega
theorem PageAll : diacriticlaw17_PageAll.Pure := by
  intro l cut _ hl h1
  have r1 := wf_u16 h1
  obtain ⟨n, rfl⟩ := Int.eq_ofNat_of_zero_le r1.1
  apply Ev.rounds
  unfold diacriticlaw17_PageAll.f
  by_cases hc : (l.length : Int) > 12
  · exact Ev.itep hc (Ev.bind awake17 (Ev.some rfl))
  · refine Ev.iten hc ?_
    refine all_loop l (by omega) ?_ n (by omega) l.length 0 (by omega) (by simp)
    intro x hx
    have := hl x hx
    unfold okS27 okS25 at this
    obtain ⟨⟨a, b, c, d⟩, _⟩ := this
    have := wf_u8 a
    have := wf_u64 b
    have := wf_u32 c
    have := wf_u32 d
    unfold rngP; omega

end Go.Proofs.Ytmfamkkikiglmaa.Pure
