/- A page in which one byte is another one isn't read as it was: the plain law. -/
import Derived.Test.YtmfamkkikiglmaaPAllx10
import Derived.Test.YtmfamkkikiglmaaPAllx11
import Derived.Test.YtmfamkkikiglmaaPAllx12
import Derived.Test.YtmfamkkikiglmaaPAllx3
import Derived.Test.YtmfamkkikiglmaaPAllx8
import Derived.Test.YtmfamkkikiglmaaPAllx9
import Derived.Test.YtmfamkkikiglmaaLpage
namespace Go.Proofs.Ytmfamkkikiglmaa.Pure
open Go.RowKit Go.Proofs.Ytmfamkkikiglmaa.PAll Go.Proofs.Ytmfamkkikiglmaa.Pl Go.Proofs.YtmfamkkikiglmaaW.PrintWords Go.Proofs.YtmfamkkikiglmaaW.PrintLast
set_option linter.unusedVariables false
set_option linter.unusedSimpArgs false

theorem awake17 : Ev (fun k => diacriticlaw17_awake.f k) true := Ev.of diacriticlaw17_awake.mono (k := 100) (by kernel_rfl)
theorem splitN (l : List Nat) (n : Nat) (h : n ≤ l.length) : ∃ a b, l = a ++ b ∧ a.length = n :=
  ⟨l.take n, l.drop n, (List.take_append_drop n l).symm, by rw [List.length_take]; omega⟩
theorem sm_smN : ∀ (l : List Nat), (∀ x ∈ l, x < 256) → sm (smN l) l.length = l
  | [], _ => rfl
  | c :: l, h => by
    have hc := h c (by simp)
    have ih := sm_smN l (fun x hx => h x (by simp [hx]))
    have e1 : smN (c :: l) % 256 = c := by rw [smN]; omega
    have e2 : smN (c :: l) / 256 = smN l := by rw [smN]; omega
    rw [List.length_cons, sm, e1, e2, ih]
/-- A text that is wanted and isn't there. -/
theorem want_mis (a : ByteArray) (x : List Nat) (hx : ∀ y ∈ x, y < 256) (hl : x.length = a.size) (ha : a.size ≤ 1000) (hne : x ≠ nats a) (at_ : Int) (h0 : 0 ≤ at_ ∧ at_ ≤ 1000000000) (s : ByteArray) (p b fa : Int) : ∀ (d i : Nat), i + d = x.length → (nats a).take i = x.take i →
    ∃ fa', Ev (fun k => octet_In_Want.l0 k a at_ (strN x) ((strN x).size : Int) (i : Int) s p b 0 fa) (false, s, p, b, 1, fa')
  | 0, i, hi, he => by
    exfalso
    rw [List.take_of_length_le (by rw [nats_len]; omega), List.take_of_length_le (by omega)] at he
    exact hne he.symm
  | d + 1, i, hi, he => by
    have hlt : i < x.length := by omega
    have hlt2 : i < (nats a).length := by rw [nats_len]; omega
    have hlt3 : i < a.size := by omega
    have hi2 : (i + 1) + d = x.length := by omega
    have e1 : (i : Int) + 1 = ((i + 1 : Nat) : Int) := by omega
    have b1 : -9223372036854775808 ≤ ((i + 1 : Nat) : Int) ∧ ((i + 1 : Nat) : Int) ≤ 9223372036854775807 := by omega
    have w1 : wrap64 ((i : Int) + 1) = ((i + 1 : Nat) : Int) := by rw [e1]; exact w64 b1
    have c1 : (i : Int) < ((strN x).size : Int) := by rw [size_strN]; exact Int.ofNat_lt.mpr hlt
    have c2 : (0 : Int) ≤ (i : Int) := Int.natCast_nonneg i
    have c3 : (i : Int) < (a.size : Int) := Int.ofNat_lt.mpr hlt3
    have hb1 := bt_nats (strN x) i (by rw [size_strN]; exact hlt)
    rw [nats_strN hx, List.getD_eq_getElem?_getD, List.getElem?_eq_getElem hlt] at hb1
    have hb2 := bt_nats a i hlt3
    rw [List.getD_eq_getElem?_getD, List.getElem?_eq_getElem hlt2] at hb2
    simp only [Option.getD_some] at hb1 hb2
    by_cases heq : x[i] = (nats a)[i]
    · obtain ⟨fa', hev⟩ := want_mis a x hx hl ha hne at_ h0 s p b fa d (i + 1) hi2 (by
        rw [List.take_succ_eq_append_getElem hlt2, List.take_succ_eq_append_getElem hlt, he, heq])
      refine ⟨fa', Ev.step (fun k => by rw [octet_In_Want.l0]) ?_⟩
      refine Ev.itep c1 (Ev.itep c2 (Ev.itep c1 (Ev.itep c3 (Ev.itep (by rw [hb1, hb2, heq]) ?_))))
      rw [w1]; exact hev
    · refine ⟨wrap64 (at_ + (i : Int)), Ev.step (fun k => by rw [octet_In_Want.l0]) ?_⟩
      refine Ev.itep c1 (Ev.itep c2 (Ev.itep c1 (Ev.itep c3 (Ev.iten (by rw [hb1, hb2]; intro h; exact heq (Int.ofNat.inj h)) ?_))))
      refine Ev.bindc (show octet_In_Fail.f s p b 0 fa 1 _ = some (s, p, b, 1, wrap64 (at_ + (i : Int))) by
        unfold octet_In_Fail.f api_Fault_Bad.f
        rw [Option.bind_some, if_neg (by decide), if_neg (by decide)]) (Ev.some rfl)
theorem want_no {s : ByteArray} {p b : Nat} {x r : List Nat} (a : ByteArray) (h : Pl.Rest s p (x ++ r)) (ok : Ok s b) (hb : b + p ≤ 1000000000) (fa : Int) (hl : x.length = a.size) (ha : a.size ≤ 1000) (hne : x ≠ nats a) :
    ∃ fa', Ev (fun k => octet_In_Want.f k s (p : Int) (b : Int) 0 fa a) (false, s, (p : Int), (b : Int), 1, fa') := by
  have hx : ∀ y ∈ x, y < 256 := fun y hy => h.lt y (by simp [hy])
  have w : wrap64 ((b : Int) + (p : Int)) = (b : Int) + p := w64 (by omega)
  obtain ⟨fa', hev⟩ := want_mis a x hx hl ha hne ((b : Int) + p) (by omega) s (p : Int) (b : Int) fa x.length 0 (by omega) (by simp)
  refine ⟨fa', ?_⟩
  unfold octet_In_Want.f
  refine Ev.bindc (show api_Fault_Bad.f 0 fa = some false from rfl) (Ev.iten (by decide) ?_)
  refine Ev.bindc (show octet_In_At.f s (p : Int) (b : Int) 0 fa = some ((b : Int) + p, s, (p : Int), (b : Int), 0, fa) by unfold octet_In_At.f; rw [w]) ?_
  refine Ev.bindc (rpeek h ok fa _ (by rw [hl])) ?_
  exact hev
theorem j0_bad (x5 : Int) (s : ByteArray) (p b fa a0 a1 a2 a3 : Int) (a4 a5 : ByteArray) : Ev (fun k => page_Parse.j0 k x5 false s p b 1 fa a0 a1 a2 a3 a4 a5) (0, 0, 0, 0, (⟨#[]⟩ : ByteArray), (⟨#[]⟩ : ByteArray), false, s, p, b, 1, fa) := by
  refine Ev.step (fun k => by rw [page_Parse.j0]) (Ev.iten (by decide) ?_)
  refine Ev.step (fun k => by rw [page_Parse.j1]) ?_
  refine Ev.bindc (show octet_In_Fault.f s p b 1 fa = some (1, fa, s, p, b, 1, fa) from rfl) ?_
  refine Ev.bindc (show api_Fault_Bad.f 1 fa = some true from rfl) ?_
  exact Ev.itep rfl (Ev.some rfl)
theorem long_nil : Ev (fun k => page_long.f k (⟨#[]⟩ : ByteArray)) 0 := by
  have := long_ev (⟨#[]⟩ : ByteArray) (by decide)
  exact this
theorem fault_bad (s : ByteArray) (p b fa : Int) : octet_In_Fault.f s p b 1 fa = some (1, fa, s, p, b, 1, fa) := rfl
theorem bad_bad (fa : Int) : api_Fault_Bad.f 1 fa = some true := rfl
theorem at_any (s : ByteArray) (p b c fa : Int) : octet_In_At.f s p b c fa = some (wrap64 (b + p), s, p, b, c, fa) := rfl
/-- What is read of any text: if it is a page, the text begins with what is printed of it. -/
theorem parse_any (t : List Nat) (ht : ∀ x ∈ t, x < 256) (h27 : 27 ≤ t.length) (hz : t.length ≤ 100000) :
    ∃ (fl po se nu : Nat) (la bo : ByteArray) (ok : Bool) (s : ByteArray) (p b c fa : Int),
      Ev (fun k => page_Parse.f k (strN t) 0 0 0 0) ((fl : Int), (po : Int), (se : Int), (nu : Int), la, bo, ok, s, p, b, c, fa) ∧
      (ok = true → ∃ r, t = pgL fl po se nu la bo ++ r) := by
  have hsz : (strN t).size = t.length := size_strN t
  have ok0 : Ok (strN t) 0 := ⟨by omega, by omega⟩
  have hR : Pl.Rest (strN t) 0 t := Pl.Rest.strN ht
  generalize hSS : strN t = S at *
  obtain ⟨w4, t1, e1, l1⟩ := splitN t 4 (by omega)
  have n1 := congrArg List.length e1
  rw [List.length_append] at n1
  obtain ⟨v1, t2, e2, l2⟩ := splitN t1 1 (by omega)
  have n2 := congrArg List.length e2
  rw [List.length_append] at n2
  obtain ⟨f1, t3, e3, l3⟩ := splitN t2 1 (by omega)
  have n3 := congrArg List.length e3
  rw [List.length_append] at n3
  obtain ⟨x8, t4, e4, l4⟩ := splitN t3 8 (by omega)
  have n4 := congrArg List.length e4
  rw [List.length_append] at n4
  obtain ⟨y4, t5, e5, l5⟩ := splitN t4 4 (by omega)
  have n5 := congrArg List.length e5
  rw [List.length_append] at n5
  obtain ⟨z4, t6, e6, l6⟩ := splitN t5 4 (by omega)
  have n6 := congrArg List.length e6
  rw [List.length_append] at n6
  obtain ⟨s4, t7, e7, l7⟩ := splitN t6 4 (by omega)
  have n7 := congrArg List.length e7
  rw [List.length_append] at n7
  obtain ⟨c1, u, e8, l8⟩ := splitN t7 1 (by omega)
  have n8 := congrArg List.length e8
  rw [List.length_append] at n8
  subst e8 e7 e6 e5 e4 e3 e2
  obtain ⟨fl, rfl⟩ : ∃ fl, f1 = [fl] := by
    match f1, l3 with
    | [fl], _ => exact ⟨fl, rfl⟩
  obtain ⟨n, rfl⟩ : ∃ n, c1 = [n] := by
    match c1, l8 with
    | [n], _ => exact ⟨n, rfl⟩
  rw [e1] at hR
  have g1 := hR.next
  have g2 := g1.next
  have g3 := g2.next
  have g4 := g3.next
  have g5 := g4.next
  have g6 := g5.next
  have g7 := g6.next
  have g8 := g7.next
  simp only [l1, l2, l4, l5, l6, l7, List.length_cons, List.length_nil, Nat.zero_add, Nat.reduceAdd] at g1 g2 g3 g4 g5 g6 g7 g8
  have bx8 : ∀ x ∈ x8, x < 256 := fun x hx => g3.lt x (by simp [hx])
  have by4 : ∀ x ∈ y4, x < 256 := fun x hx => g4.lt x (by simp [hx])
  have bz4 : ∀ x ∈ z4, x < 256 := fun x hx => g5.lt x (by simp [hx])
  have bs4 : ∀ x ∈ s4, x < 256 := fun x hx => g6.lt x (by simp [hx])
  have hfl : fl < 256 := g2.lt fl (by simp)
  have hn : n < 256 := g7.lt n (by simp)
  have hpo := smN_lt x8 bx8
  have hse := smN_lt y4 by4
  have hnu := smN_lt z4 bz4
  rw [l4] at hpo
  rw [l5] at hse
  rw [l6] at hnu
  have k8 : (256 : Nat) ^ 8 = 18446744073709551616 := by decide
  have k4 : (256 : Nat) ^ 4 = 4294967296 := by decide
  have r8 := sm_smN x8 bx8
  have r5 := sm_smN y4 by4
  have r6 := sm_smN z4 bz4
  rw [l4] at r8
  rw [l5] at r5
  rw [l6] at r6
  have hLeft := rleft (b := 0) hR ok0 0
  have hnz : ¬ ((w4 ++ (v1 ++ ([fl] ++ (x8 ++ (y4 ++ (z4 ++ (s4 ++ ([n] ++ u)))))))).length : Int) = 0 := by rw [← e1]; omega
  -- the first words
  by_cases hw : w4 = nats (⟨#[79, 103, 103, 83]⟩ : ByteArray)
  case neg =>
    obtain ⟨fa', hno⟩ := want_no (b := 0) (⟨#[79, 103, 103, 83]⟩ : ByteArray) hR ok0 (by omega) 0 (by rw [l1]; rfl) (by decide) hw
    refine ⟨0, 0, 0, 0, (⟨#[]⟩ : ByteArray), (⟨#[]⟩ : ByteArray), false, S, 0, 0, 1, fa', ?_, fun h => absurd h (by decide)⟩
    unfold page_Parse.f
    refine Ev.bindc hLeft (Ev.iten hnz (Ev.bind hno ?_))
    refine Ev.bind (want_bad _ _ _ _ _) ?_
    refine Ev.bindc (big_bad _ 0 0 ok0 (Nat.zero_le _) _ _) ?_
    refine Ev.bindc (small_bad _ 0 0 ok0 (Nat.zero_le _) _ _) ?_
    refine Ev.bindc (small_bad _ 0 0 ok0 (Nat.zero_le _) _ _) ?_
    refine Ev.bindc (small_bad _ 0 0 ok0 (Nat.zero_le _) _ _) ?_
    refine Ev.bindc (at_any _ _ _ _ _) ?_
    refine Ev.bindc (take_bad _ 0 0 ok0 (Nat.zero_le _) _ _) ?_
    refine Ev.bindc (big_bad _ 0 0 ok0 (Nat.zero_le _) _ _) ?_
    refine Ev.bindc (take_bad _ 0 0 ok0 (Nat.zero_le _) _ _) ?_
    refine Ev.bind long_nil ?_
    refine Ev.bindc (take_bad _ 0 0 ok0 (Nat.zero_le _) _ _) ?_
    refine Ev.bindc (fault_bad _ _ _ _) ?_
    refine Ev.bindc (bad_bad _) ?_
    exact Ev.itep rfl (j0_bad _ _ _ _ _ _ _ _ _ _ _)
  have hW1 := rwant (b := 0) (⟨#[79, 103, 103, 83]⟩ : ByteArray) (by rw [← hw]; exact hR) ok0 0 (by decide)
  by_cases hv : v1 = nats (⟨#[0]⟩ : ByteArray)
  case neg =>
    obtain ⟨fa', hno⟩ := want_no (b := 0) (⟨#[0]⟩ : ByteArray) g1 ok0 (by omega) 0 (by rw [l2]; rfl) (by decide) hv
    refine ⟨0, 0, 0, 0, (⟨#[]⟩ : ByteArray), (⟨#[]⟩ : ByteArray), false, S, 4, 0, 1, fa', ?_, fun h => absurd h (by decide)⟩
    have q := g1.2
    unfold page_Parse.f
    refine Ev.bindc hLeft (Ev.iten hnz (Ev.bind hW1 (Ev.bind hno ?_)))
    refine Ev.bindc (big_bad _ _ 0 ok0 q _ _) ?_
    refine Ev.bindc (small_bad _ _ 0 ok0 q _ _) ?_
    refine Ev.bindc (small_bad _ _ 0 ok0 q _ _) ?_
    refine Ev.bindc (small_bad _ _ 0 ok0 q _ _) ?_
    refine Ev.bindc (at_any _ _ _ _ _) ?_
    refine Ev.bindc (take_bad _ _ 0 ok0 q _ _) ?_
    refine Ev.bindc (big_bad _ _ 0 ok0 q _ _) ?_
    refine Ev.bindc (take_bad _ _ 0 ok0 q _ _) ?_
    refine Ev.bind long_nil ?_
    refine Ev.bindc (take_bad _ _ 0 ok0 q _ _) ?_
    refine Ev.bindc (fault_bad _ _ _ _) ?_
    refine Ev.bindc (bad_bad _) ?_
    exact Ev.itep rfl (j0_bad _ _ _ _ _ _ _ _ _ _ _)
  have hW2 := rwant (b := 0) (⟨#[0]⟩ : ByteArray) (by rw [← hv]; exact g1) ok0 0 (by decide)
  have hB := rbig (b := 0) g2 ok0 0 1 rfl (by simp)
  have hS8 := rsmall (b := 0) g3 ok0 0 8 (by rw [l4]; rfl) (by omega)
  have hS4 := rsmall (b := 0) g4 ok0 0 4 (by rw [l5]; rfl) (by omega)
  have hS5 := rsmall (b := 0) g5 ok0 0 4 (by rw [l6]; rfl) (by omega)
  have hT := rtake (b := 0) g6 ok0 0 4 (by rw [l7]; rfl)
  have hC := rbig (b := 0) g7 ok0 0 1 rfl (by simp)
  have b1 : bigN [fl] = fl := by simp [bigN]
  have b2 : bigN [n] = n := by simp [bigN]
  simp only [b1, b2, l4, l5, l6, l7, List.length_cons, List.length_nil, Nat.zero_add, Nat.reduceAdd] at hB hS8 hS4 hS5 hT hC
  have f1 : (fl : Int) % 256 = (fl : Int) := by omega
  have f2 : ((smN y4 : Nat) : Int) % 4294967296 = ((smN y4 : Nat) : Int) := by omega
  have f3 : ((smN z4 : Nat) : Int) % 4294967296 = ((smN z4 : Nat) : Int) := by omega
  have bn : -9223372036854775808 ≤ (n : Int) ∧ (n : Int) ≤ 9223372036854775807 := by omega
  by_cases hlen : n ≤ u.length
  case neg =>
    have hsh := rtake_short (b := 0) g8 ok0 0 (n : Int) (by omega)
    refine ⟨0, 0, 0, 0, (⟨#[]⟩ : ByteArray), (⟨#[]⟩ : ByteArray), false, S, 27, 0, 1, ((0 : Nat) : Int) + (S.size : Int), ?_, fun h => absurd h (by decide)⟩
    unfold page_Parse.f
    refine Ev.bindc hLeft (Ev.iten hnz (Ev.bind hW1 (Ev.bind hW2 (Ev.bindc hB (Ev.bindc hS8 (Ev.bindc hS4 (Ev.bindc hS5 ?_)))))))
    refine Ev.bindc (at_any _ _ _ _ _) (Ev.bindc hT (Ev.bindc hC ?_))
    dsimp only
    rw [w64 bn]
    refine Ev.bindc hsh ?_
    refine Ev.bind long_nil ?_
    refine Ev.bindc (take_bad _ _ 0 ok0 g8.2 _ _) ?_
    refine Ev.bindc (fault_bad _ _ _ _) ?_
    refine Ev.bindc (bad_bad _) ?_
    exact Ev.itep rfl (j0_bad _ _ _ _ _ _ _ _ _ _ _)
  obtain ⟨la, u2, e9, l9⟩ := splitN u n hlen
  subst e9
  have bla : ∀ x ∈ la, x < 256 := fun x hx => g8.lt x (by simp [hx])
  have g9 := g8.next
  rw [l9] at g9
  have hTa := rtake (b := 0) g8 ok0 0 (n : Int) (by rw [l9])
  rw [l9] at hTa
  have hlo := long_ev (strN la) (by rw [size_strN]; omega)
  rw [nats_strN bla] at hlo
  have hlz := longN_le la bla
  by_cases hlen2 : longN la ≤ u2.length
  case neg =>
    have hsh := rtake_short (b := 0) g9 ok0 0 ((longN la : Nat) : Int) (by omega)
    refine ⟨0, 0, 0, 0, (⟨#[]⟩ : ByteArray), (⟨#[]⟩ : ByteArray), false, S, ((27 + n : Nat) : Int), 0, 1, ((0 : Nat) : Int) + (S.size : Int), ?_, fun h => absurd h (by decide)⟩
    unfold page_Parse.f
    refine Ev.bindc hLeft (Ev.iten hnz (Ev.bind hW1 (Ev.bind hW2 (Ev.bindc hB (Ev.bindc hS8 (Ev.bindc hS4 (Ev.bindc hS5 ?_)))))))
    refine Ev.bindc (at_any _ _ _ _ _) (Ev.bindc hT (Ev.bindc hC ?_))
    dsimp only
    rw [w64 bn]
    refine Ev.bindc hTa (Ev.bind hlo ?_)
    refine Ev.bindc hsh ?_
    refine Ev.bindc (fault_bad _ _ _ _) ?_
    refine Ev.bindc (bad_bad _) ?_
    exact Ev.itep rfl (j0_bad _ _ _ _ _ _ _ _ _ _ _)
  obtain ⟨bo, u3, e10, l10⟩ := splitN u2 (longN la) hlen2
  subst e10
  have hTb := rtake (b := 0) g9 ok0 0 ((longN la : Nat) : Int) (by rw [l10])
  have slz : (strN la).size = n := by rw [size_strN, l9]
  have sbz : (strN bo).size = longN la := by rw [size_strN, l10]
  have bbo : ∀ x ∈ bo, x < 256 := fun x hx => g9.lt x (by simp [hx])
  have hF := front_ev (po := smN x8) (se := smN y4) (nu := smN z4) hfl (by omega) (by omega) (by omega) (strN la) (strN bo)
  have hBk := back_ev (fl : Int) ((smN x8 : Nat) : Int) ((smN y4 : Nat) : Int) ((smN z4 : Nat) : Int) (strN la) (strN bo) (by omega) (by omega)
  have hSm := sum_ev (fl := fl) (po := smN x8) (se := smN y4) (nu := smN z4) (la := strN la) (bo := strN bo) hfl (by omega) (by omega)
  have hSb := sbytes_ev _ (sumP_lt (po := smN x8) (se := smN y4) (nu := smN z4) (la := strN la) (bo := strN bo) hfl (by omega))
  have start : ∀ r, Ev (fun k => page_Parse.j0 k (wrap64 (((0 : Nat) : Int) + ((22 : Nat) : Int))) ((strN (sm (sumP fl (smN x8) (smN y4) (smN z4) (strN la) (strN bo)) 4)).toList != (strN s4).toList) S ((27 + n + bo.length : Nat) : Int) ((0 : Nat) : Int) 0 0 (fl : Int) ((smN x8 : Nat) : Int) ((smN y4 : Nat) : Int) ((smN z4 : Nat) : Int) (strN la) (strN bo)) r → Ev (fun k => page_Parse.f k S 0 0 0 0) r := by
    intro r hj
    unfold page_Parse.f
    refine Ev.bindc hLeft (Ev.iten hnz (Ev.bind hW1 (Ev.bind hW2 (Ev.bindc hB (Ev.bindc hS8 (Ev.bindc hS4 (Ev.bindc hS5 ?_)))))))
    refine Ev.bindc (at_any _ _ _ _ _) (Ev.bindc hT (Ev.bindc hC ?_))
    dsimp only
    rw [w64 bn]
    refine Ev.bindc hTa (Ev.bind hlo (Ev.bindc hTb ?_))
    refine Ev.bindc (show octet_In_Fault.f S ((27 + n + bo.length : Nat) : Int) ((0 : Nat) : Int) 0 0 = some (0, 0, S, ((27 + n + bo.length : Nat) : Int), ((0 : Nat) : Int), 0, 0) from rfl) ?_
    refine Ev.bindc (show api_Fault_Bad.f 0 0 = some false from rfl) ?_
    refine Ev.iten (by decide) ?_
    dsimp only
    rw [f1, f2, f3]
    exact Ev.bind hF (Ev.bind hBk (Ev.bind hSm (Ev.bind hSb hj)))
  by_cases hsum : sm (sumP fl (smN x8) (smN y4) (smN z4) (strN la) (strN bo)) 4 = s4
  · refine ⟨fl, smN x8, smN y4, smN z4, strN la, strN bo, true, S, ((27 + n + bo.length : Nat) : Int), 0, 0, 0, start _ ?_, fun _ => ⟨u3, ?_⟩⟩
    · rw [hsum, show ((strN s4).toList != (strN s4).toList) = false by simp]
      refine Ev.step (fun k => by rw [page_Parse.j0]) (Ev.iten (by decide) ?_)
      refine Ev.step (fun k => by rw [page_Parse.j1]) ?_
      refine Ev.bindc (show octet_In_Fault.f S ((27 + n + bo.length : Nat) : Int) ((0 : Nat) : Int) 0 0 = some (0, 0, S, ((27 + n + bo.length : Nat) : Int), ((0 : Nat) : Int), 0, 0) from rfl) ?_
      refine Ev.bindc (show api_Fault_Bad.f 0 0 = some false from rfl) ?_
      exact Ev.iten (by decide) (Ev.some rfl)
    · rw [e1, hw, hv, pgL, hdL, bkL, hsum, r8, r5, r6, slz, nats_strN bla, nats_strN bbo]
      rw [show nats (⟨#[79, 103, 103, 83]⟩ : ByteArray) = [79, 103, 103, 83] from rfl, show nats (⟨#[0]⟩ : ByteArray) = [0] from rfl]
      simp
  · refine ⟨0, 0, 0, 0, (⟨#[]⟩ : ByteArray), (⟨#[]⟩ : ByteArray), false, S, ((27 + n + bo.length : Nat) : Int), 0, 1, wrap64 (((0 : Nat) : Int) + ((22 : Nat) : Int)), start _ ?_, fun h => absurd h (by decide)⟩
    have hne : ((strN (sm (sumP fl (smN x8) (smN y4) (smN z4) (strN la) (strN bo)) 4)).toList != (strN s4).toList) = true := by
      rw [bne_iff_ne, Ne, tl_inj]
      intro h
      have := congrArg nats h
      rw [nats_strN (sm_lt _ 4), nats_strN bs4] at this
      exact hsum this
    rw [hne]
    refine Ev.step (fun k => by rw [page_Parse.j0]) (Ev.itep rfl ?_)
    refine Ev.bindc (show octet_In_Fail.f S ((27 + n + bo.length : Nat) : Int) ((0 : Nat) : Int) 0 0 1 (wrap64 (((0 : Nat) : Int) + ((22 : Nat) : Int))) = some (S, ((27 + n + bo.length : Nat) : Int), ((0 : Nat) : Int), 1, wrap64 (((0 : Nat) : Int) + ((22 : Nat) : Int))) from rfl) ?_
    refine Ev.step (fun k => by rw [page_Parse.j1]) ?_
    refine Ev.bindc (fault_bad _ _ _ _) ?_
    refine Ev.bindc (bad_bad _) ?_
    exact Ev.itep rfl (Ev.some rfl)
/-! ### a text with another byte -/
theorem xor8 (a b : Nat) (ha : a < 256) (hb : b < 256) : Go.bits .xor .u8 (a : Int) (b : Int) = ((a ^^^ b : Nat) : Int) := by
  have h : a ^^^ b < 256 := Nat.xor_lt_two_pow (n := 8) ha hb
  simp only [Go.bits, BitVec.ofInt_natCast, BitVec.toNat_xor, BitVec.toNat_ofNat]
  rw [show 2 ^ IntKind.u8.bits = 256 from rfl, Nat.mod_eq_of_lt ha, Nat.mod_eq_of_lt hb]
  exact wu8 ⟨by omega, by omega⟩
theorem xor_ne (a b : Nat) (hb : b ≠ 0) : a ^^^ b ≠ a := by
  intro h
  apply hb
  have := congrArg (a ^^^ ·) h
  simpa [← Nat.xor_assoc] using this
theorem flip_nats (s : ByteArray) (at_ m : Nat) (h0 : 0 < s.size) (hm : m < 256) (hm0 : m ≠ 0) : nats (tellB s (at_ : Int) (m : Int)) ≠ nats s ∧ (nats (tellB s (at_ : Int) (m : Int))).length = s.size := by
  have hl : (nats s).length = s.size := nats_len s
  have hi : at_ % s.size < s.size := Nat.mod_lt _ h0
  have hi2 : at_ % s.size < (nats s).length := by omega
  have hc := nats_lt s _ (List.getElem_mem hi2)
  have hb : bytesOf s = ints (nats s) := nats_bytes s
  have hg : (bytesOf s).getD (at_ % s.size) 0 = (((nats s)[at_ % s.size] : Nat) : Int) := by
    rw [hb, ints, List.getD_eq_getElem?_getD, List.getElem?_map, List.getElem?_eq_getElem hi2]; rfl
  have ht : bytesOf (tellB s (at_ : Int) (m : Int)) = ints ((nats s).set (at_ % s.size) ((nats s)[at_ % s.size] ^^^ m)) := by
    rw [tellB, bytesOf_str (tell_range s _ _), tellI, Int.toNat_natCast, hg, xor8 _ _ hc hm, hb, ints, ints, List.map_set]
  have hn : nats (tellB s (at_ : Int) (m : Int)) = (nats s).set (at_ % s.size) ((nats s)[at_ % s.size] ^^^ m) := ints_inj ((bytes_ints _).symm.trans ht)
  rw [hn]
  refine ⟨fun h => ?_, by rw [List.length_set, hl]⟩
  have := congrArg (·[at_ % s.size]?) h
  simp only [List.getElem?_set_self hi2, List.getElem?_eq_getElem hi2, Option.some.injEq] at this
  exact xor_ne _ _ hm0 this
theorem spoilt_over (x1 x2 : Int) (a b c d : Int) (la bo : ByteArray) : Ev (fun k => diacriticlaw17_PageSpoilt.j0 k x1 x2 true a b c d la bo) true := by
  refine Ev.step (fun k => by rw [diacriticlaw17_PageSpoilt.j0]) ?_
  exact Ev.itep rfl (Ev.bind awake17 (Ev.some rfl))
theorem PageSpoilt : diacriticlaw17_PageSpoilt.Pure := by
  intro a b c d la bo x1 x2 h0 h1 h2 h3 h4 h5 h6 h7
  have r0 := wf_u8 h0
  have r1 := wf_u64 h1
  have r2 := wf_u32 h2
  have r3 := wf_u32 h3
  have r6 := wf_u16 h6
  have r7 := wf_u8 h7
  obtain ⟨fl, rfl⟩ := Int.eq_ofNat_of_zero_le r0.1
  obtain ⟨po, rfl⟩ := Int.eq_ofNat_of_zero_le r1.1
  obtain ⟨se, rfl⟩ := Int.eq_ofNat_of_zero_le r2.1
  obtain ⟨nu, rfl⟩ := Int.eq_ofNat_of_zero_le r3.1
  obtain ⟨at_, rfl⟩ := Int.eq_ofNat_of_zero_le r6.1
  obtain ⟨m, rfl⟩ := Int.eq_ofNat_of_zero_le r7.1
  apply Ev.rounds
  unfold diacriticlaw17_PageSpoilt.f
  by_cases c1 : (la.size : Int) > 300
  · exact Ev.itep c1 (spoilt_over _ _ _ _ _ _ _ _)
  refine Ev.iten c1 ?_
  by_cases c2 : (bo.size : Int) > 1000
  · exact Ev.itep c2 (spoilt_over _ _ _ _ _ _ _ _)
  refine Ev.iten c2 ?_
  by_cases c3 : m = 0
  · rw [show ((m : Int) == 0) = true by rw [c3]; rfl]; exact spoilt_over _ _ _ _ _ _ _ _
  rw [show ((m : Int) == 0) = false by rw [beq_eq_false_iff_ne]; omega]
  refine Ev.step (fun k => by rw [diacriticlaw17_PageSpoilt.j0]) (Ev.iten (by decide) ?_)
  refine Ev.bind (print_ev (by omega) (by omega) (by omega) (by omega) la bo (by omega) (by omega)) ?_
  by_cases hk : chkN la bo = 0
  case neg =>
    simp only [if_neg hk]
    refine Ev.bindc (show api_Fault_Bad.f ((chkN la bo : Nat) : Int) 0 = some true by
      unfold api_Fault_Bad.f; rw [show (((chkN la bo : Nat) : Int) != 0) = true by rw [bne_iff_ne]; omega]) ?_
    exact Ev.itep rfl (Ev.bind awake17 (Ev.some rfl))
  simp only [if_pos hk]
  rw [hk]
  refine Ev.bindc (show api_Fault_Bad.f ((0 : Nat) : Int) 0 = some false from rfl) (Ev.iten (by decide) ?_)
  have hl2 : la.size ≤ 255 := by
    have hk' := hk
    unfold chkN at hk'
    split at hk' <;> omega
  have hlt := pgL_lt (fl := fl) (po := po) (se := se) (nu := nu) (la := la) (bo := bo) (by omega) hl2
  have hlen := pgL_len fl po se nu la bo
  have hsz := size_strN (pgL fl po se nu la bo)
  obtain ⟨g1, g2⟩ := flip_nats (strN (pgL fl po se nu la bo)) at_ m (by omega) (by omega) c3
  rw [nats_strN hlt] at g1
  have hT := strN_nats (tellB (strN (pgL fl po se nu la bo)) (at_ : Int) (m : Int))
  obtain ⟨q1, q2, q3, q4, q5, q6, ok, s, p, b, cc, fa, hev, hq⟩ := parse_any (nats (tellB (strN (pgL fl po se nu la bo)) (at_ : Int) (m : Int))) (nats_lt _) (by omega) (by omega)
  rw [hT] at hev
  refine Ev.iten (by rw [tl_nil]; omega) (Ev.itep ⟨by omega, by omega, by omega⟩ ?_)
  refine Ev.bindc (show octet_Read.f (tellB (strN (pgL fl po se nu la bo)) (at_ : Int) (m : Int)) = some (tellB (strN (pgL fl po se nu la bo)) (at_ : Int) (m : Int), 0, 0, 0, 0) from rfl) ?_
  refine Ev.bind hev (Ev.bind awake17 (Ev.itep rfl ?_))
  cases ok with
  | false => exact Ev.iten (by simp) (Ev.some rfl)
  | true =>
    refine Ev.itep rfl (Ev.some ?_)
    obtain ⟨r, hr⟩ := hq rfl
    rw [← Bool.not_eq_false]
    intro hf
    simp only [Bool.or_eq_false_iff, Bool.not_eq_false', beq_iff_eq, tl_inj] at hf
    obtain ⟨⟨e1, e2, e3, e4⟩, e5, e6⟩ := hf
    have f1 := Int.ofNat.inj e1
    have f2 := Int.ofNat.inj e2
    have f3 := Int.ofNat.inj e3
    have f4 := Int.ofNat.inj e4
    subst f1 f2 f3 f4 e5 e6
    have hn := congrArg List.length hr
    rw [List.length_append, g2, hsz] at hn
    have hr0 : r = [] := List.eq_nil_of_length_eq_zero (by omega)
    rw [hr0, List.append_nil] at hr
    exact g1 hr
end Go.Proofs.Ytmfamkkikiglmaa.Pure
