/- A frame's size tells just how many bytes stand behind its head; in version 4 each of its bytes is below 128, and a spread frame's data is clean of sound but for the end: the plain law. -/
import Derived.Test.YtlmhlmendnjmlaaDoorPAllx17
import Derived.Test.YtlmhlmendnjmlaaDoorPAllx23
import Derived.Test.YtlmhlmendnjmlaaDoorPAllx9
import Derived.Test.YtlmhlmendnjmlaaDoorLfr
namespace Go.Proofs.YtlmhlmendnjmlaaDoor.Pure
open Go.RowKit Go.Proofs.YtlmhlmendnjmlaaDoor.PAll Go.Proofs.YtlmhlmendnjmlaaDoor.Pl Go.Proofs.YtlmhlmendnjmlaaDoorW.PrintWords Go.Proofs.YtlmhlmendnjmlaaDoorW.PrintLast
set_option linter.unusedVariables false
set_option linter.unusedSimpArgs false

theorem awake13 : Ev (fun k => diacriticlaw13_awake.f k) true := Ev.of diacriticlaw13_awake.mono (k := 60) (by kernel_rfl)
theorem join_i64 (i : Nat) (x y : Int) (h0 : 0 ≤ x) (h1 : x % 2 ^ i = 0) (h2 : x < 2 ^ 62) (h3 : 0 ≤ y) (h4 : y < 2 ^ i) (h5 : y < 2 ^ 62) : Go.bits .or .i64 x y = x + y :=
  bits_join .i64 62 (by decide) (fun n h0 h1 => by rw [IntKind.wrap_i64]; omega) i x y h0 h1 h2 h3 h4 h5
theorem three_b (a b c : Nat) (ha : a < 256) (hb : b < 256) (hc : c < 256) :
    Go.bits .or .i64 (Go.bits .or .i64 (wrap64 ((wrap64 (a : Int)) * 65536)) (wrap64 ((wrap64 (b : Int)) * 256))) (wrap64 (c : Int)) = (a : Int) * 65536 + (b : Int) * 256 + (c : Int) := by
  rw [w64 (n := (a : Int)) (by omega), w64 (n := (b : Int)) (by omega), w64 (n := (c : Int)) (by omega), w64 (by omega), w64 (by omega)]
  rw [join_i64 16 ((a : Int) * 65536) ((b : Int) * 256) (by omega) (by omega) (by omega) (by omega) (by omega) (by omega)]
  exact join_i64 8 _ _ (by omega) (by omega) (by omega) (by omega) (by omega) (by omega)
theorem four_b (a b c d : Nat) (ha : a < 256) (hb : b < 256) (hc : c < 256) (hd : d < 256) :
    Go.bits .or .i64 (Go.bits .or .i64 (Go.bits .or .i64 (wrap64 ((wrap64 (a : Int)) * 16777216)) (wrap64 ((wrap64 (b : Int)) * 65536))) (wrap64 ((wrap64 (c : Int)) * 256))) (wrap64 (d : Int)) = (a : Int) * 16777216 + (b : Int) * 65536 + (c : Int) * 256 + (d : Int) := by
  rw [w64 (n := (a : Int)) (by omega), w64 (n := (b : Int)) (by omega), w64 (n := (c : Int)) (by omega), w64 (n := (d : Int)) (by omega), w64 (by omega), w64 (by omega), w64 (by omega)]
  rw [join_i64 24 ((a : Int) * 16777216) ((b : Int) * 65536) (by omega) (by omega) (by omega) (by omega) (by omega) (by omega)]
  rw [join_i64 16 _ ((c : Int) * 256) (by omega) (by omega) (by omega) (by omega) (by omega) (by omega)]
  exact join_i64 8 _ _ (by omega) (by omega) (by omega) (by omega) (by omega) (by omega)
theorem four_s (a b c d : Nat) (ha : a < 128) (hb : b < 128) (hc : c < 128) (hd : d < 128) :
    Go.bits .or .i64 (Go.bits .or .i64 (Go.bits .or .i64 (wrap64 ((wrap64 (a : Int)) * 2097152)) (wrap64 ((wrap64 (b : Int)) * 16384))) (wrap64 ((wrap64 (c : Int)) * 128))) (wrap64 (d : Int)) = (a : Int) * 2097152 + (b : Int) * 16384 + (c : Int) * 128 + (d : Int) := by
  rw [w64 (n := (a : Int)) (by omega), w64 (n := (b : Int)) (by omega), w64 (n := (c : Int)) (by omega), w64 (n := (d : Int)) (by omega), w64 (by omega), w64 (by omega), w64 (by omega)]
  rw [join_i64 21 ((a : Int) * 2097152) ((b : Int) * 16384) (by omega) (by omega) (by omega) (by omega) (by omega) (by omega)]
  rw [join_i64 14 _ ((c : Int) * 128) (by omega) (by omega) (by omega) (by omega) (by omega) (by omega)]
  exact join_i64 7 _ _ (by omega) (by omega) (by omega) (by omega) (by omega) (by omega)
theorem or_u8 (a b : Nat) (ha : a < 128) (hb : b < 128) : ∃ c : Nat, c < 128 ∧ Go.bits .or .u8 (a : Int) (b : Int) = (c : Int) :=
  ⟨a ||| b, Nat.or_lt_two_pow (n := 7) ha hb, (bits_nat .u8 8 (by decide) (fun n h0 h1 => wu8 (by omega)) a b (by omega) (by omega)).2⟩
theorem or_four (a b c d : Nat) (ha : a < 128) (hb : b < 128) (hc : c < 128) (hd : d < 128) : Go.bits .or .u8 (Go.bits .or .u8 (Go.bits .or .u8 (a : Int) (b : Int)) (c : Int)) (d : Int) < 128 := by
  obtain ⟨x, hx, e⟩ := or_u8 a b ha hb
  obtain ⟨y, hy, e2⟩ := or_u8 x c hx hc
  obtain ⟨z, hz, e3⟩ := or_u8 y d hy hd
  rw [e, e2, e3]; omega
theorem bt_mid {l : List Nat} (h : ∀ x ∈ l, x < 256) (pre : List Nat) (x : Nat) (post : List Nat) (e : l = pre ++ x :: post) (i : Int) (hi : i = (pre.length : Nat)) : bt (strN l) i = (x : Int) := by
  subst hi
  have hl : pre.length < l.length := by rw [e]; simp
  rw [bt_strN l h pre.length hl]
  have : l[pre.length] = x := by subst e; simp
  rw [this]
theorem good_get : ∀ (l : List Int), goodI l → ∀ (i : Nat) (b c : Int), l[i]? = some b → l[i + 1]? = some c → b = 255 → c < 224
  | [], _, i, b, c, h, _, _ => by simp at h
  | [x], _, i, b, c, _, h, _ => by simp at h
  | x :: y :: r, hg, i, b, c, h1, h2, h3 => by
    obtain ⟨g1, g2⟩ := (good_cons x y r).mp hg
    cases i with
    | zero =>
      simp at h1 h2
      subst h1 h2
      exact g1 h3
    | succ i => exact good_get (y :: r) g2 i b c (by simpa using h1) (by simpa using h2) h3
/-- Spread bytes behind other ones: no place of theirs looks like sound. -/
theorem good_behind (pre : List Nat) (bo : ByteArray) (hp : ∀ x ∈ pre, x < 256) (i : Nat) (h : pre.length ≤ i) (h2 : i + 1 < (strN (pre ++ nats (putS bo))).size) (h3 : bt (strN (pre ++ nats (putS bo))) (i : Int) = 255) : bt (strN (pre ++ nats (putS bo))) ((i + 1 : Nat) : Int) < 224 := by
  have e : bytesOf (strN (pre ++ nats (putS bo))) = ints pre ++ putI (bytesOf bo) := by
    rw [strN_app, strN_nats, bytesOf_app, bytes_putS, bytes_ints, nats_strN hp]
  have hl : (ints pre).length = pre.length := by simp [ints]
  have g1 := bt_get (strN (pre ++ nats (putS bo))) i (by omega)
  have g2 := bt_get (strN (pre ++ nats (putS bo))) (i + 1) h2
  rw [e, List.getElem?_append_right (by omega), hl] at g1 g2
  rw [show i + 1 - pre.length = i - pre.length + 1 by omega] at g2
  exact good_get _ (good_put (bytesOf bo)) _ _ _ g1 g2 h3
theorem sizes_end (s : ByteArray) (n head : Int) (fin : (s.size : Int) = wrap64 (head + n)) :
    Ev (fun k => (diacriticlaw13_awake.f k).bind fun t567 => (if t567 = true then (some ((s.size : Int) == (wrap64 (head + n)))) else (some false))) true :=
  Ev.bind awake13 (Ev.itep rfl (Ev.some (by rw [← fin]; simp)))
theorem sizes_loop (s : ByteArray) (n : Int) (head : Nat) (hs : s.size ≤ 100000) (hh : head ≤ 10) (h0 : 0 < s.size) (fin : (s.size : Int) = wrap64 ((head : Int) + n))
    (good : ∀ i : Nat, head + 5 < i → i + 1 < s.size → bt s (i : Int) = 255 → bt s ((i + 1 : Nat) : Int) < 224) : ∀ (d i : Nat), s.size ≤ i + d + 1 → i ≤ s.size →
    Ev (fun k => diacriticlaw13_FrameSizes.l0 k s n (head : Int) (i : Int)) true
  | 0, i, h, hi => by
    refine Ev.step (fun k => by rw [diacriticlaw13_FrameSizes.l0]) ?_
    rw [w64 (n := (s.size : Int) - 1) (by omega)]
    exact Ev.iten (by omega) (sizes_end s n _ fin)
  | d + 1, i, h, hi => by
    refine Ev.step (fun k => by rw [diacriticlaw13_FrameSizes.l0]) ?_
    have w : wrap64 ((i : Int) + 1) = ((i + 1 : Nat) : Int) := by rw [w64 (by omega)]; omega
    rw [w64 (n := (s.size : Int) - 1) (by omega), w, w64 (n := (head : Int) + 5) (by omega)]
    by_cases hlt : i + 1 < s.size
    · have next := sizes_loop s n head hs hh h0 fin good d (i + 1) (by omega) (by omega)
      refine Ev.itep (by omega) (Ev.itep (by omega) (Ev.itep (by omega) ?_))
      by_cases hb : bt s (i : Int) = 255
      · refine Ev.itep hb (Ev.itep (by omega) (Ev.itep (by omega) ?_))
        by_cases hc : bt s ((i + 1 : Nat) : Int) ≥ 224
        · refine Ev.itep hc (Ev.iten ?_ next)
          intro hg
          have := good i (by omega) hlt hb
          omega
        · exact Ev.iten hc next
      · exact Ev.iten hb next
    · exact Ev.iten (by omega) (sizes_end s n _ fin)
theorem sizes_j2 (v : Int) (s : ByteArray) (n : Int) (head : Nat) (hs : s.size ≤ 100000) (hh : head ≤ 10) (h0 : 0 < s.size) (hle : head ≤ s.size) (fin : (s.size : Int) = wrap64 ((head : Int) + n)) (id : ByteArray) (st fo gr at_ : Int) (bo : ByteArray)
    (good : sprB v fo = true → ∀ i : Nat, head + 5 < i → i + 1 < s.size → bt s (i : Int) = 255 → bt s ((i + 1 : Nat) : Int) < 224) :
    Ev (fun k => diacriticlaw13_FrameSizes.j2 k v s n (head : Int) id st fo gr bo at_) true := by
  refine Ev.step (fun k => by rw [diacriticlaw13_FrameSizes.j2]) (Ev.bindc (spread_ev id st fo v) ?_)
  by_cases h : sprB v fo = true
  · exact Ev.itep h (sizes_loop s n head hs hh h0 fin (good h) s.size head (by omega) hle)
  · exact Ev.iten h (sizes_end s n _ fin)
theorem spr_four {v fo : Int} (h : sprB v fo = true) : v = 4 := by
  by_cases h4 : v = 4
  · exact h4
  · exfalso
    revert h
    unfold sprB frame_Head_Spread.f
    rw [locked_ev]
    simp only [Option.bind_some]
    rw [if_neg h4]
    split <;> simp
theorem sizes_over (k_ : Nat) (v : Int) (id : ByteArray) (st fo gr at_ : Int) (bo : ByteArray) : Ev (fun k => diacriticlaw13_FrameSizes.j0 k v true id st fo gr bo at_) true :=
  Ev.step (fun k => by rw [diacriticlaw13_FrameSizes.j0]) (Ev.itep rfl (Ev.bind awake13 (Ev.some rfl)))
theorem list3 (l : List Nat) (h : l.length = 3) : ∃ a b c, l = [a, b, c] := by
  match l, h with
  | [a, b, c], _ => exact ⟨a, b, c, rfl⟩
theorem list4 (l : List Nat) (h : l.length = 4) : ∃ a b c d, l = [a, b, c, d] := by
  match l, h with
  | [a, b, c, d], _ => exact ⟨a, b, c, d, rfl⟩
theorem FrameSizes : diacriticlaw13_FrameSizes.Pure := by
  intro v id st fo gr bo at_ h0 h1 h2 h3 h4 h5 h6
  have r1 := wf_u8 h2
  have r2 := wf_u8 h3
  have r3 := wf_u8 h4
  obtain ⟨st, rfl⟩ := Int.eq_ofNat_of_zero_le r1.1
  obtain ⟨fo, rfl⟩ := Int.eq_ofNat_of_zero_le r2.1
  obtain ⟨gr, rfl⟩ := Int.eq_ofNat_of_zero_le r3.1
  apply Ev.rounds
  unfold diacriticlaw13_FrameSizes.f
  by_cases hz : (bo.size : Int) > 1000
  · exact Ev.itep hz (sizes_over 0 _ _ _ _ _ _ _)
  refine Ev.iten hz ?_
  by_cases hz2 : (id.size : Int) > 100
  · rw [decide_eq_true hz2]; exact sizes_over 0 _ _ _ _ _ _ _
  rw [decide_eq_false hz2]
  refine Ev.step (fun k => by rw [diacriticlaw13_FrameSizes.j0]) (Ev.iten (by decide) ?_)
  rcases chk_cases v id st fo gr with hc | hc
  case inr => exact Ev.bind (print_bad v id (by omega) st fo gr bo at_ hc) (Ev.bindc rfl (Ev.itep (by decide) (Ev.bind awake13 (Ev.some rfl))))
  refine Ev.bind (print_ok v id (by omega) st fo gr (by omega) (by omega) (by omega) bo at_ (by omega) hc) (Ev.bindc rfl (Ev.iten (by simp) ?_))
  have hd := datL_len v fo gr bo
  have hlt := frmL_lt (v := v) (id := id) (st := st) (fo := fo) (gr := gr) (bo := bo) (by omega) (by omega) (by omega)
  have hidl := nats_len id
  obtain ⟨hn, hvs, -⟩ := chk_zero hc
  have hsize : (strN (frmL v id st fo gr bo)).size = (frmL v id st fo gr bo).length := size_strN _
  have go : ∀ (b : Bool), b = false → Ev (fun k => diacriticlaw13_FrameSizes.j1 k v (strN (frmL v id st fo gr bo)) b id (st : Int) (fo : Int) (gr : Int) bo at_) true := by
    intro b hb
    subst hb
    refine Ev.step (fun k => by rw [diacriticlaw13_FrameSizes.j1]) (Ev.iten (by decide) ?_)
    rcases vers hn with ⟨hv, hi⟩ | ⟨hv, hi⟩ | ⟨hv, hi⟩
    · obtain ⟨a, b, c, hl⟩ := list3 (nats id) (by omega)
      have e : frmL v id st fo gr bo = a :: b :: c :: ((datL v fo gr bo).length / 256 / 256 % 256) :: ((datL v fo gr bo).length / 256 % 256) :: ((datL v fo gr bo).length % 256) :: datL v fo gr bo := by
        rw [frmL, hl, numL, flgL, if_pos hv, if_pos hv]; simp [sm]
      have hln := congrArg List.length e
      simp only [List.length_cons] at hln
      generalize datL v fo gr bo = D at e hln hd
      generalize frmL v id st fo gr bo = F at e hln hlt hsize
      refine Ev.itep hv (Ev.itep (by omega) (Ev.itep (by omega) (Ev.itep (by omega) ?_)))
      rw [bt_mid hlt [a, b, c] _ _ e 3 rfl, bt_mid hlt [a, b, c, _] _ _ e 4 rfl, bt_mid hlt [a, b, c, _, _] _ _ e 5 rfl, three_b _ _ _ (by omega) (by omega) (by omega)]
      refine sizes_j2 v (strN F) _ 6 (by omega) (by omega) (by omega) (by omega) ?_ id _ _ _ _ bo (fun h => absurd (spr_four h) (by omega))
      rw [w64 (by omega)]; omega
    · obtain ⟨a, b, c, d, hl⟩ := list4 (nats id) (by omega)
      have e : frmL v id st fo gr bo = a :: b :: c :: d :: ((datL v fo gr bo).length / 256 / 256 / 256 % 256) :: ((datL v fo gr bo).length / 256 / 256 % 256) :: ((datL v fo gr bo).length / 256 % 256) :: ((datL v fo gr bo).length % 256) :: st :: fo :: datL v fo gr bo := by
        rw [frmL, hl, numL, flgL, if_neg (show ¬ v = 2 by omega), if_neg (show ¬ v = 2 by omega), if_pos hv]; simp [sm]
      have hln := congrArg List.length e
      simp only [List.length_cons] at hln
      generalize datL v fo gr bo = D at e hln hd
      generalize frmL v id st fo gr bo = F at e hln hlt hsize
      refine Ev.iten (by omega) (Ev.itep hv (Ev.itep (by omega) (Ev.itep (by omega) (Ev.itep (by omega) (Ev.itep (by omega) ?_)))))
      rw [bt_mid hlt [a, b, c, d] _ _ e 4 rfl, bt_mid hlt [a, b, c, d, _] _ _ e 5 rfl, bt_mid hlt [a, b, c, d, _, _] _ _ e 6 rfl, bt_mid hlt [a, b, c, d, _, _, _] _ _ e 7 rfl, four_b _ _ _ _ (by omega) (by omega) (by omega) (by omega)]
      refine sizes_j2 v (strN F) _ 10 (by omega) (by omega) (by omega) (by omega) ?_ id _ _ _ _ bo (fun h => absurd (spr_four h) (by omega))
      rw [w64 (by omega)]; omega
    · obtain ⟨a, b, c, d, hl⟩ := list4 (nats id) (by omega)
      have e : frmL v id st fo gr bo = a :: b :: c :: d :: ((datL v fo gr bo).length / 2097152 % 128) :: ((datL v fo gr bo).length / 16384 % 128) :: ((datL v fo gr bo).length / 128 % 128) :: ((datL v fo gr bo).length % 128) :: st :: fo :: datL v fo gr bo := by
        rw [frmL, hl, numL, flgL, if_neg (show ¬ v = 2 by omega), if_neg (show ¬ v = 2 by omega), if_neg (show ¬ v = 3 by omega)]; simp [sevens]
      have hg : sprB v (fo : Int) = true → ∃ pre : List Nat, frmL v id st fo gr bo = pre ++ nats (putS bo) ∧ pre.length ≤ 15 ∧ ∀ x ∈ pre, x < 256 := by
        intro hs
        refine ⟨nats id ++ (numL v (datL v fo gr bo).length ++ (flgL v st fo ++ (grpL v fo gr ++ meaL v fo bo.size))), ?_, ?_, ?_⟩
        · have e1 : datL v fo gr bo = grpL v fo gr ++ (meaL v fo bo.size ++ nats (putS bo)) := by rw [datL, bodL, if_pos hs]
          rw [frmL]
          simp only [List.append_assoc]
          rw [← e1]
        · have z1 := numL_len v (datL v fo gr bo).length
          have z2 := flgL_len v st fo
          have z3 := grpL_len v fo gr
          have z4 := meaL_len v fo bo.size
          simp only [List.length_append]; omega
        · intro x hx
          simp only [List.mem_append] at hx
          rcases hx with h | h | h | h | h
          · exact nats_lt _ x h
          · exact numL_lt x h
          · exact flgL_lt (by omega) (by omega) x h
          · exact grpL_lt (by omega) x h
          · exact meaL_lt x h
      have hln := congrArg List.length e
      simp only [List.length_cons] at hln
      generalize datL v fo gr bo = D at e hln hd
      generalize frmL v id st fo gr bo = F at e hln hlt hsize hg
      refine Ev.iten (by omega) (Ev.iten (by omega) (Ev.itep hv (Ev.itep (by omega) (Ev.itep (by omega) (Ev.itep (by omega) (Ev.itep (by omega) ?_))))))
      rw [bt_mid hlt [a, b, c, d] _ _ e 4 rfl, bt_mid hlt [a, b, c, d, _] _ _ e 5 rfl, bt_mid hlt [a, b, c, d, _, _] _ _ e 6 rfl, bt_mid hlt [a, b, c, d, _, _, _] _ _ e 7 rfl, four_s _ _ _ _ (by omega) (by omega) (by omega) (by omega)]
      refine Ev.iten (by have := or_four (D.length / 2097152 % 128) (D.length / 16384 % 128) (D.length / 128 % 128) (D.length % 128) (by omega) (by omega) (by omega) (by omega); omega) ?_
      refine sizes_j2 v (strN F) _ 10 (by omega) (by omega) (by omega) (by omega) ?_ id _ _ _ _ bo ?_
      · rw [w64 (by omega)]; omega
      · intro hs i hi h2 h3
        obtain ⟨pre, hp, hpl, hplt⟩ := hg hs
        rw [hp] at h2 h3 ⊢
        exact good_behind pre bo hplt i (by omega) h2 h3
  have hlen : (v = 2 → 6 ≤ (frmL v id st fo gr bo).length) ∧ (v ≠ 2 → 10 ≤ (frmL v id st fo gr bo).length) := by
    rcases vers hn with ⟨hv, hi⟩ | ⟨hv, hi⟩ | ⟨hv, hi⟩
    · refine ⟨fun _ => ?_, fun h => absurd hv h⟩
      rw [frmL, numL, flgL, if_pos hv, if_pos hv]; simp [sm_len]; omega
    · refine ⟨fun h => by omega, fun _ => ?_⟩
      rw [frmL, numL, flgL, if_neg (show ¬ v = 2 by omega), if_neg (show ¬ v = 2 by omega), if_pos hv]; simp [sm_len]; omega
    · refine ⟨fun h => by omega, fun _ => ?_⟩
      rw [frmL, numL, flgL, if_neg (show ¬ v = 2 by omega), if_neg (show ¬ v = 2 by omega), if_neg (show ¬ v = 3 by omega)]; simp [sevens]; omega
  by_cases hv2 : v = 2
  · have := hlen.1 hv2
    exact Ev.iten (by show ¬ (((strN (frmL v id st fo gr bo)).size : Nat) : Int) < 6; omega) (Ev.iten (by omega) (go false rfl))
  · have := hlen.2 hv2
    refine Ev.iten (by show ¬ (((strN (frmL v id st fo gr bo)).size : Nat) : Int) < 6; omega) ?_
    by_cases hv3 : v > 2
    · exact Ev.itep hv3 (go _ (decide_eq_false (by show ¬ (((strN (frmL v id st fo gr bo)).size : Nat) : Int) < 10; omega)))
    · exact Ev.iten hv3 (go false rfl)

end Go.Proofs.YtlmhlmendnjmlaaDoor.Pure
