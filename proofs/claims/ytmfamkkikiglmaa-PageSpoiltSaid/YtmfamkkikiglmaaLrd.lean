/- A text that is read from a place on, with what is still there as a list of numbers. -/
import Derived.Test.YtmfamkkikiglmaaPAllx3
import Derived.Test.YtmfamkkikiglmaaPAllx8
import Derived.Test.YtmfamkkikiglmaaPAllx9
import Derived.Test.YtmfamkkikiglmaaLread
import Derived.Test.YtmfamkkikiglmaaLsum
namespace Go.Proofs.Ytmfamkkikiglmaa.Pl
open Go.RowKit Go.Proofs.Ytmfamkkikiglmaa.PAll Go.Proofs.YtmfamkkikiglmaaW.PrintWords Go.Proofs.YtmfamkkikiglmaaW.PrintLast Go.Proofs.YtmfamkkikiglmaaW.PrintMore
set_option linter.unusedVariables false
set_option linter.unusedSimpArgs false

def strN (l : List Nat) : ByteArray := strOfNums (ints l)
theorem bytes_ints (s : ByteArray) : bytesOf s = ints (nats s) := nats_bytes s
theorem ints_inj {a b : List Nat} (h : ints a = ints b) : a = b := by
  refine (List.map_inj_right (f := fun n : Nat => (n : Int)) ?_).mp h
  intro x y hxy; exact Int.ofNat.inj hxy
theorem strN_nats (s : ByteArray) : strN (nats s) = s := by rw [strN, ← bytes_ints, str_bytesOf]
theorem nats_strN {l : List Nat} (h : ∀ x ∈ l, x < 256) : nats (strN l) = l := by
  apply ints_inj
  rw [← bytes_ints, strN, bytesOf_str (ints_range l h)]
theorem nats_inj {s t : ByteArray} (h : nats s = nats t) : s = t := by rw [← strN_nats s, ← strN_nats t, h]
theorem strN_app (a b : List Nat) : strN (a ++ b) = strN a ++ strN b := by rw [strN, ints_app, str_app]; rfl
theorem size_strN (l : List Nat) : (strN l).size = l.length := by rw [strN, size_str]; simp [ints]
theorem nats_ext (s : ByteArray) (i j : Nat) : nats (s.extract i j) = ((nats s).drop i).take (j - i) := by
  apply ints_inj
  rw [← bytes_ints, bytesOf_ext, bytes_ints]
  simp [ints, List.map_drop, List.map_take]
theorem bt_nats (s : ByteArray) (i : Nat) (h : i < s.size) : bt s (i : Int) = (((nats s).getD i 0 : Nat) : Int) := by
  rw [bt_getD, bytes_ints, Int.toNat_natCast, List.getD_eq_getElem?_getD, List.getD_eq_getElem?_getD, ints, List.getElem?_map]
  have : i < (nats s).length := by rw [nats_len]; exact h
  rw [List.getElem?_eq_getElem this]; rfl

/-- From a place on a text goes on with these bytes. -/
def Rest (s : ByteArray) (p : Nat) (l : List Nat) : Prop := (nats s).drop p = l ∧ p ≤ s.size
theorem Rest.size {s : ByteArray} {p : Nat} {l : List Nat} (h : Rest s p l) : s.size = p + l.length := by
  have h1 := congrArg List.length h.1
  rw [List.length_drop, nats_len] at h1
  have := h.2; omega
theorem Rest.start (s : ByteArray) : Rest s 0 (nats s) := ⟨rfl, Nat.zero_le _⟩
theorem Rest.strN {l : List Nat} (h : ∀ x ∈ l, x < 256) : Rest (Pl.strN l) 0 l := ⟨by rw [nats_strN h]; rfl, Nat.zero_le _⟩
theorem Rest.next {s : ByteArray} {p : Nat} {x r : List Nat} (h : Rest s p (x ++ r)) : Rest s (p + x.length) r := by
  have hs := h.size
  rw [List.length_append] at hs
  refine ⟨?_, by omega⟩
  rw [← List.drop_drop, h.1, List.drop_left]
theorem Rest.ext {s : ByteArray} {p : Nat} {x r : List Nat} (h : Rest s p (x ++ r)) : s.extract p (p + x.length) = Pl.strN x := by
  apply nats_inj
  have hx : ∀ y ∈ x, y < 256 := by
    intro y hy
    have : y ∈ (nats s).drop p := by rw [h.1]; simp [hy]
    exact nats_lt s y (List.mem_of_mem_drop this)
  rw [nats_ext, h.1, nats_strN hx, show p + x.length - p = x.length by omega, List.take_left]
theorem Rest.lt {s : ByteArray} {p : Nat} {l : List Nat} (h : Rest s p l) : ∀ x ∈ l, x < 256 := by
  intro x hx
  rw [← h.1] at hx
  exact nats_lt s x (List.mem_of_mem_drop hx)

/-! ### steps where nothing was wrong -/
abbrev Ok (s : ByteArray) (b : Nat) : Prop := s.size ≤ 140737488355328 ∧ b ≤ 140737488355328
theorem rtake {s : ByteArray} {p b : Nat} {x r : List Nat} (h : Rest s p (x ++ r)) (ok : Ok s b) (fa n : Int) (hn : n = x.length) :
    octet_In_Take.f s (p : Int) (b : Int) 0 fa n = some (strN x, s, ((p + x.length : Nat) : Int), (b : Int), 0, fa) := by
  obtain ⟨o1, o2⟩ := ok
  have hs := h.size
  rw [List.length_append] at hs
  subst hn
  unfold octet_In_Take.f
  rw [if_pos (by omega), if_pos rfl, if_pos (by omega)]
  have e : (p : Int) + ((x.length : Nat) : Int) = ((p + x.length : Nat) : Int) := by omega
  rw [e, Int.toNat_natCast, Int.toNat_natCast, h.ext]
theorem rtake_short {s : ByteArray} {p b : Nat} {l : List Nat} (h : Rest s p l) (ok : Ok s b) (fa n : Int) (hn : (l.length : Int) < n) :
    octet_In_Take.f s (p : Int) (b : Int) 0 fa n = some (⟨#[]⟩, s, (p : Int), (b : Int), 1, (b : Int) + s.size) := by
  obtain ⟨o1, o2⟩ := ok
  have hs := h.size
  unfold octet_In_Take.f
  rw [if_pos (by omega), if_pos rfl, if_neg (by omega)]
theorem take_bad (s : ByteArray) (p b : Nat) (ok : Ok s b) (hp : p ≤ s.size) (fa n : Int) : octet_In_Take.f s (p : Int) (b : Int) 1 fa n = some (⟨#[]⟩, s, (p : Int), (b : Int), 1, fa) := by
  obtain ⟨o1, o2⟩ := ok
  unfold octet_In_Take.f
  rw [if_pos (by omega), if_neg (by decide)]
theorem clamp_id (n : Nat) (h : n ≤ 8) : mn (mx (n : Int) 0) 8 = (n : Int) := by
  rw [clamp_mn]; unfold clamp; omega
theorem rbig {s : ByteArray} {p b : Nat} {x r : List Nat} (h : Rest s p (x ++ r)) (ok : Ok s b) (fa : Int) (n : Int) (hn : n = x.length) (h8 : x.length ≤ 8) :
    octet_In_Big.f s (p : Int) (b : Int) 0 fa n = some (((bigN x : Nat) : Int), s, ((p + x.length : Nat) : Int), (b : Int), 0, fa) := by
  have hx : ∀ y ∈ x, y < 256 := fun y hy => h.lt y (by simp [hy])
  unfold octet_In_Big.f
  subst hn
  rw [clamp_id _ h8, rtake h ok fa _ rfl, Option.bind_some]
  simp only
  rw [bytes_ints, nats_strN hx, bigOf_ints x hx h8]
  first | rfl | (rw [if_pos (by rw [size_strN]; omega)])
theorem rsmall {s : ByteArray} {p b : Nat} {x r : List Nat} (h : Rest s p (x ++ r)) (ok : Ok s b) (fa : Int) (n : Int) (hn : n = x.length) (h8 : x.length ≤ 8) :
    octet_In_Small.f s (p : Int) (b : Int) 0 fa n = some (((smN x : Nat) : Int), s, ((p + x.length : Nat) : Int), (b : Int), 0, fa) := by
  have hx : ∀ y ∈ x, y < 256 := fun y hy => h.lt y (by simp [hy])
  unfold octet_In_Small.f
  subst hn
  rw [clamp_id _ h8, rtake h ok fa _ rfl, Option.bind_some]
  simp only
  rw [if_pos (by rw [size_strN]; exact h8), bytes_ints, nats_strN hx, size_strN, smallOf_ints x hx h8 _ (Nat.le_refl _), List.take_length]
theorem rleft {s : ByteArray} {p b : Nat} {l : List Nat} (h : Rest s p l) (ok : Ok s b) (fa : Int) : octet_In_Left.f s (p : Int) (b : Int) 0 fa = some ((l.length : Int), s, (p : Int), (b : Int), 0, fa) := by
  obtain ⟨o1, o2⟩ := ok
  have hs := h.size
  unfold octet_In_Left.f api_Fault_Bad.f
  rw [Option.bind_some, if_neg (by decide), w64 (by omega)]
  congr 2
  omega
theorem rpeek {s : ByteArray} {p b : Nat} {x r : List Nat} (h : Rest s p (x ++ r)) (ok : Ok s b) (fa n : Int) (hn : n = x.length) :
    octet_In_Peek.f s (p : Int) (b : Int) 0 fa n = some (strN x, s, (p : Int), (b : Int), 0, fa) := by
  obtain ⟨o1, o2⟩ := ok
  have hs := h.size
  rw [List.length_append] at hs
  subst hn
  unfold octet_In_Peek.f
  rw [if_pos (by omega), if_pos rfl]
  have e : mn (mx ((x.length : Nat) : Int) 0) ((s.size : Int) - (p : Int)) = (x.length : Int) := by unfold mn mx; omega
  rw [e]
  have e : (p : Int) + ((x.length : Nat) : Int) = ((p + x.length : Nat) : Int) := by omega
  rw [e, Int.toNat_natCast, Int.toNat_natCast, h.ext]
theorem rpeek_short {s : ByteArray} {p b : Nat} {l : List Nat} (h : Rest s p l) (ok : Ok s b) (fa n : Int) (hn : (l.length : Int) ≤ n) :
    octet_In_Peek.f s (p : Int) (b : Int) 0 fa n = some (strN l, s, (p : Int), (b : Int), 0, fa) := by
  obtain ⟨o1, o2⟩ := ok
  have hs := h.size
  have h' : Rest s p (l ++ []) := by rw [List.append_nil]; exact h
  unfold octet_In_Peek.f
  rw [if_pos (by omega), if_pos rfl]
  have e : mn (mx n 0) ((s.size : Int) - (p : Int)) = (l.length : Int) := by unfold mn mx; omega
  rw [e]
  have e : (p : Int) + ((l.length : Nat) : Int) = ((p + l.length : Nat) : Int) := by omega
  rw [e, Int.toNat_natCast, Int.toNat_natCast, h'.ext]
/-- A text that is wanted: what is there is its beginning. -/
theorem want_loop (a g : ByteArray) (pre suf : List Nat) (ha : nats a = pre ++ suf) (hg : nats g = pre) (hl : a.size ≤ 1000000) (at_ : Int) (s : ByteArray) (p b c fa : Int) (r : Bool × ByteArray × Int × Int × Int × Int)
    (hend : Ev (fun k => (octet_In_Take.f s p b c fa (a.size : Int)).bind fun bt170 => ((api_Fault_Bad.f bt170.2.2.2.2.1 bt170.2.2.2.2.2).bind fun t176 => (some (!t176, bt170.2.1, bt170.2.2.1, bt170.2.2.2.1, bt170.2.2.2.2.1, bt170.2.2.2.2.2)))) r) : ∀ (d i : Nat), i + d = g.size →
    Ev (fun k => octet_In_Want.l0 k a at_ g (g.size : Int) (i : Int) s p b c fa) r
  | 0, i, hi => Ev.step (fun k => by rw [octet_In_Want.l0]) (Ev.iten (by omega) hend)
  | d + 1, i, hi => by
    have e1 : a.size = pre.length + suf.length := by rw [← nats_len, ha, List.length_append]
    have e2 : g.size = pre.length := by rw [← nats_len, hg]
    have hb : bt g (i : Int) = bt a (i : Int) := by
      rw [bt_nats g i (by omega), bt_nats a i (by omega), ha, hg]
      have : i < pre.length := by omega
      simp [List.getD_eq_getElem?_getD, List.getElem?_append_left this]
    refine Ev.step (fun k => by rw [octet_In_Want.l0]) ?_
    refine Ev.itep (by omega) (Ev.itep (by omega) (Ev.itep (by omega) (Ev.itep (by omega) (Ev.itep hb ?_))))
    rw [show wrap64 ((i : Int) + 1) = ((i + 1 : Nat) : Int) by rw [w64 (by omega)]; omega]
    exact want_loop a g pre suf ha hg hl at_ s p b c fa r hend d (i + 1) (by omega)
theorem rwant {s : ByteArray} {p b : Nat} {r : List Nat} (a : ByteArray) (h : Rest s p (nats a ++ r)) (ok : Ok s b) (fa : Int) (hl : a.size ≤ 1000000) :
    Ev (fun k => octet_In_Want.f k s (p : Int) (b : Int) 0 fa a) (true, s, ((p + a.size : Nat) : Int), (b : Int), 0, fa) := by
  have hn : (nats a).length = a.size := nats_len a
  unfold octet_In_Want.f
  refine Ev.bindc rfl (Ev.iten (by decide) (Ev.bindc rfl (Ev.bindc (rpeek h ok fa _ (by rw [hn])) ?_)))
  rw [strN_nats]
  refine want_loop a a (nats a) [] (by simp) rfl hl _ s _ _ _ _ _ ?_ a.size 0 (by omega)
  refine Ev.bindc (rtake h ok fa _ (by rw [hn])) (Ev.bindc rfl (Ev.some ?_))
  rw [hn]; rfl
theorem rwant_short {s : ByteArray} {p b : Nat} {l suf : List Nat} (a : ByteArray) (ha : nats a = l ++ suf) (hsuf : suf ≠ []) (h : Rest s p l) (ok : Ok s b) (fa : Int) (hl : a.size ≤ 1000000) :
    Ev (fun k => octet_In_Want.f k s (p : Int) (b : Int) 0 fa a) (false, s, (p : Int), (b : Int), 1, (b : Int) + s.size) := by
  have hn : (nats a).length = a.size := nats_len a
  have hlen : a.size = l.length + suf.length := by rw [← hn, ha, List.length_append]
  have hpos : 0 < suf.length := List.length_pos_iff.mpr hsuf
  unfold octet_In_Want.f
  refine Ev.bindc rfl (Ev.iten (by decide) (Ev.bindc rfl (Ev.bindc (rpeek_short h ok fa _ (by omega)) ?_)))
  refine want_loop a (strN l) l suf ha (nats_strN h.lt) hl _ s _ _ _ _ _ ?_ (strN l).size 0 (by omega)
  exact Ev.bindc (rtake_short h ok fa _ (by omega)) (Ev.bindc rfl (Ev.some rfl))
theorem want_bad (s : ByteArray) (p b fa : Int) (a : ByteArray) : Ev (fun k => octet_In_Want.f k s p b 1 fa a) (false, s, p, b, 1, fa) := by
  unfold octet_In_Want.f
  exact Ev.bindc rfl (Ev.itep rfl (Ev.some rfl))
theorem big_bad (s : ByteArray) (p b : Nat) (ok : Ok s b) (hp : p ≤ s.size) (fa n : Int) : octet_In_Big.f s (p : Int) (b : Int) 1 fa n = some (0, s, (p : Int), (b : Int), 1, fa) := by
  unfold octet_In_Big.f
  rw [take_bad s p b ok hp, Option.bind_some]; rfl
theorem small_bad (s : ByteArray) (p b : Nat) (ok : Ok s b) (hp : p ≤ s.size) (fa n : Int) : octet_In_Small.f s (p : Int) (b : Int) 1 fa n = some (0, s, (p : Int), (b : Int), 1, fa) := by
  unfold octet_In_Small.f
  rw [take_bad s p b ok hp, Option.bind_some]; rfl
theorem rbig_short {s : ByteArray} {p b : Nat} {l : List Nat} (h : Rest s p l) (ok : Ok s b) (fa : Int) (n : Nat) (h8 : n ≤ 8) (hn : l.length < n) :
    octet_In_Big.f s (p : Int) (b : Int) 0 fa (n : Int) = some (0, s, (p : Int), (b : Int), 1, (b : Int) + s.size) := by
  unfold octet_In_Big.f
  rw [clamp_id _ h8, rtake_short h ok fa _ (by omega), Option.bind_some]; rfl
theorem rsmall_short {s : ByteArray} {p b : Nat} {l : List Nat} (h : Rest s p l) (ok : Ok s b) (fa : Int) (n : Nat) (h8 : n ≤ 8) (hn : l.length < n) :
    octet_In_Small.f s (p : Int) (b : Int) 0 fa (n : Int) = some (0, s, (p : Int), (b : Int), 1, (b : Int) + s.size) := by
  unfold octet_In_Small.f
  rw [clamp_id _ h8, rtake_short h ok fa _ (by omega), Option.bind_some]; rfl

end Go.Proofs.Ytmfamkkikiglmaa.Pl
