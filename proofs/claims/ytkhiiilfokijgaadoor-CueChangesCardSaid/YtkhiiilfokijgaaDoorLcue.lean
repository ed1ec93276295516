/- A sheet's line in pieces: what the printed functions say, in plain words. -/
import Derived.Test.YtkhiiilfokijgaaDoorPAllx0
import Derived.Test.YtkhiiilfokijgaaDoorPAllx4
import Derived.Test.YtkhiiilfokijgaaDoorPAllx5
import Derived.Test.YtkhiiilfokijgaaDoorPAllx6
import Derived.Test.YtkhiiilfokijgaaDoorPAllx7
import Derived.Test.YtkhiiilfokijgaaDoorLgood
import Derived.Test.YtkhiiilfokijgaaDoorLa
namespace Go.Proofs.YtkhiiilfokijgaaDoor.Pl
open Go.RowKit Go.Proofs.YtkhiiilfokijgaaDoor.PAll Go.Proofs.YtkhiiilfokijgaaDoorW.PrintWords Go.Proofs.YtkhiiilfokijgaaDoorW.PrintLast Go.Proofs.YtkhiiilfokijgaaDoorW.PrintMore
set_option linter.unusedVariables false
set_option linter.unusedSimpArgs false

abbrev Pc : Type := Bool × ByteArray × ByteArray
def toP (x : Pc) : S30 := ⟨x.1, x.2.1, x.2.2⟩
def markW : ByteArray := ⟨#[109, 97, 114, 107]⟩
def mk (l : List Nat) : Pc := (true, markW, strN l)
def mks (l : List Nat) : List Pc := if l = [] then [] else [mk l]
def remW : ByteArray := ⟨#[114, 101, 109, 97, 114, 107]⟩
def fileW : ByteArray := ⟨#[102, 105, 108, 101]⟩
theorem strN_cat (l : List (List Nat)) : cat (l.map strN) = strN l.flatten := by
  induction l with
  | nil => rfl
  | cons a l ih =>
    rw [List.map_cons, List.flatten_cons, strN_app, ← ih]
    apply bytesOf_inj
    rw [bytesOf_app, bytesOf_cat, bytesOf_cat]; rfl
theorem mark_str (l : List (List Nat)) (h1 : l.length ≤ 1000) (h2 : l.flatten.length ≤ 1000000) : line_Mark.f (l.map strN) = some (true, markW, strN l.flatten) := by
  rw [mark_ok _ (by rw [List.length_map]; omega) (by rw [strN_cat, size_strN]; omega), strN_cat]; rfl
theorem marks_ev (x : List Nat) (h : x.length ≤ 100000) : cue_marks.f (strN x) = some ((mks x).map toP) := by
  unfold cue_marks.f mks
  by_cases h0 : x = []
  · rw [if_pos h0, if_pos (by rw [tl_nil, size_strN, h0]; rfl)]; rfl
  · have hl := List.length_pos_iff.mpr h0
    have m := mark_str [x] (by simp) (by simp; omega)
    rw [List.map_cons, List.map_nil] at m
    rw [if_neg h0, if_neg (by rw [tl_nil, size_strN]; omega), m]
    simp [toP, mk]
theorem bt_str (s : List Nat) (hs : Byt s) (i : Nat) (h : i < s.length) : bt (strN s) (i : Int) = ((s.getD i 0 : Nat) : Int) := by
  rw [bt_nats _ _ (by rw [size_strN]; exact h), nats_strN hs]

/-! ### a line's parts -/
def blN (c : Nat) : Bool := decide (c = 32) || decide (c = 9)
def cpN (c : Nat) : Bool := decide (65 ≤ c) && decide (c ≤ 90)
def indN (l : List Nat) : List Nat := l.takeWhile blN
def aftN (l : List Nat) : List Nat := l.dropWhile blN
def wrdN (l : List Nat) : List Nat := (aftN l).takeWhile cpN
def rstN (l : List Nat) : List Nat := (aftN l).dropWhile cpN
theorem cut_parts (l : List Nat) : l = indN l ++ (wrdN l ++ rstN l) := by
  unfold wrdN rstN
  rw [List.takeWhile_append_dropWhile, indN, aftN, List.takeWhile_append_dropWhile]
theorem trim_drop (L : List UInt8) : (Lib.trimLeftS L [32, 9]).map UInt8.toNat = (L.map UInt8.toNat).dropWhile blN := by
  unfold Lib.trimLeftS
  induction L with
  | nil => rfl
  | cons c L ih =>
    have e : ([32, 9] : List UInt8).contains c = blN c.toNat := by
      rw [Bool.eq_iff_iff]
      simp only [List.contains_cons, List.contains_nil, Bool.or_false, Bool.or_eq_true, beq_iff_eq, blN, decide_eq_true_eq, ← UInt8.toNat_inj]
      rfl
    rw [List.dropWhile_cons, List.map_cons, List.dropWhile_cons, e]
    split
    · exact ih
    · rw [List.map_cons]
theorem trim_ev (l : List Nat) (hl : Byt l) : strings_TrimLeft.f (strN l) (⟨#[32, 9]⟩ : ByteArray) = some (strN (aftN l)) := by
  unfold strings_TrimLeft.f
  rw [if_pos ⟨by decide, by decide⟩]
  congr 1
  apply nats_inj
  have h2 : Byt (aftN l) := fun x hx => hl x ((List.dropWhile_sublist _).subset hx)
  rw [nats_strN h2]
  have := trim_drop (strN l).data.toList
  show (Lib.trimLeftS (strN l).data.toList [32, 9]).map UInt8.toNat = _
  rw [this]
  show (nats (strN l)).dropWhile blN = _
  rw [nats_strN hl]; rfl
theorem cap_iff (c : Nat) : cpN c = true ↔ 65 ≤ c ∧ c ≤ 90 := by simp [cpN]
theorem cut_loop (l A : List Nat) (hA : Byt A) (hz : l.length ≤ 100000) (hle : A.length ≤ l.length) : ∀ (d i : Nat), i + d = A.length →
    Ev (fun k => cue_cut.l0 k (strN l) (strN A) (i : Int)) ((strN l).extract 0 (l.length - A.length), (strN A).extract 0 (i + ((A.drop i).takeWhile cpN).length), (strN A).extract (i + ((A.drop i).takeWhile cpN).length) A.length)
  | 0, i, hi => by
    have hw : wrap64 (((strN l).size : Int) - ((strN A).size : Int)) = ((l.length - A.length : Nat) : Int) := by rw [size_strN, size_strN, w64 (by omega)]; omega
    refine Ev.step (fun k => by rw [cue_cut.l0]) ?_
    rw [hw]
    refine Ev.iten (by rw [size_strN]; omega) (Ev.itep (by omega) (Ev.itep (by rw [size_strN]; omega) (Ev.itep (by omega) (Ev.itep (by rw [size_strN]; omega) (Ev.some ?_)))))
    rw [List.drop_of_length_le (by omega), size_strN]
    rfl
  | d + 1, i, hi => by
    have hw : wrap64 (((strN l).size : Int) - ((strN A).size : Int)) = ((l.length - A.length : Nat) : Int) := by rw [size_strN, size_strN, w64 (by omega)]; omega
    have hlt : i < A.length := by omega
    have w : wrap64 ((i : Int) + 1) = ((i + 1 : Nat) : Int) := by rw [w64 (by omega)]; omega
    have hb := bt_strN A hA i hlt
    have stop : cpN A[i] = false → Ev (fun k => if 0 ≤ ((l.length - A.length : Nat) : Int) then (if ((l.length - A.length : Nat) : Int) ≤ ((strN l).size : Int) then (if (i : Int) ≤ ((strN A).size : Int) then (some ((strN l).extract 0 (((l.length - A.length : Nat) : Int) : Int).toNat, (strN A).extract 0 ((i : Int) : Int).toNat, (strN A).extract ((i : Int) : Int).toNat (strN A).size)) else (none)) else (none)) else (none))
        ((strN l).extract 0 (l.length - A.length), (strN A).extract 0 (i + ((A.drop i).takeWhile cpN).length), (strN A).extract (i + ((A.drop i).takeWhile cpN).length) A.length) := by
      intro hc
      refine Ev.itep (by omega) (Ev.itep (by rw [size_strN]; omega) (Ev.itep (by rw [size_strN]; omega) (Ev.some ?_)))
      rw [List.drop_eq_getElem_cons hlt, List.takeWhile_cons, hc, size_strN]
      rfl
    refine Ev.step (fun k => by rw [cue_cut.l0]) ?_
    rw [hw, w, hb]
    refine Ev.itep (by rw [size_strN]; omega) (Ev.itep (by omega) ?_)
    by_cases h1 : ((A[i] : Nat) : Int) ≥ 65
    · refine Ev.itep h1 ?_
      by_cases h2 : ((A[i] : Nat) : Int) ≤ 90
      · refine Ev.itep h2 (Ev.eq (cut_loop l A hA hz hle d (i + 1) (by omega)) ?_)
        have hc : cpN A[i] = true := (cap_iff _).mpr ⟨by omega, by omega⟩
        rw [List.drop_eq_getElem_cons hlt, List.takeWhile_cons, hc, if_pos rfl, List.length_cons]
        rw [show i + 1 + ((A.drop (i + 1)).takeWhile cpN).length = i + (((A.drop (i + 1)).takeWhile cpN).length + 1) by omega]
      · exact Ev.iten h2 (stop (by rw [Bool.eq_false_iff]; intro h; have := (cap_iff _).mp h; omega))
    · exact Ev.iten h1 (stop (by rw [Bool.eq_false_iff]; intro h; have := (cap_iff _).mp h; omega))
theorem take_while_len {α : Type} (p : α → Bool) (l : List α) : l.take (l.takeWhile p).length = l.takeWhile p ∧ l.drop (l.takeWhile p).length = l.dropWhile p := by
  have h := List.takeWhile_append_dropWhile (p := p) (l := l)
  constructor
  · rw [show l.take (l.takeWhile p).length = (l.takeWhile p ++ l.dropWhile p).take (l.takeWhile p).length from by rw [h], List.take_left]
  · rw [show l.drop (l.takeWhile p).length = (l.takeWhile p ++ l.dropWhile p).drop (l.takeWhile p).length from by rw [h], List.drop_left]
theorem cut_ev (l : List Nat) (hl : Byt l) (hz : l.length ≤ 100000) : Ev (fun k => cue_cut.f k (strN l)) (strN (indN l), strN (wrdN l), strN (rstN l)) := by
  have hA : Byt (aftN l) := fun x hx => hl x ((List.dropWhile_sublist _).subset hx)
  have hle : (aftN l).length ≤ l.length := (List.dropWhile_sublist _).length_le
  unfold cue_cut.f
  refine Ev.bindc (trim_ev l hl) (Ev.eq (cut_loop l (aftN l) hA hz hle (aftN l).length 0 (by omega)) ?_)
  have e1 : l.length - (aftN l).length = (indN l).length := by
    have := congrArg List.length (List.takeWhile_append_dropWhile (p := blN) (l := l))
    rw [List.length_append] at this
    unfold aftN indN; omega
  have t1 := (take_while_len blN l).1
  have t2 := take_while_len cpN (aftN l)
  rw [List.drop_zero, Nat.zero_add, e1, ext_strN l hl, ext_strN _ hA, ext_strN _ hA, List.drop_zero, List.drop_zero, Nat.sub_zero, Nat.sub_zero]
  rw [show l.take (indN l).length = indN l from t1, t2.1, t2.2, List.take_of_length_le (by
    have := congrArg List.length (List.takeWhile_append_dropWhile (p := cpN) (l := aftN l))
    rw [List.length_append] at this
    omega)]
  rfl

/-! ### texts in quotes, or without -/
def valC (fr : List Nat) (nm : ByteArray) (s be : List Nat) : List Pc × Bool :=
  if s.count 34 = 0 then (if s = [] then ([], false) else ([mk fr, (false, nm, strN s)] ++ mks be, true))
  else if s.count 34 = 2 ∧ s.getD 0 0 = 34 ∧ s.getD (s.length - 1) 0 = 34 then ([mk (fr ++ [34]), (false, nm, strN ((s.drop 1).take (s.length - 2))), mk ([34] ++ be)], true)
  else ([], false)
theorem count_map (L : List UInt8) : L.count 34 = (L.map UInt8.toNat).count 34 := by
  induction L with
  | nil => rfl
  | cons c L ih =>
    rw [List.map_cons, List.count_cons, List.count_cons, ih]
    have e : (c == 34) = (c.toNat == 34) := by
      rw [Bool.eq_iff_iff, beq_iff_eq, beq_iff_eq, ← UInt8.toNat_inj]; rfl
    rw [e]
theorem count_ev (s : List Nat) (hs : Byt s) : strings_Count.f (strN s) (⟨#[34]⟩ : ByteArray) = some ((s.count 34 : Nat) : Int) := by
  show some ((Lib.countByte (strN s).data.toList 34 : Nat) : Int) = _
  unfold Lib.countByte
  rw [count_map]
  show some (((nats (strN s)).count 34 : Nat) : Int) = _
  rw [nats_strN hs]
theorem value_bad (fr : List Nat) (x1 x2 x3 : ByteArray) (a : Bool) (b c : ByteArray) : Ev (fun k => cue_row_value.j0 k x1 x2 x3 true a b c) (([] : List S30), false) :=
  Ev.step (fun k => by rw [cue_row_value.j0]) (Ev.itep rfl (Ev.some rfl))
theorem value_ev (i w s be : List Nat) (nm r : ByteArray) (hi : i.length ≤ 10000) (hw : w.length ≤ 10000) (hs : Byt s) (hz : s.length ≤ 10000) (hb : be.length ≤ 10000) :
    Ev (fun k => cue_row_value.f k (strN i) (strN w) r nm (strN s) (strN be)) ((valC (i ++ (w ++ [32])) nm s be).1.map toP, (valC (i ++ (w ++ [32])) nm s be).2) := by
  have m := mark_str [i, w, [32]] (by simp) (by simp; omega)
  rw [List.map_cons, List.map_cons, List.map_cons, List.map_nil] at m
  unfold cue_row_value.f valC
  refine Ev.bindc (show line_Mark.f [strN i, strN w, (⟨#[32]⟩ : ByteArray)] = some (true, markW, strN (i ++ (w ++ [32]))) by
    rw [show (⟨#[32]⟩ : ByteArray) = strN [32] from rfl, m]; simp) (Ev.bindc (count_ev s hs) ?_)
  by_cases h0 : s.count 34 = 0
  · rw [if_pos h0]
    refine Ev.itep (by omega) ?_
    by_cases hn : s = []
    · rw [if_pos hn]
      exact Ev.itep (by rw [tl_nil, size_strN, hn]; rfl) (Ev.some rfl)
    · have hl := List.length_pos_iff.mpr hn
      rw [if_neg hn]
      refine Ev.iten (by rw [tl_nil, size_strN]; omega) (Ev.bindc rfl (Ev.bindc rfl (Ev.bindc (marks_ev be (by omega)) (Ev.itep ?_ (Ev.some ?_)))))
      · have : (mks be).length ≤ 1 := by unfold mks; split <;> simp
        rw [List.length_map]; simp; omega
      · simp [toP, mk]
  · rw [if_neg h0]
    refine Ev.iten (by omega) ?_
    by_cases h2 : s.count 34 = 2
    · have hc : s.count 34 ≤ s.length := List.count_le_length
      have b0 := bt_str s hs 0 (by omega)
      have b1 := bt_str s hs (s.length - 1) (by omega)
      have w1 : wrap64 (((strN s).size : Int) - 1) = ((s.length - 1 : Nat) : Int) := by rw [size_strN, w64 (by omega)]; omega
      refine Ev.itep (by omega) (Ev.iten (by rw [size_strN]; omega) (Ev.itep (by rw [size_strN]; omega) ?_))
      rw [w1, b1, show bt (strN s) 0 = ((s.getD 0 0 : Nat) : Int) from b0]
      by_cases e0 : s.getD 0 0 = 34
      · refine Ev.itep (by omega) (Ev.itep (by omega) (Ev.itep (by rw [size_strN]; omega) ?_))
        by_cases e1 : s.getD (s.length - 1) 0 = 34
        · rw [if_pos ⟨h2, e0, e1⟩, show (((s.getD (s.length - 1) 0 : Nat) : Int) != 34) = false by rw [e1]; rfl]
          refine Ev.step (fun k => by rw [cue_row_value.j0]) ?_
          rw [w1]
          refine Ev.iten (by decide) (Ev.itep (by rw [size_strN]; simp; omega) (Ev.itep (by omega) (Ev.itep (by rw [size_strN]; omega) (Ev.bindc rfl ?_))))
          have m2 := mark_str [[34], be] (by simp) (by simp; omega)
          rw [List.map_cons, List.map_cons, List.map_nil] at m2
          refine Ev.bindc (show line_Mark.f [(⟨#[34]⟩ : ByteArray), strN be] = some (true, markW, strN ([34] ++ be)) by
            rw [show (⟨#[34]⟩ : ByteArray) = strN [34] from rfl, m2]; simp) (Ev.some ?_)
          have ex : (strN s).extract 1 ((s.length - 1 : Nat) : Int).toNat = strN ((s.drop 1).take (s.length - 2)) := by
            rw [Int.toNat_natCast, ext_strN s hs]; rfl
          rw [ex]
          have eq : strN (i ++ (w ++ [32])) ++ (⟨#[34]⟩ : ByteArray) = strN (i ++ (w ++ [32]) ++ [34]) := by rw [strN_app (i ++ (w ++ [32]))]; rfl
          simp only [List.map_cons, List.map_nil, toP, mk, eq]
        · rw [if_neg (fun h => e1 h.2.2), show (((s.getD (s.length - 1) 0 : Nat) : Int) != 34) = true by rw [bne_iff_ne]; omega]
          exact value_bad [] _ _ _ _ _ _
      · rw [if_neg (fun h => e0 h.2.1)]
        exact Ev.iten (by omega) (value_bad [] _ _ _ _ _ _)
    · rw [if_neg (fun h => h2 h.1)]
      exact Ev.iten (by omega) (value_bad [] _ _ _ _ _ _)
end Go.Proofs.YtkhiiilfokijgaaDoor.Pl
