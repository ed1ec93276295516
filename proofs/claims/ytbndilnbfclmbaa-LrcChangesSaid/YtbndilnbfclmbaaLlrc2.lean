/- A song's line in pieces: what the printed functions say, in plain words. -/
import Derived.Test.YtbndilnbfclmbaaPAllx0
import Derived.Test.YtbndilnbfclmbaaPAllx14
import Derived.Test.YtbndilnbfclmbaaPAllx15
import Derived.Test.YtbndilnbfclmbaaPAllx16
import Derived.Test.YtbndilnbfclmbaaPAllx4
import Derived.Test.YtbndilnbfclmbaaLlrc
namespace Go.Proofs.Ytbndilnbfclmbaa.Pl
open Go.RowKit Go.Proofs.Ytbndilnbfclmbaa.PAll Go.Proofs.YtbndilnbfclmbaaW.PrintWords Go.Proofs.YtbndilnbfclmbaaW.PrintLast Go.Proofs.YtbndilnbfclmbaaW.PrintMore
set_option linter.unusedVariables false
set_option linter.unusedSimpArgs false

abbrev Pc : Type := Bool × ByteArray × ByteArray
def toP (x : Pc) : S34 := ⟨x.1, x.2.1, x.2.2⟩
def toQ (x : Pc) : S50 := ⟨x.1, x.2.1, x.2.2⟩
def markW : ByteArray := ⟨#[109, 97, 114, 107]⟩
def textW : ByteArray := ⟨#[116, 101, 120, 116]⟩
def mk (l : List Nat) : Pc := (true, markW, strN l)
/-- Times ahead, then a text. -/
def tms : Nat → List Nat → List Pc
  | 0, _ => []
  | d + 1, l => if timeN l ≠ 0 then mk (l.take (timeN l)) :: tms d (l.drop (timeN l)) else if l = [] then [] else [(false, textW, strN l)]
theorem strN_cat (l : List (List Nat)) : cat (l.map strN) = strN l.flatten := by
  induction l with
  | nil => rfl
  | cons a l ih =>
    rw [List.map_cons, List.flatten_cons, strN_app, ← ih]
    apply bytesOf_inj
    rw [bytesOf_app, bytesOf_cat, bytesOf_cat]; rfl
theorem mark3 (a b c : List Nat) (h : (a ++ (b ++ c)).length ≤ 140737488355328) : line_Mark.f [strN a, strN b, strN c] = some (true, markW, strN (a ++ (b ++ c))) := by
  have e : cat [strN a, strN b, strN c] = strN (a ++ (b ++ c)) := by
    have := strN_cat [a, b, c]
    simpa using this
  rw [mark_ok _ (by simp) (by rw [e, size_strN]; exact h), e]; rfl
theorem strN_nil (l : List Nat) : (strN l).toList = ([] : List UInt8) ↔ l = [] := by
  rw [tl_nil, size_strN]; exact List.length_eq_zero_iff
theorem time_facts (l : List Nat) (hl : ∀ x ∈ l, x < 256) (h : timeN l ≠ 0) : l = 91 :: ((tg l).1 ++ 93 :: (tg l).2.1) ∧ momB (strN (tg l).1) = true ∧ (tg l).2.2 = true ∧ timeN l = (tg l).1.length + 2 ∧ 7 ≤ timeN l ∧ timeN l ≤ l.length := by
  have := time_good (strN l)
  rw [nats_strN hl] at this
  obtain ⟨a, b, c, d, e, f, g⟩ := this h
  have := c.1
  rw [size_strN] at this
  exact ⟨d, e, f, g, a, this⟩
theorem time_take (l : List Nat) (hl : ∀ x ∈ l, x < 256) (h : timeN l ≠ 0) : l.take (timeN l) = [91] ++ ((tg l).1 ++ [93]) ∧ l.drop (timeN l) = (tg l).2.1 := by
  obtain ⟨h1, _, _, h4, _, _⟩ := time_facts l hl h
  rw [h4]
  generalize (tg l).1 = a at h1 ⊢
  generalize (tg l).2.1 = r at h1 ⊢
  subst h1
  constructor
  · rw [List.take_succ_cons, show a.length + 1 = (a ++ [93]).length by simp, show a ++ 93 :: r = (a ++ [93]) ++ r by simp, List.take_left]; rfl
  · rw [List.drop_succ_cons, show a.length + 1 = (a ++ [93]).length by simp, show a ++ 93 :: r = (a ++ [93]) ++ r by simp, List.drop_left]
theorem tg_len (l : List Nat) : (tg l).1.length ≤ l.length ∧ (tg l).2.1.length ≤ l.length := by
  cases l with
  | nil => simp [tg]
  | cons c t =>
    rw [tg]
    split
    · have a := (List.takeWhile_sublist (l := t) (· != 93)).length_le
      have b := (List.dropWhile_sublist (l := t) (· != 93)).length_le
      simp only [inN, reN, List.length_cons, List.length_drop]
      omega
    · simp
theorem pieces_end (l : List Nat) (a b : ByteArray) (acc : List S34) (ha : acc.length < 3000000000) :
    Ev (fun k => lrc_Pieces.j1 k (strN l) a b acc false) (acc ++ (if l = [] then ([] : List Pc) else [(false, textW, strN l)]).map toP, true) := by
  refine Ev.step (fun k => by rw [lrc_Pieces.j1]) (Ev.iten (by decide) ?_)
  by_cases h : l = []
  · rw [if_pos h]
    exact Ev.itep ((strN_nil l).mpr h) (Ev.some (by simp))
  · rw [if_neg h]
    exact Ev.iten (fun e => h ((strN_nil l).mp e)) (Ev.bindc rfl (Ev.itep (by omega) (Ev.some rfl)))
theorem pieces_loop : ∀ (d : Nat) (l : List Nat) (acc : List S34), (∀ x ∈ l, x < 256) → l.length < d → l.length ≤ 1000000 → acc.length + l.length ≤ 2000000 →
    Ev (fun k => lrc_Pieces.l0 k (strN l) (strN (tg l).1) (strN (tg l).2.1) (tg l).2.2 acc) (acc ++ (tms d l).map toP, true)
  | 0, l, acc, _, h, _, _ => absurd h (Nat.not_lt_zero _)
  | d + 1, l, acc, hl, h, hz, ha => by
    have hin := tg_len l
    refine Ev.step (fun k => by rw [lrc_Pieces.l0]) ?_
    unfold tms
    by_cases ht : timeN l ≠ 0
    · rw [if_pos ht]
      obtain ⟨f1, f2, f3, f4, f5, f6⟩ := time_facts l hl ht
      obtain ⟨g1, g2⟩ := time_take l hl ht
      have hr : ∀ x ∈ (tg l).2.1, x < 256 := fun x hx => hl x (by rw [f1]; simp [hx])
      have hlen : l.length = (tg l).1.length + (tg l).2.1.length + 2 := by
        have := congrArg List.length f1
        simp only [List.length_cons, List.length_append] at this
        omega
      refine Ev.itep f3 (Ev.bind (moment_ev _ (by rw [size_strN]; omega)) ?_)
      rw [f2]
      refine Ev.step (fun k => by rw [lrc_Pieces.j1]) (Ev.itep rfl ?_)
      refine Ev.bindc (mark3 [91] (tg l).1 [93] (by simp; omega)) (Ev.itep (by omega) (Ev.bindc (tag_ok (strN (tg l).2.1) (by rw [size_strN]; omega)) ?_))
      rw [nats_strN hr]
      refine Ev.eq (pieces_loop d (tg l).2.1 _ hr (by omega) (by omega) (by rw [List.length_append]; simp; omega)) ?_
      rw [List.map_cons, g1, g2, List.append_assoc]; rfl
    · rw [if_neg ht]
      have ht0 : timeN l = 0 := by omega
      by_cases h3 : (tg l).2.2 = true
      · refine Ev.itep h3 (Ev.bind (moment_ev _ (by rw [size_strN]; omega)) ?_)
        have hm : momB (strN (tg l).1) = false := by
          rw [← Bool.not_eq_true]
          intro hm
          unfold timeN at ht0
          rw [if_pos ⟨h3, hm⟩] at ht0
          omega
        rw [hm]
        exact pieces_end l _ _ acc (by omega)
      · exact Ev.iten h3 (pieces_end l _ _ acc (by omega))

/-! ### a name and what it tells -/
def lowN (c : Nat) : Bool := decide (97 ≤ c) && decide (c ≤ 122)
def nmN (t : List Nat) : List Nat := t.takeWhile lowN
theorem letters_loop (l : List Nat) (hl : ∀ x ∈ l, x < 256) (hz : l.length ≤ 1000000) : ∀ (d i : Nat), i + d = l.length → Ev (fun k => lrc_letters.l0 k (strN l) (i : Int)) (((i + (nmN (l.drop i)).length : Nat)) : Int)
  | 0, i, hi => by
    refine Ev.step (fun k => by rw [lrc_letters.l0]) (Ev.iten (by rw [size_strN]; omega) (Ev.some ?_))
    rw [List.drop_of_length_le (by omega)]; rfl
  | d + 1, i, hi => by
    have hlt : i < l.length := by omega
    have hb := bt_strN l hl i hlt
    have hd := List.drop_eq_getElem_cons hlt
    have w1 : wrap64 ((i : Int) + 1) = ((i + 1 : Nat) : Int) := by rw [w64 (by omega)]; omega
    refine Ev.step (fun k => by rw [lrc_letters.l0]) (Ev.itep (by rw [size_strN]; omega) (Ev.itep (by omega) ?_))
    rw [hb, w1, hd]
    by_cases c1 : l[i] ≥ 97
    · refine Ev.itep (by omega) ?_
      by_cases c2 : l[i] ≤ 122
      · refine Ev.itep (by omega) (Ev.eq (letters_loop l hl hz d (i + 1) (by omega)) ?_)
        have hlow : lowN l[i] = true := by simp [lowN, c2]; omega
        rw [nmN, nmN, List.takeWhile_cons_of_pos hlow, List.length_cons]
        omega
      · refine Ev.iten (by omega) (Ev.some ?_)
        have hlow : ¬ lowN l[i] = true := by simp [lowN]; omega
        rw [nmN, List.takeWhile_cons_of_neg hlow]; rfl
    · refine Ev.iten (by omega) (Ev.some ?_)
      have hlow : ¬ lowN l[i] = true := by simp [lowN]; omega
      rw [nmN, List.takeWhile_cons_of_neg hlow]; rfl
theorem letters_ev (l : List Nat) (hl : ∀ x ∈ l, x < 256) (hz : l.length ≤ 1000000) : Ev (fun k => lrc_letters.f k (strN l)) (((nmN l).length : Nat) : Int) := by
  have := letters_loop l hl hz l.length 0 (by omega)
  rw [Nat.zero_add, List.drop_zero] at this
  exact this
/-- The pieces of a name and what it tells: the text in brackets, and what is behind. -/
def noteP (i r : List Nat) : List Pc × Bool :=
  if nmN i ≠ [] ∧ (nmN i).length < i.length ∧ i.getD (nmN i).length 0 = 58 ∧ r = [] then ([mk ([91] ++ (nmN i ++ [58])), (false, strN (nmN i), strN (i.drop ((nmN i).length + 1))), mk [93]], true) else ([], false)
theorem note_no (l : List Nat) (n : Int) : Ev (fun k => lrc_note.j0 k (strN l) n true) (([] : List S34), false) :=
  Ev.step (fun k => by rw [lrc_note.j0]) (Ev.itep rfl (Ev.some rfl))
theorem note_ev (i r : List Nat) (hi : ∀ x ∈ i, x < 256) (hz : i.length ≤ 1000000) : Ev (fun k => lrc_note.f k (strN i) (strN r)) ((noteP i r).1.map toP, (noteP i r).2) := by
  have hle : (nmN i).length ≤ i.length := (List.takeWhile_sublist (l := i) lowN).length_le
  have hpre : i.take (nmN i).length = nmN i := by
    have := List.takeWhile_append_dropWhile (p := lowN) (l := i)
    conv => lhs; rhs; rw [← this]
    exact List.take_left
  unfold lrc_note.f
  refine Ev.bind (letters_ev i hi hz) ?_
  unfold noteP
  by_cases c1 : nmN i = []
  · rw [if_neg (fun e => e.1 c1)]
    rw [c1]
    exact Ev.itep rfl (note_no i _)
  · have hp : 0 < (nmN i).length := List.length_pos_iff.mpr c1
    refine Ev.iten (by omega) ?_
    by_cases c2 : (nmN i).length < i.length
    · refine Ev.iten (by rw [size_strN]; omega) (Ev.itep (by omega) (Ev.itep (by rw [size_strN]; omega) ?_))
      have hb := bt_strN i hi (nmN i).length c2
      have hg : i.getD (nmN i).length 0 = i[(nmN i).length] := by rw [List.getD_eq_getElem?_getD, List.getElem?_eq_getElem c2]; rfl
      rw [hb, hg]
      by_cases c3 : i[(nmN i).length] = 58
      · refine Ev.itep (by omega) ?_
        by_cases c4 : r = []
        · rw [if_pos ⟨c1, c2, c3, c4⟩]
          have e4 : ((strN r).toList != ([] : List UInt8)) = false := by rw [bne_eq_false_iff_eq]; exact (strN_nil r).mpr c4
          rw [e4]
          have w1 : wrap64 (((nmN i).length : Int) + 1) = (((nmN i).length + 1 : Nat) : Int) := by rw [w64 (by omega)]; omega
          refine Ev.step (fun k => by rw [lrc_note.j0]) (Ev.iten (by decide) (Ev.itep (by omega) (Ev.itep (by rw [size_strN]; omega) ?_)))
          rw [w1, Int.toNat_natCast, Int.toNat_natCast]
          have x1 : (strN i).extract 0 (nmN i).length = strN (nmN i) := by rw [ext_strN i hi, List.drop_zero, Nat.sub_zero, hpre]
          have x2 : (strN i).extract ((nmN i).length + 1) (strN i).size = strN (i.drop ((nmN i).length + 1)) := by
            rw [ext_strN i hi, List.take_of_length_le (by rw [List.length_drop, size_strN]; omega)]
          rw [x1, x2]
          refine Ev.bindc (mark3 [91] (nmN i) [58] (by simp; omega)) (Ev.itep (by omega) (Ev.itep (by rw [size_strN]; omega) (Ev.bindc rfl ?_)))
          have m1 : line_Mark.f [(⟨#[93]⟩ : ByteArray)] = some (true, markW, strN [93]) := by
            rw [mark_ok _ (by simp) (by decide)]; rfl
          exact Ev.bindc m1 (Ev.some rfl)
        · rw [if_neg (fun e => c4 e.2.2.2)]
          have e4 : ((strN r).toList != ([] : List UInt8)) = true := by rw [bne_iff_ne]; exact fun e => c4 ((strN_nil r).mp e)
          rw [e4]
          exact note_no i _
      · rw [if_neg (fun e => c3 e.2.2.1)]
        exact Ev.iten (by omega) (note_no i _)
    · rw [if_neg (fun e => c2 e.2.1)]
      exact Ev.itep (by rw [size_strN]; omega) (note_no i _)
/-- A line's pieces; has it a form? -/
def pcs (l : List Nat) : List Pc × Bool :=
  if l = [] then ([], true) else if timeN l ≠ 0 then (tms (l.length + 1) l, true) else if (tg l).2.2 = true then noteP (tg l).1 (tg l).2.1 else ([], false)
theorem tg_lt (l : List Nat) (hl : ∀ x ∈ l, x < 256) : ∀ x ∈ (tg l).1, x < 256 := by
  cases l with
  | nil => simp [tg]
  | cons c t =>
    rw [tg]
    split
    · intro x hx
      exact hl x (List.mem_cons_of_mem _ ((List.takeWhile_sublist (l := t) (· != 93)).mem hx))
    · simp
theorem pieces_ev (l : List Nat) (hl : ∀ x ∈ l, x < 256) (hz : l.length ≤ 1000000) : Ev (fun k => lrc_Pieces.f k (strN l)) ((pcs l).1.map toP, (pcs l).2) := by
  have hin := tg_len l
  unfold lrc_Pieces.f pcs
  by_cases h0 : l = []
  · rw [if_pos h0]
    exact Ev.itep ((strN_nil l).mpr h0) (Ev.some rfl)
  · rw [if_neg h0]
    refine Ev.iten (fun e => h0 ((strN_nil l).mp e)) (Ev.bindc (tag_ok (strN l) (by rw [size_strN]; omega)) ?_)
    rw [nats_strN hl]
    by_cases ht : timeN l ≠ 0
    · obtain ⟨f1, f2, f3, f4, f5, f6⟩ := time_facts l hl ht
      rw [if_pos ht]
      refine Ev.itep f3 (Ev.bind (moment_ev _ (by rw [size_strN]; omega)) (Ev.itep f2 ?_))
      exact pieces_loop (l.length + 1) l [] hl (by omega) hz (by simp; omega)
    · rw [if_neg ht]
      have ht0 : timeN l = 0 := by omega
      by_cases h3 : (tg l).2.2 = true
      · rw [if_pos h3]
        have hm : ¬ momB (strN (tg l).1) = true := by
          intro hm
          unfold timeN at ht0
          rw [if_pos ⟨h3, hm⟩] at ht0
          omega
        refine Ev.itep h3 (Ev.bind (moment_ev _ (by rw [size_strN]; omega)) (Ev.iten hm ?_))
        exact Ev.bind (note_ev _ _ (tg_lt l hl) (by omega)) (Ev.some rfl)
      · rw [if_neg h3]
        exact Ev.iten h3 (Ev.some rfl)

end Go.Proofs.Ytbndilnbfclmbaa.Pl
