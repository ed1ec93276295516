/- A sheet's line in pieces: the walk's answer, the line's text, the line with another text. -/
import Derived.Test.YtkhiiilfokijgaaDoorPAllx0
import Derived.Test.YtkhiiilfokijgaaDoorPAllx12
import Derived.Test.YtkhiiilfokijgaaDoorPAllx6
import Derived.Test.YtkhiiilfokijgaaDoorPAllx8
import Derived.Test.YtkhiiilfokijgaaDoorLcue2
namespace Go.Proofs.YtkhiiilfokijgaaDoor.Pl
open Go.RowKit Go.Proofs.YtkhiiilfokijgaaDoor.PAll Go.Proofs.YtkhiiilfokijgaaDoorW.PrintWords Go.Proofs.YtkhiiilfokijgaaDoorW.PrintLast Go.Proofs.YtkhiiilfokijgaaDoorW.PrintMore
set_option linter.unusedVariables false
set_option linter.unusedSimpArgs false

theorem byt_ind {l : List Nat} (h : Byt l) : Byt (indN l) := fun x hx => h x ((List.takeWhile_sublist _).subset hx)
theorem byt_aft {l : List Nat} (h : Byt l) : Byt (aftN l) := fun x hx => h x ((List.dropWhile_sublist _).subset hx)
theorem byt_wrd {l : List Nat} (h : Byt l) : Byt (wrdN l) := fun x hx => byt_aft h x ((List.takeWhile_sublist _).subset hx)
theorem byt_rst {l : List Nat} (h : Byt l) : Byt (rstN l) := fun x hx => byt_aft h x ((List.dropWhile_sublist _).subset hx)
theorem parts_len (l : List Nat) : l.length = (indN l).length + (wrdN l).length + (rstN l).length := by
  have := congrArg List.length (cut_parts l)
  rw [List.length_append, List.length_append] at this; omega
theorem remark_ev (i w r : List Nat) (hi : i.length ≤ 10000) (hw : w.length ≤ 10000) (hr : r.length ≤ 10000) (hb : Byt r) :
    cue_row_remark.f (strN i) (strN w) (strN r) = some ((if r = [] then mks (i ++ w) else [mk (i ++ (w ++ [32])), (false, remW, strN (r.drop 1))]).map toP, true) := by
  unfold cue_row_remark.f
  by_cases h0 : r = []
  · rw [if_pos h0, if_pos ((nil_iff r).mpr h0), if_pos (by rw [size_strN, size_strN]; omega), ← strN_app, marks_ev _ (by rw [List.length_append]; omega)]
    rfl
  · have hl := List.length_pos_iff.mpr h0
    have m := mark_str [i, w, [32]] (by simp) (by simp; omega)
    rw [List.map_cons, List.map_cons, List.map_cons, List.map_nil] at m
    have m2 : line_Mark.f [strN i, strN w, (⟨#[32]⟩ : ByteArray)] = some (true, markW, strN (i ++ (w ++ [32]))) := by
      rw [show (⟨#[32]⟩ : ByteArray) = strN [32] from rfl, m]; simp
    have e : (strN r).extract 1 (strN r).size = strN (r.drop 1) := by
      rw [ext_strN r hb, size_strN, List.take_of_length_le (by rw [List.length_drop]; omega)]
    rw [if_neg h0, if_neg (fun h => h0 ((nil_iff r).mp h)), m2, Option.bind_some, if_pos (by rw [size_strN]; omega), e]
    rfl
theorem pieces_ev (l : List Nat) (hl : Byt l) (hz : l.length ≤ 1000) : Ev (fun k => cue_Pieces.f k (strN l)) ((pcs l).1.map toP, (pcs l).2) := by
  have hp := parts_len l
  have bi := byt_ind hl
  have bw := byt_wrd hl
  have br := byt_rst hl
  have hcut := cut_ev l hl (by omega)
  unfold cue_Pieces.f pcs
  refine Ev.bind hcut ?_
  generalize hI : indN l = I at *
  generalize hW : wrdN l = W at *
  generalize hR : rstN l = R at *
  have sR := size_strN R
  have bad : Ev (fun k => cue_Pieces.j0 k (strN l) true (strN I) (strN W) (strN R)) (([] : List S30), false) :=
    Ev.step (fun k => by rw [cue_Pieces.j0]) (Ev.itep rfl (Ev.some rfl))
  by_cases w0 : W = []
  · rw [if_pos w0]
    refine Ev.itep ((nil_iff W).mpr w0) ?_
    by_cases r0 : R = []
    · rw [if_pos r0]
      exact Ev.itep ((nil_iff R).mpr r0) (Ev.bindc (marks_ev I (by omega)) (Ev.some rfl))
    · rw [if_neg r0]
      exact Ev.iten (fun h => r0 ((nil_iff R).mp h)) (Ev.some rfl)
  rw [if_neg w0]
  refine Ev.iten (fun h => w0 ((nil_iff W).mp h)) ?_
  have body : ¬ (R ≠ [] ∧ R.getD 0 0 ≠ 32) → Ev (fun k => cue_Pieces.j0 k (strN l) false (strN I) (strN W) (strN R))
      (((if W = remN then (if R = [] then (mks (I ++ W), true) else ([mk (I ++ (W ++ [32])), (false, remW, strN (R.drop 1))], true))
        else if R = [] then ([], false)
        else if W = titN ∨ W = perN ∨ W = sonN then valC (I ++ (W ++ [32])) (smaB W) (R.drop 1) []
        else if W = filN then fileC (I ++ (W ++ [32])) (R.drop 1)
        else if R.drop 1 = [] then ([], false)
        else if plB W (R.drop 1) = true then (mks l, true) else ([], false)) : List Pc × Bool).1.map toP,
       ((if W = remN then (if R = [] then (mks (I ++ W), true) else ([mk (I ++ (W ++ [32])), (false, remW, strN (R.drop 1))], true))
        else if R = [] then ([], false)
        else if W = titN ∨ W = perN ∨ W = sonN then valC (I ++ (W ++ [32])) (smaB W) (R.drop 1) []
        else if W = filN then fileC (I ++ (W ++ [32])) (R.drop 1)
        else if R.drop 1 = [] then ([], false)
        else if plB W (R.drop 1) = true then (mks l, true) else ([], false)) : List Pc × Bool).2) := by
    intro _
    refine Ev.step (fun k => by rw [cue_Pieces.j0]) (Ev.iten (by decide) ?_)
    by_cases c1 : W = remN
    · rw [if_pos c1]
      refine Ev.itep ((word_iff W remN bw (show ∀ x ∈ remN, x < 256 by decide) _ (by rw [tl_data]; rfl)).mpr c1) (Ev.bindc (remark_ev I W R (by omega) (by omega) (by omega) br) (Ev.some ?_))
      split <;> rfl
    rw [if_neg c1]
    refine Ev.iten (fun h => c1 ((word_iff W remN bw (show ∀ x ∈ remN, x < 256 by decide) _ (by rw [tl_data]; rfl)).mp h)) ?_
    by_cases r0 : R = []
    · rw [if_pos r0]
      exact Ev.itep ((nil_iff R).mpr r0) (Ev.some rfl)
    have rl := List.length_pos_iff.mpr r0
    rw [if_neg r0]
    have ea : (strN R).extract 1 (strN R).size = strN (R.drop 1) := by
      rw [ext_strN R br, size_strN, List.take_of_length_le (by rw [List.length_drop]; omega)]
    have hal : (R.drop 1).length ≤ 1000 := by rw [List.length_drop]; omega
    have ba : Byt (R.drop 1) := fun x hx => br x (List.mem_of_mem_drop hx)
    refine Ev.iten (fun h => r0 ((nil_iff R).mp h)) (Ev.itep (by omega) ?_)
    rw [ea]
    generalize R.drop 1 = A at *
    have yes : ∀ t : Bool, t = true → Ev (fun k => cue_Pieces.j1 k (strN l) (strN A) (strN W) t (strN I) (strN W) (strN R)) ((valC (I ++ (W ++ [32])) (smaB W) A []).1.map toP, (valC (I ++ (W ++ [32])) (smaB W) A []).2) := by
      intro t ht
      subst ht
      refine Ev.step (fun k => by rw [cue_Pieces.j1]) (Ev.itep rfl (Ev.bindc (show cue_small.f (strN W) = some (smaB W) by unfold cue_small.f; rw [if_pos (by rw [size_strN]; omega)]; rfl) ?_))
      have hv := value_ev I W A [] (smaB W) (strN R) (by omega) (by omega) ba (by omega) (by simp)
      exact Ev.bind hv (Ev.some rfl)
    have no : ∀ t : Bool, t = false → W ≠ titN → W ≠ perN → W ≠ sonN → Ev (fun k => cue_Pieces.j1 k (strN l) (strN A) (strN W) t (strN I) (strN W) (strN R))
        (((if W = filN then fileC (I ++ (W ++ [32])) A else if A = [] then ([], false) else if plB W A = true then (mks l, true) else ([], false)) : List Pc × Bool).1.map toP, ((if W = filN then fileC (I ++ (W ++ [32])) A else if A = [] then ([], false) else if plB W A = true then (mks l, true) else ([], false)) : List Pc × Bool).2) := by
      intro t ht _ _ _
      subst ht
      refine Ev.step (fun k => by rw [cue_Pieces.j1]) (Ev.iten (by decide) ?_)
      by_cases c2 : W = filN
      · rw [if_pos c2]
        exact Ev.itep ((word_iff W filN bw (show ∀ x ∈ filN, x < 256 by decide) _ (by rw [tl_data]; rfl)).mpr c2) (Ev.bind (file_ev I W A (strN R) (by omega) (by omega) ba (by omega)) (Ev.some rfl))
      rw [if_neg c2]
      refine Ev.iten (fun h => c2 ((word_iff W filN bw (show ∀ x ∈ filN, x < 256 by decide) _ (by rw [tl_data]; rfl)).mp h)) ?_
      by_cases a0 : A = []
      · rw [if_pos a0]
        exact Ev.itep ((nil_iff A).mpr a0) (Ev.some rfl)
      rw [if_neg a0]
      refine Ev.iten (fun h => a0 ((nil_iff A).mp h)) ?_
      by_cases c3 : plB W A = true
      · rw [if_pos c3]
        refine Ev.bind (plain_ev W A ba (by omega) a0) ?_
        exact Ev.itep c3 (Ev.bindc (marks_ev l (by omega)) (Ev.some rfl))
      · rw [if_neg c3]
        refine Ev.bind (plain_ev W A ba (by omega) a0) ?_
        exact Ev.iten c3 (Ev.some rfl)
    have k1 := word_iff W titN bw (show ∀ x ∈ titN, x < 256 by decide) [84, 73, 84, 76, 69] (by rw [tl_data]; rfl)
    have k2 := word_iff W perN bw (show ∀ x ∈ perN, x < 256 by decide) [80, 69, 82, 70, 79, 82, 77, 69, 82] (by rw [tl_data]; rfl)
    have k3 := word_iff W sonN bw (show ∀ x ∈ sonN, x < 256 by decide) [83, 79, 78, 71, 87, 82, 73, 84, 69, 82] (by rw [tl_data]; rfl)
    by_cases t1 : W = titN
    · rw [if_pos (.inl t1)]
      exact Ev.itep (k1.mpr t1) (yes _ (beq_iff_eq.mpr (k1.mpr t1)))
    refine Ev.iten (fun h => t1 (k1.mp h)) ?_
    by_cases t2 : W = perN
    · rw [if_pos (.inr (.inl t2))]
      exact Ev.itep (k2.mpr t2) (yes _ (beq_iff_eq.mpr (k2.mpr t2)))
    refine Ev.iten (fun h => t2 (k2.mp h)) ?_
    by_cases t3 : W = sonN
    · rw [if_pos (.inr (.inr t3))]
      exact yes _ (beq_iff_eq.mpr (k3.mpr t3))
    · rw [if_neg (fun h => h.elim t1 (fun h => h.elim t2 t3))]
      exact no _ (beq_eq_false_iff_ne.mpr (fun h => t3 (k3.mp h))) t1 t2 t3
  by_cases r0 : R = []
  · rw [if_neg (fun h => h.1 r0)]
    exact Ev.itep ((nil_iff R).mpr r0) (body (fun h => h.1 r0))
  · have rl := List.length_pos_iff.mpr r0
    have hb := bt_str R br 0 (by omega)
    refine Ev.iten (fun h => r0 ((nil_iff R).mp h)) (Ev.itep (by show (0 : Int) < (((strN R).size : Nat) : Int); omega) ?_)
    rw [show bt (strN R) 0 = ((R.getD 0 0 : Nat) : Int) from hb]
    by_cases h32 : R.getD 0 0 = 32
    · rw [if_neg (fun h => h.2 h32), show (((R.getD 0 0 : Nat) : Int) != 32) = false by rw [h32]; rfl]
      exact body (fun h => h.2 h32)
    · rw [if_pos ⟨r0, h32⟩, show (((R.getD 0 0 : Nat) : Int) != 32) = true by rw [bne_iff_ne]; omega]
      exact bad

/-! ### the line's text -/
def txt (L : List Pc) : List Nat := (L.map fun x => nats x.2.2).flatten
theorem txt_nil : txt [] = [] := rfl
theorem txt_app (a b : List Pc) : txt (a ++ b) = txt a ++ txt b := by simp [txt]
theorem txt_cons (x : Pc) (r : List Pc) : txt (x :: r) = nats x.2.2 ++ txt r := by simp [txt]
theorem txt_mk (l : List Nat) (h : Byt l) (r : List Pc) : txt (mk l :: r) = l ++ txt r := by rw [txt_cons, mk, nats_strN h]
theorem txt_mks (l : List Nat) (h : Byt l) : txt (mks l) = l := by
  unfold mks
  split
  · rename_i h0; rw [h0]; rfl
  · rw [txt_mk l h, txt_nil, List.append_nil]
theorem cat_txt (L : List Pc) : cat ((L.map toP).map (·.f2)) = strN (txt L) := by
  have e : (L.map toP).map (·.f2) = (L.map fun x => nats x.2.2).map strN := by
    rw [List.map_map, List.map_map]
    apply List.map_congr_left
    intro x _
    show x.2.2 = strN (nats x.2.2)
    rw [strN_nats]
  rw [e, strN_cat]; rfl
theorem mks_len (l : List Nat) : (mks l).length ≤ 1 := by unfold mks; split <;> simp
/-- A text in quotes has them at both ends alone. -/
theorem quoted (s : List Nat) (h : s.count 34 = 2) (h0 : s.getD 0 0 = 34) (h1 : s.getD (s.length - 1) 0 = 34) : s = 34 :: ((s.drop 1).take (s.length - 2) ++ [34]) ∧ ((s.drop 1).take (s.length - 2)).count 34 = 0 := by
  have hl : s.count 34 ≤ s.length := List.count_le_length
  match s, h, h0, h1, hl with
  | [], h, _, _, _ => simp at h
  | [c], h, _, _, hl => simp at hl; omega
  | c :: d :: r, h, h0, h1, hl =>
    have e0 : c = 34 := by simpa using h0
    subst e0
    obtain ⟨m, z, hm⟩ : ∃ m z, d :: r = m ++ [z] := ⟨(d :: r).dropLast, (d :: r).getLast (by simp), (List.dropLast_concat_getLast (by simp)).symm⟩
    have hlen : (34 :: d :: r).length - 1 = m.length + 1 := by
      have := congrArg List.length hm
      simp at this ⊢; omega
    have ez : z = 34 := by
      rw [hlen, hm] at h1
      simpa [List.getD_eq_getElem?_getD] using h1
    subst ez
    have hlen2 : (34 :: d :: r).length - 2 = m.length := by omega
    rw [hlen2]
    have hd : (34 :: d :: r).drop 1 = m ++ [34] := by rw [List.drop_succ_cons, List.drop_zero, hm]
    rw [hd, List.take_left]
    refine ⟨by rw [← hm], ?_⟩
    rw [hm] at h
    simp [List.count_cons, List.count_append] at h
    exact h
theorem valC_txt (fr : List Nat) (nm : ByteArray) (s be : List Nat) (hf : Byt fr) (hs : Byt s) (hb : Byt be) (h : (valC fr nm s be).2 = true) : txt (valC fr nm s be).1 = fr ++ (s ++ be) ∧ (valC fr nm s be).1.length ≤ 3 := by
  unfold valC at h ⊢
  by_cases c0 : s.count 34 = 0
  · rw [if_pos c0] at h ⊢
    by_cases n0 : s = []
    · rw [if_pos n0] at h; exact absurd h (by simp)
    · rw [if_neg n0]
      refine ⟨?_, by have := mks_len be; simp; omega⟩
      show txt (mk fr :: (false, nm, strN s) :: mks be) = _
      rw [txt_mk fr hf, txt_cons, txt_mks be hb, nats_strN hs]
  · rw [if_neg c0] at h ⊢
    by_cases c2 : s.count 34 = 2 ∧ s.getD 0 0 = 34 ∧ s.getD (s.length - 1) 0 = 34
    · rw [if_pos c2]
      refine ⟨?_, by simp⟩
      obtain ⟨q1, _⟩ := quoted s c2.1 c2.2.1 c2.2.2
      have h34 : Byt ([34] ++ be) := by
        intro x hx
        rw [List.mem_append] at hx
        rcases hx with hx | hx
        · simp at hx; omega
        · exact hb x hx
      have hfr : Byt (fr ++ [34]) := by
        intro x hx
        rw [List.mem_append] at hx
        rcases hx with hx | hx
        · exact hf x hx
        · simp at hx; omega
      have hm : Byt ((s.drop 1).take (s.length - 2)) := fun x hx => hs x (List.mem_of_mem_drop (List.mem_of_mem_take hx))
      rw [txt_mk _ hfr, txt_cons, txt_mk _ h34, txt_nil, nats_strN hm]
      conv => rhs; rw [q1]
      simp
    · rw [if_neg c2] at h; exact absurd h (by simp)
theorem fileC_txt (fr a : List Nat) (hf : Byt fr) (ha : Byt a) (h : (fileC fr a).2 = true) : txt (fileC fr a).1 = fr ++ a ∧ (fileC fr a).1.length ≤ 3 := by
  unfold fileC at h ⊢
  by_cases c0 : lastN a < 0
  · rw [if_pos c0] at h; exact absurd h (by simp)
  · rw [if_neg c0] at h ⊢
    by_cases c1 : capsB (strN (a.drop ((lastN a).toNat + 1))) = true
    · rw [if_pos c1] at h ⊢
      have := valC_txt fr fileW (a.take (lastN a).toNat) (a.drop (lastN a).toNat) hf (fun x hx => ha x (List.mem_of_mem_take hx)) (fun x hx => ha x (List.mem_of_mem_drop hx)) h
      rw [List.take_append_drop] at this
      exact this
    · rw [if_neg c1] at h; exact absurd h (by simp)
theorem rst_head {r : List Nat} (h0 : r ≠ []) (h : ¬ (r ≠ [] ∧ r.getD 0 0 ≠ 32)) : r = 32 :: r.drop 1 := by
  cases r with
  | nil => exact absurd rfl h0
  | cons c t =>
    have : c = 32 := by
      apply Decidable.byContradiction
      intro hc
      exact h ⟨by simp, by simpa using hc⟩
    subst this; simp
theorem pcs_txt (l : List Nat) (hl : Byt l) (h : (pcs l).2 = true) : txt (pcs l).1 = l ∧ (pcs l).1.length ≤ 3 := by
  have hp := cut_parts l
  have bi := byt_ind hl
  have bw := byt_wrd hl
  have br := byt_rst hl
  unfold pcs at h ⊢
  generalize indN l = I at *
  generalize wrdN l = W at *
  generalize rstN l = R at *
  by_cases w0 : W = []
  · rw [if_pos w0] at h ⊢
    by_cases r0 : R = []
    · rw [if_pos r0]
      refine ⟨?_, by have := mks_len I; simp; omega⟩
      show txt (mks I) = l
      rw [txt_mks I bi, hp, w0, r0]; simp
    · rw [if_neg r0] at h; exact absurd h (by simp)
  rw [if_neg w0] at h ⊢
  by_cases g : R ≠ [] ∧ R.getD 0 0 ≠ 32
  · rw [if_pos g] at h; exact absurd h (by simp)
  rw [if_neg g] at h ⊢
  have bfr : Byt (I ++ (W ++ [32])) := by
    intro x hx
    rw [List.mem_append, List.mem_append] at hx
    rcases hx with hx | hx | hx
    · exact bi x hx
    · exact bw x hx
    · simp at hx; omega
  by_cases c1 : W = remN
  · rw [if_pos c1] at h ⊢
    by_cases r0 : R = []
    · rw [if_pos r0]
      refine ⟨?_, by have := mks_len (I ++ W); simp; omega⟩
      show txt (mks (I ++ W)) = l
      rw [txt_mks _ (byt_app bi bw), hp, r0]; simp
    · rw [if_neg r0]
      refine ⟨?_, by simp⟩
      show txt (mk (I ++ (W ++ [32])) :: [(false, remW, strN (R.drop 1))]) = l
      rw [txt_mk _ bfr, txt_cons, txt_nil, nats_strN (fun x hx => br x (List.mem_of_mem_drop hx))]
      conv => rhs; rw [hp, rst_head r0 g]
      simp
  rw [if_neg c1] at h ⊢
  by_cases r0 : R = []
  · rw [if_pos r0] at h; exact absurd h (by simp)
  rw [if_neg r0] at h ⊢
  have ba : Byt (R.drop 1) := fun x hx => br x (List.mem_of_mem_drop hx)
  have hl2 : I ++ (W ++ [32]) ++ R.drop 1 = l := by
    conv => rhs; rw [hp, rst_head r0 g]
    simp
  by_cases c2 : W = titN ∨ W = perN ∨ W = sonN
  · rw [if_pos c2] at h ⊢
    have := valC_txt _ _ _ [] bfr ba (fun x hx => by simp at hx) h
    rw [List.append_nil, hl2] at this
    exact this
  rw [if_neg c2] at h ⊢
  by_cases c3 : W = filN
  · rw [if_pos c3] at h ⊢
    have := fileC_txt _ _ bfr ba h
    rw [hl2] at this
    exact this
  rw [if_neg c3] at h ⊢
  by_cases a0 : R.drop 1 = []
  · rw [if_pos a0] at h; exact absurd h (by simp)
  rw [if_neg a0] at h ⊢
  by_cases c4 : plB W (R.drop 1) = true
  · rw [if_pos c4]
    exact ⟨txt_mks l hl, by have := mks_len l; simp; omega⟩
  · rw [if_neg c4] at h; exact absurd h (by simp)
theorem valC_none (fr : List Nat) (nm : ByteArray) (s be : List Nat) (h : ¬ (valC fr nm s be).2 = true) : (valC fr nm s be).1 = [] := by
  unfold valC at h ⊢
  by_cases c0 : s.count 34 = 0
  · rw [if_pos c0] at h ⊢
    by_cases n0 : s = []
    · rw [if_pos n0]
    · rw [if_neg n0] at h; exact absurd rfl h
  · rw [if_neg c0] at h ⊢
    by_cases c2 : s.count 34 = 2 ∧ s.getD 0 0 = 34 ∧ s.getD (s.length - 1) 0 = 34
    · rw [if_pos c2] at h; exact absurd rfl h
    · rw [if_neg c2]
theorem fileC_none (fr a : List Nat) (h : ¬ (fileC fr a).2 = true) : (fileC fr a).1 = [] := by
  unfold fileC at h ⊢
  by_cases c0 : lastN a < 0
  · rw [if_pos c0]
  · rw [if_neg c0] at h ⊢
    by_cases c1 : capsB (strN (a.drop ((lastN a).toNat + 1))) = true
    · rw [if_pos c1] at h ⊢; exact valC_none _ _ _ _ h
    · rw [if_neg c1]
theorem pcs_none (l : List Nat) (h : ¬ (pcs l).2 = true) : (pcs l).1 = [] := by
  unfold pcs at h ⊢
  by_cases w0 : wrdN l = []
  · rw [if_pos w0] at h ⊢
    by_cases r0 : rstN l = []
    · rw [if_pos r0] at h; exact absurd rfl h
    · rw [if_neg r0]
  rw [if_neg w0] at h ⊢
  by_cases g : rstN l ≠ [] ∧ (rstN l).getD 0 0 ≠ 32
  · rw [if_pos g]
  rw [if_neg g] at h ⊢
  by_cases c1 : wrdN l = remN
  · rw [if_pos c1] at h
    by_cases r0 : rstN l = []
    · rw [if_pos r0] at h; exact absurd rfl h
    · rw [if_neg r0] at h; exact absurd rfl h
  rw [if_neg c1] at h ⊢
  by_cases r0 : rstN l = []
  · rw [if_pos r0]
  rw [if_neg r0] at h ⊢
  by_cases c2 : wrdN l = titN ∨ wrdN l = perN ∨ wrdN l = sonN
  · rw [if_pos c2] at h ⊢; exact valC_none _ _ _ _ h
  rw [if_neg c2] at h ⊢
  by_cases c3 : wrdN l = filN
  · rw [if_pos c3] at h ⊢; exact fileC_none _ _ h
  rw [if_neg c3] at h ⊢
  by_cases a0 : (rstN l).drop 1 = []
  · rw [if_pos a0]
  rw [if_neg a0] at h ⊢
  by_cases c4 : plB (wrdN l) ((rstN l).drop 1) = true
  · rw [if_pos c4] at h; exact absurd rfl h
  · rw [if_neg c4]
theorem pcs_len (l : List Nat) (hl : Byt l) : (pcs l).1.length ≤ l.length + 3 := by
  by_cases h : (pcs l).2 = true
  · have := (pcs_txt l hl h).2; omega
  · have e : (pcs l).1 = [] := pcs_none l h
    rw [e]; exact Nat.zero_le _
end Go.Proofs.YtkhiiilfokijgaaDoor.Pl
