/- With a text of small letters in the place of each text of a sheet, as many pieces are told, with the same marks, and the texts that were put: the plain law. -/
import Derived.Test.YtkhiiilfokijgaaDoorPAllx0
import Derived.Test.YtkhiiilfokijgaaDoorPAllx17
import Derived.Test.YtkhiiilfokijgaaDoorPAllx18
import Derived.Test.YtkhiiilfokijgaaDoorLcue5
namespace Go.Proofs.YtkhiiilfokijgaaDoor.Pure
open Go.RowKit Go.Proofs.YtkhiiilfokijgaaDoor.PAll Go.Proofs.YtkhiiilfokijgaaDoor.Pl Go.Proofs.YtkhiiilfokijgaaDoorW.PrintWords Go.Proofs.YtkhiiilfokijgaaDoorW.PrintLast
set_option linter.unusedVariables false
set_option linter.unusedSimpArgs false

theorem awake23c : Ev (fun k => diacriticlaw23_awake.f k) true := Ev.of diacriticlaw23_awake.mono (k := 80) (by kernel_rfl)
/-! ### the changed lines -/
noncomputable def newT (b : ByteArray) (t : List Nat) : List Nat := txt ((pcs t).1.map (chg b))
noncomputable def newL (b : ByteArray) (L : List Ln) : List Ln := L.map fun x => (newT b x.1, x.2)
theorem newL_cons (b : ByteArray) (x : Ln) (r : List Ln) : newL b (x :: r) = (newT b x.1, x.2) :: newL b r := rfl
theorem song_new (b : List Nat) (hb : ∀ x ∈ b, lowN x = true) (b0 : b ≠ []) : ∀ (L : List Ln), Byt (flatL L) → (∀ x ∈ L, (pcs x.1).2 = true) →
    songL (newL (strN b) L) = (songL L).map (chg (strN b)) ∧ txt ((songL L).map (chg (strN b))) = flatL (newL (strN b) L) ∧ Byt (flatL (newL (strN b) L)) ∧ (flatL (newL (strN b) L)).length ≤ (flatL L).length + L.length * b.length ∧
    (∀ x ∈ newL (strN b) L, (pcs x.1).2 = true ∧ x.1.length ≤ (flatL L).length + b.length ∧ x.2.length ≤ (flatL L).length)
  | [], _, _ => ⟨rfl, rfl, fun x hx => by simp [newL, flatL] at hx, by simp [newL, flatL], fun x hx => by simp [newL] at hx⟩
  | x :: r, hB, h => by
    rw [flatL] at hB
    obtain ⟨p1, p2, p3, p4, p5⟩ := pcs_chg b hb b0 x.1 (byt_left hB) (h x (by simp))
    obtain ⟨i1, i2, i3, i4, i5⟩ := song_new b hb b0 r (byt_right (byt_right hB)) (fun y hy => h y (by simp [hy]))
    have he : Byt x.2 := byt_left (byt_right hB)
    have hm : (if x.2 = [] then ([] : List Pc) else [mk x.2]).map (chg (strN b)) = (if x.2 = [] then ([] : List Pc) else [mk x.2]) := by
      split
      · rfl
      · rw [List.map_cons, chg_mk]; rfl
    have ht : txt (if x.2 = [] then ([] : List Pc) else [mk x.2]) = x.2 := by
      split
      · rename_i h0; rw [h0]; rfl
      · rw [txt_mk _ he]; simp [txt]
    rw [newL_cons]
    refine ⟨?_, ?_, ?_, ?_, ?_⟩
    · rw [songL, songL, i1, List.map_append, List.map_append, hm]
      unfold newT
      rw [p5]
    · rw [songL, List.map_append, List.map_append, hm, txt_app, txt_app, ht, i2, flatL, List.append_assoc]; rfl
    · rw [flatL]
      exact byt_app p1 (byt_app he i3)
    · rw [flatL, flatL, List.length_cons, Nat.add_mul]
      simp only [List.length_append]
      unfold newT
      omega
    · intro y hy
      rw [flatL]
      simp only [List.length_append]
      rcases List.mem_cons.mp hy with rfl | hy
      · refine ⟨?_, ?_, ?_⟩
        · simp only [newT]; rw [p5]
        · simp only [newT]; omega
        · simp only; omega
      · obtain ⟨j1, j2, j3⟩ := i5 y hy
        exact ⟨j1, by omega, by omega⟩
theorem good_new (b : List Nat) (hb : ∀ x ∈ b, lowN x = true) (b0 : b ≠ []) (L : List Ln) (hB : Byt (flatL L)) (h : ∀ x ∈ L, (pcs x.1).2 = true) (g : Pl.Good L) : Pl.Good (newL (strN b) L) := by
  refine good_map (newT (strN b)) L g ?_
  intro x hx
  obtain ⟨_, p2, p3, _, _⟩ := pcs_chg b hb b0 x.1 (fun c hc => hB c ((flat_mem hx).1 c hc)) (h x hx)
  exact ⟨p2, p3⟩
theorem songL_len : ∀ (L : List Ln), Byt (flatL L) → (songL L).length ≤ (flatL L).length + 4 * L.length
  | [], _ => by simp [songL]
  | x :: r, hB => by
    rw [flatL] at hB
    have ih := songL_len r (byt_right (byt_right hB))
    have hp := pcs_len x.1 (byt_left hB)
    have hm : (if x.2 = [] then ([] : List Pc) else [mk x.2]).length ≤ 1 := by split <;> simp
    rw [songL, flatL]
    simp only [List.length_append, List.length_cons]
    omega
/-! ### the law's loops -/
def st (b : ByteArray) (M : List Pc) (i : Nat) : List Pc := (M.take i).map (chg b) ++ M.drop i
theorem st_len (b : ByteArray) (M : List Pc) (i : Nat) : (st b M i).length = M.length := by
  unfold st
  rw [List.length_append, List.length_map, List.length_take, List.length_drop]; omega
theorem st_get (b : ByteArray) (M : List Pc) (i : Nat) (h : i < M.length) : (st b M i)[i]? = some M[i] := by
  unfold st
  rw [List.getElem?_append_right (by rw [List.length_map, List.length_take]; omega), List.length_map, List.length_take, List.getElem?_drop, show i + (i - min i M.length) = i by omega, List.getElem?_eq_getElem h]
theorem st_succ (b : ByteArray) (M : List Pc) (i : Nat) (h : i < M.length) : (st b M i).set i (chg b M[i]) = st b M (i + 1) := by
  unfold st
  have hl : ((M.take i).map (chg b)).length = i := by rw [List.length_map, List.length_take]; omega
  rw [List.set_append_right _ _ (by omega), hl, Nat.sub_self, List.drop_eq_getElem_cons h, List.set_cons_zero, List.take_succ_eq_append_getElem h, List.map_append]
  simp
theorem rd_p (M : List Pc) (i : Nat) (x : Pc) (h : M[i]? = some x) : rd_T30 (M.map toP) (i : Int) = toP x := by
  simp [rd_T30, List.getD_eq_getElem?_getD, h]
theorem same_end (M : List Pc) (hM : M.length ≤ 100000) : ∀ (d i : Nat), i + d = M.length → Ev (fun k => diacriticlaw23_CueChanges.l2 k (M.map toP) (M.map toP) ((M.map toP).length : Int) (i : Int)) true
  | 0, i, hi => by
    exact Ev.step (fun k => by rw [diacriticlaw23_CueChanges.l2]) (Ev.iten (by rw [List.length_map]; omega) (Ev.bind awake23c (Ev.some rfl)))
  | d + 1, i, hi => by
    refine Ev.step (fun k => by rw [diacriticlaw23_CueChanges.l2]) (Ev.itep (by rw [List.length_map]; omega) (Ev.itep (by omega) (Ev.itep (by rw [List.length_map]; omega) (Ev.itep (by rw [List.length_map]; omega) (Ev.iten (by simp) ?_)))))
    rw [show wrap64 ((i : Int) + 1) = ((i + 1 : Nat) : Int) by rw [w64 (by omega)]; omega]
    exact same_end M hM d (i + 1) (by omega)
theorem change_end (t : ByteArray) (ht : t.size ≤ 500) (b : List Nat) (hb : ∀ x ∈ b, lowN x = true) (b0 : b ≠ []) (b50 : b.length ≤ 50) (L : List Ln) (g : Pl.Good L) (hf : flatL L = nats t) (hL : L.length ≤ 500) (h : ∀ x ∈ L, (pcs x.1).2 = true) :
    Ev (fun k => diacriticlaw23_CueChanges.l1 k (strN b) (((songL L).map (chg (strN b))).map toP) ((((songL L).map (chg (strN b))).map toP).length : Int) ((songL L).length : Int)) true := by
  have hB : Byt (flatL L) := by rw [hf]; exact nats_lt t
  have hfl : (flatL L).length ≤ 500 := by rw [hf, nats_len]; exact ht
  have hsl := songL_len L hB
  obtain ⟨s1, s2, s3, s4, s5⟩ := song_new b hb b0 L hB h
  have hLb : L.length * b.length ≤ 500 * 50 := Nat.mul_le_mul hL b50
  have hgn := good_new b hb b0 L hB h g
  have hc := cut_good _ hgn s3
  have hsm : Small (cut (strN (flatL (newL (strN b) L)))) := by
    rw [hc]
    exact small_pos _ 0 (fun x hx => by obtain ⟨_, a, c⟩ := s5 x hx; omega)
  have hp := parse_ev (strN (flatL (newL (strN b) L))) (by rw [size_strN]; omega) hsm
  rw [hc, song_pos _ 0 s3 (fun x hx => (s5 x hx).1), if_pos rfl, s1] at hp
  have ec := cat_txt ((songL L).map (chg (strN b)))
  rw [s2] at ec
  generalize hM : (songL L).map (chg (strN b)) = M at *
  have hMl : M.length = (songL L).length := by rw [← hM, List.length_map]
  refine Ev.step (fun k => by rw [diacriticlaw23_CueChanges.l1]) (Ev.iten (by rw [List.length_map]; omega) ?_)
  refine Ev.bind (whole_ev _ (by rw [List.length_map]; omega) (by rw [ec, size_strN]; omega)) ?_
  rw [ec]
  refine Ev.bind hp (Ev.bindc rfl (Ev.iten (by simp) ?_))
  simp only [bne_self_eq_false]
  refine Ev.step (fun k => by rw [diacriticlaw23_CueChanges.j3]) (Ev.iten (by decide) ?_)
  exact same_end M (by omega) M.length 0 (by omega)
theorem change_loop (t : ByteArray) (ht : t.size ≤ 500) (b : List Nat) (hb : ∀ x ∈ b, lowN x = true) (b0 : b ≠ []) (b50 : b.length ≤ 50) (L : List Ln) (g : Pl.Good L) (hf : flatL L = nats t) (hL : L.length ≤ 500) (h : ∀ x ∈ L, (pcs x.1).2 = true) : ∀ (d i : Nat), i + d = (songL L).length →
    Ev (fun k => diacriticlaw23_CueChanges.l1 k (strN b) ((st (strN b) (songL L) i).map toP) ((songL L).length : Int) (i : Int)) true
  | 0, i, hi => by
    have := change_end t ht b hb b0 b50 L g hf hL h
    rw [List.length_map, List.length_map] at this
    have e : i = (songL L).length := by omega
    subst e
    have e2 : st (strN b) (songL L) (songL L).length = (songL L).map (chg (strN b)) := by
      unfold st
      rw [List.take_of_length_le (Nat.le_refl _), List.drop_of_length_le (Nat.le_refl _), List.append_nil]
    rw [e2]; exact this
  | d + 1, i, hi => by
    have hB : Byt (flatL L) := by rw [hf]; exact nats_lt t
    have hfl : (flatL L).length ≤ 500 := by rw [hf, nats_len]; exact ht
    have hsl := songL_len L hB
    have hlt : i < (songL L).length := by omega
    have hsl2 := st_len (strN b) (songL L) i
    refine Ev.step (fun k => by rw [diacriticlaw23_CueChanges.l1]) (Ev.itep (by omega) (Ev.itep (by omega) (Ev.itep (by rw [List.length_map]; omega) ?_)))
    rw [rd_p _ i _ (st_get (strN b) (songL L) i hlt), show wrap64 ((i : Int) + 1) = ((i + 1 : Nat) : Int) by rw [w64 (by omega)]; omega]
    have hs := st_succ (strN b) (songL L) i hlt
    have ih := change_loop t ht b hb b0 b50 L g hf hL h d (i + 1) (by omega)
    by_cases c : (songL L)[i].1 = true
    · refine Ev.itep c ?_
      have e : chg (strN b) (songL L)[i] = (songL L)[i] := by unfold chg; rw [if_pos c]
      rw [e] at hs
      have e3 : (st (strN b) (songL L) i).set i (songL L)[i] = st (strN b) (songL L) i := by
        apply List.ext_getElem?
        intro j
        rw [List.getElem?_set]
        by_cases hj : i = j
        · subst hj
          rw [if_pos rfl, if_pos (by omega), st_get _ _ _ hlt]
        · rw [if_neg hj]
      rw [e3] at hs
      rw [hs]; exact ih
    · refine Ev.iten c ?_
      have e : (⟨(toP (songL L)[i]).f0, (toP (songL L)[i]).f1, strN b⟩ : S30) = toP (chg (strN b) (songL L)[i]) := by
        unfold chg; rw [if_neg c]; rfl
      rw [e, Int.toNat_natCast, ← List.map_set, hs]
      exact ih
theorem letters_loop (t by_ : ByteArray) (ht : t.size ≤ 500) (hb : by_.size ≤ 50) (h0 : nats by_ ≠ []) : ∀ (d i : Nat), i + d = by_.size → (∀ x ∈ (nats by_).take i, lowN x = true) →
    Ev (fun k => diacriticlaw23_CueChanges.l0 k t by_ (by_.size : Int) (i : Int)) true
  | 0, i, hi, hv => by
    rw [List.take_of_length_le (by rw [nats_len]; omega)] at hv
    obtain ⟨L, g, hf, hc⟩ := cut_is t
    have hch := chain_all t
    have hB : Byt (flatL L) := by rw [hf]; exact nats_lt t
    have hfl : (flatL L).length ≤ 500 := by rw [hf, nats_len]; exact ht
    have hL : L.length ≤ 500 := by
      have := cutL_len t (t.size + 1) 0 0 (Nat.le_refl _) (Nat.zero_le _)
      have e : (cut t).length = L.length := by rw [hc, posL_len]
      unfold cut at e; omega
    have hsm : Small (cut t) := by
      rw [hc]
      refine small_pos _ 0 (fun x hx => ?_)
      have := (flat_mem hx).2.2
      omega
    have hp := parse_ev t (by omega) hsm
    refine Ev.step (fun k => by rw [diacriticlaw23_CueChanges.l0]) (Ev.iten (by omega) (Ev.bind hp ?_))
    by_cases hn : (song (cut t)).2 = -1
    · rw [hc] at hn
      have hall := song_all L 0 hB hn
      have hs := song_pos L 0 hB hall
      have hsl := songL_len L hB
      rw [hc, hs, if_pos rfl]
      refine Ev.bindc rfl (Ev.iten (by simp) (Ev.itep (by simp only [List.length_nil, List.length_map]; omega) (Ev.bindc rfl ?_)))
      have hb2 : by_ = strN (nats by_) := (strN_nats _).symm
      rw [List.nil_append, List.length_map]
      have := change_loop t ht (nats by_) hv h0 (by rw [nats_len]; exact hb) L g hf hL hall (songL L).length 0 (by omega)
      rw [← hb2] at this
      exact this
    · rw [if_neg hn]
      exact Ev.bindc rfl (Ev.itep (by simp) (Ev.bind awake23c (Ev.some rfl)))
  | d + 1, i, hi, hv => by
    have hlt : i < (nats by_).length := by rw [nats_len]; omega
    have hbt := bt_nats by_ i (by omega)
    rw [List.getD_eq_getElem?_getD, List.getElem?_eq_getElem hlt] at hbt
    simp only [Option.getD_some] at hbt
    refine Ev.step (fun k => by rw [diacriticlaw23_CueChanges.l0]) (Ev.itep (by omega) (Ev.itep (by omega) (Ev.itep (by omega) ?_)))
    by_cases c1 : bt by_ (i : Int) < 97
    · exact Ev.itep c1 (Ev.bind awake23c (Ev.some rfl))
    refine Ev.iten c1 ?_
    by_cases c2 : bt by_ (i : Int) > 122
    · exact Ev.itep c2 (Ev.bind awake23c (Ev.some rfl))
    refine Ev.iten c2 ?_
    rw [show wrap64 ((i : Int) + 1) = ((i + 1 : Nat) : Int) by rw [w64 (by omega)]; omega]
    refine letters_loop t by_ ht hb h0 d (i + 1) (by omega) ?_
    intro x hx
    rw [List.take_succ_eq_append_getElem hlt, List.mem_append, List.mem_singleton] at hx
    rcases hx with hx | rfl
    · exact hv x hx
    · simp only [lowN, Bool.and_eq_true, decide_eq_true_eq]; omega
theorem changes_over (x0 x1 : ByteArray) : Ev (fun k => diacriticlaw23_CueChanges.j0 k x0 x1 true) true :=
  Ev.step (fun k => by rw [diacriticlaw23_CueChanges.j0]) (Ev.itep rfl (Ev.bind awake23c (Ev.some rfl)))
theorem CueChanges : diacriticlaw23_CueChanges.Pure := by
  intro x0 x1 _ _
  apply Ev.rounds
  unfold diacriticlaw23_CueChanges.f
  by_cases c0 : (x0.size : Int) > 500
  · exact Ev.itep c0 (changes_over _ _)
  refine Ev.iten c0 ?_
  by_cases c1 : (x1.size : Int) > 50
  · exact Ev.itep c1 (changes_over _ _)
  refine Ev.iten c1 ?_
  by_cases e1 : x1.toList = ([] : List UInt8)
  · rw [show (x1.toList == ([] : List UInt8)) = true by rw [e1]; rfl]
    exact changes_over _ _
  · rw [show (x1.toList == ([] : List UInt8)) = false from beq_eq_false_iff_ne.mpr e1]
    have p1 : 0 < x1.size := Nat.pos_of_ne_zero (fun e => e1 ((tl_nil _).mpr e))
    refine Ev.step (fun k => by rw [diacriticlaw23_CueChanges.j0]) (Ev.iten (by decide) ?_)
    refine Pure.letters_loop x0 x1 (by omega) (by omega) ?_ x1.size 0 (by omega) (by simp)
    intro e; have := congrArg List.length e; rw [nats_len, List.length_nil] at this; omega

end Go.Proofs.YtkhiiilfokijgaaDoor.Pure
