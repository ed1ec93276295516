/- A sheet's pieces, line by line: plain lemmas. -/
import Derived.Test.YtkhiiilfokijgaaDoorPAllx0
import Derived.Test.YtkhiiilfokijgaaDoorPAllx14
import Derived.Test.YtkhiiilfokijgaaDoorPAllx6
import Derived.Test.YtkhiiilfokijgaaDoorLcue4
namespace Go.Proofs.YtkhiiilfokijgaaDoor.Pl
open Go.RowKit Go.Proofs.YtkhiiilfokijgaaDoor.PAll Go.Proofs.YtkhiiilfokijgaaDoorW.PrintWords Go.Proofs.YtkhiiilfokijgaaDoorW.PrintLast
set_option linter.unusedVariables false
set_option linter.unusedSimpArgs false

/-- The pieces of a song's lines, or the first line without a form. -/
noncomputable def song : List (ByteArray × ByteArray × Nat) → List Pc × Int
  | [] => ([], -1)
  | x :: r => if (pcs (nats x.1)).2 = true then
      (if (song r).2 = -1 then ((pcs (nats x.1)).1 ++ (if x.2.1.size = 0 then [] else [(true, markW, x.2.1)]) ++ (song r).1, -1) else ([], (song r).2))
    else ([], (x.2.2 : Int))
theorem song_neg (r : List (ByteArray × ByteArray × Nat)) : -1 ≤ (song r).2 := by
  induction r with
  | nil => exact Int.le_refl _
  | cons x r ih =>
    rw [song]
    split
    · split
      · exact Int.le_refl _
      · exact ih
    · show (-1 : Int) ≤ ((x.2.2 : Nat) : Int); omega
/-- Bounds: all lines together are no more than so many bytes. -/
def Small (L : List (ByteArray × ByteArray × Nat)) : Prop := ∀ x ∈ L, x.1.size ≤ 1000 ∧ x.2.1.size ≤ 1000
theorem walk_loop (L : List (ByteArray × ByteArray × Nat)) (hL : L.length ≤ 100000) (hs : Small L) : ∀ (d i : Nat) (acc : List S30), i + d = L.length → acc.length ≤ 2000 * i →
    Ev (fun k => line_Walk.l0 k acc (L.map toL) ((L.map toL).length : Int) (i : Int))
      (if (song (L.drop i)).2 = -1 then (acc ++ (song (L.drop i)).1.map toP, 0, 0) else ([], 1, (song (L.drop i)).2))
  | 0, i, acc, hi, ha => by
    refine Ev.step (fun k => by rw [line_Walk.l0]) (Ev.iten (by rw [List.length_map]; omega) (Ev.some ?_))
    rw [List.drop_of_length_le (by omega), song, if_pos rfl]; simp
  | d + 1, i, acc, hi, ha => by
    have hlt : i < L.length := by omega
    have hx := hs L[i] (List.getElem_mem hlt)
    have e1 : rd_T53 (L.map toL) (i : Int) = toL L[i] := by
      simp [rd_T53, List.getD_eq_getElem?_getD, List.getElem?_eq_getElem hlt]
    have pe := pieces_ev (nats L[i].1) (nats_lt _) (by rw [nats_len]; omega)
    rw [strN_nats] at pe
    have pl := pcs_len (nats L[i].1) (nats_lt _)
    rw [nats_len] at pl
    refine Ev.step (fun k => by rw [line_Walk.l0]) (Ev.itep (by rw [List.length_map]; omega) (Ev.itep (by omega) (Ev.itep (by rw [List.length_map]; omega) ?_)))
    rw [e1, show wrap64 ((i : Int) + 1) = ((i + 1 : Nat) : Int) by rw [w64 (by omega)]; omega, List.drop_eq_getElem_cons hlt, song]
    refine Ev.bind pe ?_
    by_cases h : (pcs (nats L[i].1)).2 = true
    · rw [if_pos h]
      refine Ev.itep h (Ev.itep (by rw [List.length_map]; omega) (Ev.bindc rfl ?_))
      by_cases h0 : L[i].2.1.size = 0
      · refine Ev.itep ((tl_nil _).mpr h0) (Ev.eq (walk_loop L hL hs d (i + 1) _ (by omega) (by rw [List.length_append, List.length_map]; omega)) ?_)
        rw [if_pos h0]
        by_cases hr : (song (L.drop (i + 1))).2 = -1
        · rw [if_pos hr, if_pos hr, if_pos rfl]; simp
        · rw [if_neg hr, if_neg hr, if_neg hr]
      · have m1 : line_Mark.f [L[i].2.1] = some (true, markW, L[i].2.1) := by
          have ec : cat [L[i].2.1] = L[i].2.1 := by
            apply nats_inj
            apply ints_inj
            rw [← bytes_ints, ← bytes_ints, bytesOf_cat]; simp
          rw [mark_ok _ (by simp) (by rw [ec]; omega), ec]; rfl
        refine Ev.iten (fun e => h0 ((tl_nil _).mp e)) (Ev.bindc m1 (Ev.itep (by rw [List.length_append, List.length_map]; omega) (Ev.eq (walk_loop L hL hs d (i + 1) _ (by omega) (by rw [List.length_append, List.length_append, List.length_map]; simp; omega)) ?_)))
        rw [if_neg h0]
        by_cases hr : (song (L.drop (i + 1))).2 = -1
        · rw [if_pos hr, if_pos hr, if_pos rfl]; simp [toP]
        · rw [if_neg hr, if_neg hr, if_neg hr]
    · rw [if_neg h, if_neg (by show ¬ ((L[i].2.2 : Nat) : Int) = -1; omega)]
      exact Ev.iten h (Ev.some rfl)

theorem parse_ev (s : ByteArray) (hs : s.size ≤ 100000) (hsm : Small (cut s)) : Ev (fun k => cue_Parse.f k s) (if (song (cut s)).2 = -1 then ((song (cut s)).1.map toP, 0, 0) else ([], 1, (song (cut s)).2)) := by
  have hlen : (cut s).length ≤ 100000 := by
    have := cutL_len s (s.size + 1) 0 0 (Nat.le_refl _) (Nat.zero_le _)
    unfold cut; omega
  have w := walk_loop (cut s) (by omega) hsm (cut s).length 0 [] (by omega) (Nat.le_refl _)
  rw [List.drop_zero, List.nil_append] at w
  unfold cue_Parse.f line_Walk.f
  exact Ev.bind (Ev.bind (lines_ev s (by omega)) w) (Ev.some rfl)
/-- The pieces of good lines. -/
noncomputable def songL : List Ln → List Pc
  | [] => []
  | x :: r => (pcs x.1).1 ++ (if x.2 = [] then [] else [mk x.2]) ++ songL r
theorem song_pos : ∀ (L : List Ln) (p : Nat), Byt (flatL L) → (∀ x ∈ L, (pcs x.1).2 = true) → song (posL p L) = (songL L, -1)
  | [], p, _, _ => rfl
  | x :: r, p, hb, h => by
    rw [flatL] at hb
    have ih := song_pos r (p + x.1.length + x.2.length) (byt_right (byt_right hb)) (fun y hy => h y (by simp [hy]))
    rw [posL, song, ih]
    simp only [nats_strN (byt_left hb), size_strN]
    rw [if_pos (h x (by simp)), if_pos trivial, songL]
    by_cases h0 : x.2 = []
    · rw [if_pos h0, if_pos (by rw [h0]; rfl)]
    · rw [if_neg h0, if_neg (fun e => h0 (List.eq_nil_of_length_eq_zero e))]; rfl
theorem song_all : ∀ (L : List Ln) (p : Nat), Byt (flatL L) → (song (posL p L)).2 = -1 → ∀ x ∈ L, (pcs x.1).2 = true
  | [], _, _, _, x, hx => by simp at hx
  | y :: r, p, hb, h, x, hx => by
    rw [flatL] at hb
    rw [posL, song] at h
    simp only [nats_strN (byt_left hb)] at h
    by_cases c : (pcs y.1).2 = true
    · rw [if_pos c] at h
      by_cases c2 : (song (posL (p + y.1.length + y.2.length) r)).2 = -1
      · rcases List.mem_cons.mp hx with rfl | hx
        · exact c
        · exact song_all r _ (byt_right (byt_right hb)) c2 x hx
      · rw [if_neg c2] at h; exact absurd h c2
    · rw [if_neg c] at h
      exact absurd h (by show ¬ ((p : Nat) : Int) = -1; omega)
theorem small_pos (L : List Ln) : ∀ p, (∀ x ∈ L, x.1.length ≤ 1000 ∧ x.2.length ≤ 1000) → Small (posL p L) := by
  induction L with
  | nil => intro p _ x hx; simp [posL] at hx
  | cons y r ih =>
    intro p h x hx
    rw [posL] at hx
    rcases List.mem_cons.mp hx with rfl | hx
    · simp only [size_strN]; exact h y (by simp)
    · exact ih _ (fun z hz => h z (by simp [hz])) x hx

end Go.Proofs.YtkhiiilfokijgaaDoor.Pl
