/- A text's lines as lists of bytes: any bytes are some good lines, one behind the other, and good lines are cut just so: plain lemmas. -/

import Derived.Test.YtkhiiilfokijgaaDoorLline
import Derived.Test.YtkhiiilfokijgaaDoorLnat
namespace Go.Proofs.YtkhiiilfokijgaaDoor.Pl
open Go.RowKit Go.Proofs.YtkhiiilfokijgaaDoor.PAll Go.Proofs.YtkhiiilfokijgaaDoorW.PrintWords Go.Proofs.YtkhiiilfokijgaaDoorW.PrintLast Go.Proofs.YtkhiiilfokijgaaDoorW.PrintMore
set_option linter.unusedVariables false
set_option linter.unusedSimpArgs false

abbrev Ln := List Nat × List Nat
def Byt (l : List Nat) : Prop := ∀ x ∈ l, x < 256
def noE (t : List Nat) : Prop := ∀ x ∈ t, x ≠ 10 ∧ x ≠ 13
def flatL : List Ln → List Nat
  | [] => []
  | x :: r => x.1 ++ (x.2 ++ flatL r)
def endOk (e r : List Nat) : Prop := e = [13, 10] ∨ e = [10] ∨ (e = [13] ∧ r.head? ≠ some 10)
/-- Lines as they are cut: no end within a text; each has an end but the last, if that has a text. -/
def Good : List Ln → Prop
  | [] => True
  | x :: r => noE x.1 ∧ ((x.2 = [] ∧ x.1 ≠ [] ∧ r = []) ∨ endOk x.2 (flatL r)) ∧ Good r
def posL : Nat → List Ln → List (ByteArray × ByteArray × Nat)
  | _, [] => []
  | p, x :: r => (strN x.1, strN x.2, p) :: posL (p + x.1.length + x.2.length) r
theorem posL_len (L : List Ln) : ∀ p, (posL p L).length = L.length := by
  induction L with
  | nil => intro p; rfl
  | cons x r ih => intro p; simp [posL, ih]
theorem flatL_app (a b : List Ln) : flatL (a ++ b) = flatL a ++ flatL b := by
  induction a with
  | nil => rfl
  | cons x r ih => simp [flatL, ih]
theorem byt_left {a b : List Nat} (h : Byt (a ++ b)) : Byt a := fun x hx => h x (by simp [hx])
theorem byt_right {a b : List Nat} (h : Byt (a ++ b)) : Byt b := fun x hx => h x (by simp [hx])
theorem byt_app {a b : List Nat} (ha : Byt a) (hb : Byt b) : Byt (a ++ b) := by
  intro x hx
  rw [List.mem_append] at hx
  exact hx.elim (ha x) (hb x)
/-! ### good lines are cut just so -/
def eN (l : List Nat) : Nat := if l.head? = some 13 ∧ l.tail.head? = some 10 then 2 else if l.head? = some 10 ∨ l.head? = some 13 then 1 else 0
theorem head_drop (s : ByteArray) (i : Nat) (h : i < s.size) (c : Nat) : ((nats s).drop i).head? = some c ↔ bt s (i : Int) = (c : Int) := by
  have hl : i < (nats s).length := by rw [nats_len]; exact h
  rw [bt_nats s i h, List.head?_drop, List.getD_eq_getElem?_getD, List.getElem?_eq_getElem hl]
  simp only [Option.some.injEq, Option.getD_some]
  omega
theorem endN_eq (s : ByteArray) (i : Nat) (h : i < s.size) : endN s i = eN ((nats s).drop i) := by
  unfold endN eN
  have h13 := head_drop s i h 13
  have h10 := head_drop s i h 10
  have ht : ((nats s).drop i).tail.head? = some 10 ↔ (i + 1 < s.size ∧ bt s ((i + 1 : Nat) : Int) = 10) := by
    rw [List.tail_drop]
    by_cases h2 : i + 1 < s.size
    · have := head_drop s (i + 1) h2 10
      constructor
      · intro e; exact ⟨h2, this.mp e⟩
      · intro e; exact this.mpr e.2
    · rw [List.drop_of_length_le (by rw [nats_len]; omega)]
      constructor
      · intro e; simp at e
      · intro e; exact absurd e.1 h2
  have e1 : (((nats s).drop i).head? = some 13 ∧ ((nats s).drop i).tail.head? = some 10) ↔ (bt s (i : Int) = 13 ∧ i + 1 < s.size ∧ bt s ((i + 1 : Nat) : Int) = 10) := by
    rw [h13, ht]; rfl
  have e2 : (((nats s).drop i).head? = some 10 ∨ ((nats s).drop i).head? = some 13) ↔ (bt s (i : Int) = 10 ∨ bt s (i : Int) = 13) := by
    rw [h13, h10]; rfl
  simp only [e1, e2]
theorem cutL_run (s : ByteArray) : ∀ (u : List Nat) (d fr i : Nat) (v : List Nat), noE u → (nats s).drop i = u ++ v → i + u.length ≤ s.size → u.length ≤ d → cutL s d fr i = cutL s (d - u.length) fr (i + u.length)
  | [], d, fr, i, v, _, _, _, _ => by simp
  | c :: u, d, fr, i, v, hu, hd, hs, hl => by
    rw [List.length_cons] at hs hl
    obtain ⟨d, rfl⟩ : ∃ m, d = m + 1 := ⟨d - 1, by omega⟩
    have hi : i < s.size := by omega
    have hc := hu c (by simp)
    have e0 : endN s i = 0 := by
      rw [endN_eq s i hi, hd]
      unfold eN
      rw [if_neg, if_neg]
      · simp only [List.cons_append, List.head?_cons, Option.some.injEq]; omega
      · simp only [List.cons_append, List.head?_cons, Option.some.injEq]; omega
    rw [cutL, if_pos hi, if_pos e0]
    have hd2 : (nats s).drop (i + 1) = u ++ v := by
      rw [← List.tail_drop, hd]; rfl
    rw [cutL_run s u d fr (i + 1) v (fun x hx => hu x (by simp [hx])) hd2 (by omega) (by omega), List.length_cons]
    congr 1 <;> omega
theorem ext_piece (s : ByteArray) (i : Nat) (u v : List Nat) (h : (nats s).drop i = u ++ v) : s.extract i (i + u.length) = strN u := by
  apply nats_inj
  have hu : ∀ x ∈ u, x < 256 := by
    intro x hx
    have : x ∈ (nats s).drop i := by rw [h]; simp [hx]
    exact nats_lt s x (List.mem_of_mem_drop this)
  rw [nats_ext, h, nats_strN hu, show i + u.length - i = u.length by omega, List.take_left]
theorem eN_end {e r : List Nat} (h : endOk e r) : eN (e ++ r) = e.length ∧ 0 < e.length := by
  rcases h with rfl | rfl | ⟨rfl, h⟩
  · exact ⟨rfl, by decide⟩
  · exact ⟨rfl, by decide⟩
  · refine ⟨?_, by decide⟩
    unfold eN
    rw [if_neg (by simpa using h), if_pos (by simp)]; rfl
theorem cutL_good (s : ByteArray) : ∀ (L : List Ln) (d fr : Nat), Good L → (nats s).drop fr = flatL L → fr ≤ s.size → s.size - fr < d → cutL s d fr fr = posL fr L
  | [], d, fr, _, hd, hf, hl => by
    obtain ⟨d, rfl⟩ : ∃ m, d = m + 1 := ⟨d - 1, by omega⟩
    have := congrArg List.length hd
    rw [List.length_drop, nats_len, flatL, List.length_nil] at this
    rw [cutL, if_neg (by omega), if_neg (by omega)]; rfl
  | x :: r, d, fr, hg, hd, hf, hl => by
    obtain ⟨t, e⟩ := x
    obtain ⟨h1, h2, h3⟩ := hg
    simp only at h1 h2
    have hlen := congrArg List.length hd
    rw [flatL] at hd hlen
    simp only [List.length_drop, nats_len, List.length_append] at hlen
    rw [cutL_run s t d fr fr (e ++ flatL r) h1 hd (by omega) (by omega)]
    have hd2 : (nats s).drop (fr + t.length) = e ++ flatL r := by rw [← List.drop_drop, hd, List.drop_left]
    obtain ⟨d', hd'⟩ : ∃ m, d - t.length = m + 1 := ⟨d - t.length - 1, by omega⟩
    rw [hd', cutL, posL]
    rcases h2 with ⟨rfl, ht, rfl⟩ | he
    · have htl := List.length_pos_iff.mpr ht
      simp only [flatL, List.length_nil] at hlen
      rw [if_neg (by omega), if_pos (by omega)]
      have := ext_piece s fr t ([] ++ flatL []) hd
      rw [show fr + t.length = s.size by omega] at this
      rw [this]; rfl
    · obtain ⟨e1, e2⟩ := eN_end he
      have hi : fr + t.length < s.size := by omega
      have en : endN s (fr + t.length) = e.length := by rw [endN_eq s _ hi, hd2, e1]
      rw [if_pos hi, if_neg (by omega), en, ext_piece s fr t _ hd, ext_piece s (fr + t.length) e _ hd2]
      have hd3 : (nats s).drop (fr + t.length + e.length) = flatL r := by rw [← List.drop_drop, hd2, List.drop_left]
      rw [cutL_good s r d' (fr + t.length + e.length) h3 hd3 (by omega) (by omega)]
theorem cut_good (L : List Ln) (h : Good L) (hb : Byt (flatL L)) : cut (strN (flatL L)) = posL 0 L := by
  unfold cut
  exact cutL_good _ L _ 0 h (by rw [List.drop_zero, nats_strN hb]) (Nat.zero_le _) (by omega)
/-! ### any bytes are good lines -/
theorem split_end : ∀ (l : List Nat), ∃ u v, l = u ++ v ∧ noE u ∧ (v = [] ∨ ∃ c w, v = c :: w ∧ (c = 10 ∨ c = 13))
  | [] => ⟨[], [], rfl, (fun x hx => absurd hx (by simp)), .inl rfl⟩
  | c :: l => by
    by_cases h : c = 10 ∨ c = 13
    · exact ⟨[], c :: l, rfl, (fun x hx => absurd hx (by simp)), .inr ⟨c, l, rfl, h⟩⟩
    · obtain ⟨u, v, e, hu, hv⟩ := split_end l
      refine ⟨c :: u, v, by rw [e]; rfl, ?_, hv⟩
      intro x hx
      rcases List.mem_cons.mp hx with rfl | hx
      · omega
      · exact hu x hx
theorem good_of : ∀ (d : Nat) (l : List Nat), l.length < d → ∃ L, Good L ∧ flatL L = l
  | 0, l, h => absurd h (by omega)
  | d + 1, l, h => by
    obtain ⟨u, v, rfl, hu, hv⟩ := split_end l
    rw [List.length_append] at h
    rcases hv with rfl | ⟨c, w, rfl, hc⟩
    · by_cases h0 : u = []
      · exact ⟨[], trivial, by rw [h0]; rfl⟩
      · exact ⟨[(u, [])], ⟨hu, .inl ⟨rfl, h0, rfl⟩, trivial⟩, by simp [flatL]⟩
    · rw [List.length_cons] at h
      rcases hc with rfl | rfl
      · obtain ⟨L, g, e⟩ := good_of d w (by omega)
        exact ⟨(u, [10]) :: L, ⟨hu, .inr (.inr (.inl rfl)), g⟩, by rw [flatL, e]; rfl⟩
      · by_cases h10 : w.head? = some 10
        · obtain ⟨w', rfl⟩ : ∃ w', w = 10 :: w' := by
            cases w with
            | nil => simp at h10
            | cons a b => simp at h10; exact ⟨b, by rw [h10]⟩
          rw [List.length_cons] at h
          obtain ⟨L, g, e⟩ := good_of d w' (by omega)
          exact ⟨(u, [13, 10]) :: L, ⟨hu, .inr (.inl rfl), g⟩, by rw [flatL, e]; rfl⟩
        · obtain ⟨L, g, e⟩ := good_of d w (by omega)
          exact ⟨(u, [13]) :: L, ⟨hu, .inr (.inr (.inr ⟨rfl, by rw [e]; exact h10⟩)), g⟩, by rw [flatL, e]; rfl⟩
/-- The lines of any text, as good lines. -/
theorem cut_is (s : ByteArray) : ∃ L, Good L ∧ flatL L = nats s ∧ cut s = posL 0 L := by
  obtain ⟨L, g, e⟩ := good_of ((nats s).length + 1) (nats s) (by omega)
  refine ⟨L, g, e, ?_⟩
  have := cut_good L g (by rw [e]; exact nats_lt s)
  rwa [e, strN_nats] at this
theorem flat_mem {L : List Ln} {x : Ln} (h : x ∈ L) : (∀ c ∈ x.1, c ∈ flatL L) ∧ (∀ c ∈ x.2, c ∈ flatL L) ∧ x.1.length + x.2.length ≤ (flatL L).length := by
  induction L with
  | nil => simp at h
  | cons y r ih =>
    rw [flatL]
    rcases List.mem_cons.mp h with rfl | h
    · refine ⟨?_, ?_, ?_⟩
      · intro c hc; simp [hc]
      · intro c hc; simp [hc]
      · simp only [List.length_append]; omega
    · obtain ⟨a, b, c⟩ := ih h
      refine ⟨?_, ?_, ?_⟩
      · intro z hz; simp [a z hz]
      · intro z hz; simp [b z hz]
      · simp only [List.length_append]; omega
/-- One line, or none: no end in it. -/
theorem one_line (s : ByteArray) (h : (cut s).length ≤ 1) (h1 : ∀ x, (cut s)[0]? = some x → x.2.1.size = 0) : noE (nats s) := by
  obtain ⟨L, g, e, c⟩ := cut_is s
  rw [c, posL_len] at h
  rw [← e]
  match L, h, g, c with
  | [], _, _, _ => intro x hx; simp [flatL] at hx
  | [x], _, g, c =>
    have := h1 (strN x.1, strN x.2, 0) (by rw [c]; rfl)
    simp only [size_strN] at this
    have e0 : x.2 = [] := List.eq_nil_of_length_eq_zero this
    intro y hy
    simp only [flatL, e0, List.nil_append, List.append_nil] at hy
    exact g.1 y hy
  | _ :: _ :: _, h, _, _ => simp at h

/-! ### texts in the places of lines' texts -/
theorem head_app {a b : List Nat} (h : a ≠ []) : (a ++ b).head? = a.head? := by
  cases a with
  | nil => exact absurd rfl h
  | cons x r => rfl
theorem noE_head {t : List Nat} (h : noE t) : t.head? ≠ some 10 := by
  cases t with
  | nil => simp
  | cons x r =>
    have := h x (by simp)
    simp only [List.head?_cons, ne_eq, Option.some.injEq]; exact this.1
theorem good_head (f : List Nat → List Nat) : ∀ (L : List Ln), Good L → (∀ x ∈ L, (noE x.1 → noE (f x.1)) ∧ (f x.1 = [] ↔ x.1 = [])) → (flatL L).head? ≠ some 10 → (flatL (L.map fun x => (f x.1, x.2))).head? ≠ some 10
  | [], _, _, h => h
  | x :: r, g, hf, h => by
    have hx := hf x (by simp)
    rw [List.map_cons, flatL]
    rw [flatL] at h
    by_cases h0 : x.1 = []
    · have h0' := hx.2.mpr h0
      rw [h0']
      rw [h0] at h
      rw [List.nil_append] at h ⊢
      have he : x.2 ≠ [] := by
        rcases g.2.1 with ⟨_, e, _⟩ | e | e | ⟨e, _⟩
        · exact absurd h0 e
        · rw [e]; simp
        · rw [e]; simp
        · rw [e]; simp
      rw [head_app he] at h ⊢
      exact h
    · have h0' : f x.1 ≠ [] := fun e => h0 (hx.2.mp e)
      simp only [head_app h0']
      exact noE_head (hx.1 g.1)
theorem good_map (f : List Nat → List Nat) : ∀ (L : List Ln), Good L → (∀ x ∈ L, (noE x.1 → noE (f x.1)) ∧ (f x.1 = [] ↔ x.1 = [])) → Good (L.map fun x => (f x.1, x.2))
  | [], _, _ => trivial
  | x :: r, g, hf => by
    have hx := hf x (by simp)
    have hr : ∀ y ∈ r, (noE y.1 → noE (f y.1)) ∧ (f y.1 = [] ↔ y.1 = []) := fun y hy => hf y (by simp [hy])
    refine ⟨hx.1 g.1, ?_, good_map f r g.2.2 hr⟩
    rcases g.2.1 with ⟨e, h0, hr0⟩ | e | e | ⟨e, h10⟩
    · exact .inl ⟨e, fun e0 => h0 (hx.2.mp e0), by rw [hr0]; rfl⟩
    · exact .inr (.inl e)
    · exact .inr (.inr (.inl e))
    · exact .inr (.inr (.inr ⟨e, good_head f r g.2.2 hr h10⟩))

end Go.Proofs.YtkhiiilfokijgaaDoor.Pl
