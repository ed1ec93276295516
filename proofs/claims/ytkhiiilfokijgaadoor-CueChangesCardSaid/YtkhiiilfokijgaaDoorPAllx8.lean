/- Written by a program of this session: functions of the Go program as Lean functions, and the walks that tie them to it. -/
import Derived.Test.YtkhiiilfokijgaaDoorPAllx0
namespace Go.Proofs.YtkhiiilfokijgaaDoor.PAll
open Go.RowKit Go.Proofs.YtkhiiilfokijgaaDoorW.PrintWords Go.Proofs.YtkhiiilfokijgaaDoorW.PrintLast Go.Proofs.YtkhiiilfokijgaaDoorW.PrintMore
attribute [local go_sem] max2_int min2_int max_two min_two max_three min_three max_four min_four   -- for this text's walks alone
set_option linter.unusedVariables false
set_option linter.unusedSimpArgs false

/-! ### cue_small: function 45 -/
/-- A row of bytes: each cell, none of them frozen. -/
def RowAt (w : World) (g : Nat) (xs : List Int) : Prop := ∀ j, j < xs.length → w.cell? ⟨g, j, none⟩ = some (.int .u8 (xs.getD j 0)) ∧ w.frozen? ⟨g, j, none⟩ = false
theorem RowAt.bytes (w : World) (e : TypeId) (s : ByteArray) : RowAt (Lib.bytesWorld w e s) w.heap.size (bytesOf s) := by
  intro j hj
  have hj' : j < s.size := by rwa [bytesOf_length] at hj
  refine ⟨?_, ?_⟩
  · rw [Lib.bytesWorld_cell _ _ _ _ hj']
    have h' : j < s.data.toList.length := by rw [data_length]; exact hj'
    simp [bytesOf, List.getD_eq_getElem?_getD, List.getElem?_eq_getElem h']
  · have hsz : s.size ≤ (Lib.bytesCells w e s).size := by
      unfold Lib.bytesCells
      simp only [Array.size_append, Array.size_map]
      show s.data.size ≤ _
      omega
    simp only [World.frozen?, Lib.bytesWorld_at_new, Bool.and_eq_false_iff, decide_eq_false_iff_not]
    left; omega
theorem RowAt.bel (w : World) (e : TypeId) (s : ByteArray) : Below w.heap.size w (Lib.bytesWorld w e s) := ⟨rfl, rfl, rfl, by rw [Lib.bytesWorld_size]; omega, fun i hi => Lib.bytesWorld_at_old w e s i (by omega)⟩
theorem RowAt.set {w : World} {g : Nat} {xs : List Int} (h : RowAt w g xs) {j : Nat} (hj : j < xs.length) (v : Int) : RowAt (w.setCell ⟨g, j, none⟩ (.int .u8 v)) g (xs.set j v) := by
  intro i hi
  rw [List.length_set] at hi
  obtain ⟨h1, h2⟩ := h i hi
  refine ⟨?_, ?_⟩
  · by_cases he : j = i
    · subst he
      rw [World.cell?_setCell_same _ _ _ h1, List.getD_eq_getElem?_getD, List.getElem?_set_self hj, Option.getD_some]
    · rw [World.cell?_setCell_other _ _ _ _ (by first | (simp; done) | (simp; omega)), h1, List.getD_eq_getElem?_getD, List.getD_eq_getElem?_getD, List.getElem?_set_ne he]
  · rw [World.frozen?_setCell]; exact h2
theorem RowAt.below {w w' : World} {g : Nat} {xs : List Int} (h : RowAt w g xs) (hb : Below w.heap.size w w') (hg : g < w.heap.size) : RowAt w' g xs := by
  intro j hj
  obtain ⟨h1, h2⟩ := h j hj
  exact ⟨(hb.cell (p := ⟨g, j, none⟩) hg).trans h1, (hb.frozen (p := ⟨g, j, none⟩) hg).trans h2⟩
theorem RowAt.string {P : Program} {w : World} {g : Nat} {xs : List Int} (h : RowAt w g xs) (hx : ∀ x ∈ xs, 0 ≤ x ∧ x ≤ 255) {src dst e : TypeId} (hs : P.underlying src = some (.slice e)) (he : P.underlying e = some (.int .u8)) (hd : P.underlying dst = some .string) (n cap : Nat) (hn : n = xs.length) :
    (convert src dst (.slice (some ⟨g, 0, none⟩) n cap)).run P w = .ok (.string (strOfNums xs)) w := by
  have hb : (strOfNums xs).data.toList.map (fun b : UInt8 => (b.toNat : Int)) = xs := by
    simp only [strOfNums_data, List.map_map]
    conv => rhs; rw [← List.map_id xs]
    apply List.map_congr_left
    intro x hx'
    have := hx x hx'
    simp only [Function.comp, id, UInt8.toNat_ofNat']
    omega
  have hl : (strOfNums xs).data.toList.length = xs.length := by
    have := congrArg List.length hb
    rwa [List.length_map] at this
  rw [hn, ← hl]
  exact run_convert_bytes_back w src dst e ⟨g, 0, none⟩ cap (strOfNums xs).data.toList hs he hd (fun j hj => by
    have hj' : j < xs.length := by rw [← hl]; exact hj
    rw [show ((⟨g, 0, none⟩ : Addr).add j) = ⟨g, j, none⟩ by unfold Addr.add; split <;> simp_all, (h j hj').1]
    have e1 : xs.getD j 0 = (((strOfNums xs).data.toList[j]).toNat : Int) := by
      rw [List.getD_eq_getElem?_getD]
      conv => lhs; rw [← hb]
      rw [List.getElem?_map, List.getElem?_eq_getElem hj]; rfl
    rw [e1])
def smallL (l : List Int) : List Int := l.map fun c => (c + 32) % 256
def midL (l : List Int) (k : Nat) : List Int := smallL (l.take k) ++ l.drop k
theorem mid_w (k : Nat) (h : k ≤ 140737488355328) : wrap64 ((k : Int) + 1) = ((k + 1 : Nat) : Int) := by
  unfold wrap64; omega
theorem mid_meas (q k : Nat) (hk : k ≤ 140737488355328) (h : k < q) : q - (intOf (.int .i64 (wrap64 ((k : Int) + 1)))).toNat < q - (intOf (.int .i64 (k : Int))).toNat := by
  rw [mid_w k hk]
  simp only [intOf, Int.toNat_natCast]
  omega
theorem mid_zero (l : List Int) : l = midL l 0 := rfl
theorem mid_len (l : List Int) (k : Nat) (h : k ≤ l.length) : (midL l k).length = l.length := by
  unfold midL smallL
  rw [List.length_append, List.length_map, List.length_take, List.length_drop]; omega
theorem mid_get (l : List Int) (k : Nat) (h : k < l.length) : (midL l k).getD k 0 = l.getD k 0 := by
  unfold midL smallL
  rw [List.getD_eq_getElem?_getD, List.getD_eq_getElem?_getD, List.getElem?_append_right (by rw [List.length_map, List.length_take]; omega), List.length_map, List.length_take, List.getElem?_drop, Nat.min_eq_left (by omega), Nat.sub_self, Nat.add_zero]
theorem mid_set (l : List Int) (k : Nat) (h : k < l.length) : (midL l k).set k ((l.getD k 0 + 32) % 256) = midL l (k + 1) := by
  unfold midL smallL
  rw [List.set_append_right _ _ (by rw [List.length_map, List.length_take]; omega), List.length_map, List.length_take, Nat.min_eq_left (by omega), Nat.sub_self, List.drop_eq_getElem_cons h, List.set_cons_zero, List.take_succ_eq_append_getElem h, List.map_append, List.append_assoc, List.getD_eq_getElem?_getD, List.getElem?_eq_getElem h]
  rfl
theorem mid_all (l : List Int) (n : Nat) (h : l.length = n) : midL l n = smallL l := by
  unfold midL
  rw [List.take_of_length_le (by omega), List.drop_eq_nil_of_le (by omega), List.append_nil]
theorem mid_range (s : ByteArray) : ∀ x ∈ midL (bytesOf s) s.size, 0 ≤ x ∧ x ≤ 255 := by
  intro x hx
  rw [mid_all _ _ (bytesOf_length s)] at hx
  simp only [smallL, List.mem_map] at hx
  obtain ⟨c, _, rfl⟩ := hx
  omega
def cue_small.f (a0 : ByteArray) : Option (ByteArray) := if a0.size ≤ 140737488355328 then some (strOfNums (smallL (bytesOf a0))) else none
set_option maxHeartbeats 8000000 in
set_option maxRecDepth 100000 in
theorem cue_small.calls (a0 : ByteArray) (r : ByteArray) (w : World) (h : cue_small.f a0 = some r) :
    Calls Tryd.prog 45 #[.string a0] w fun e w' => e = .returned (.string r) ∧ Below w.heap.size w w' := by
  unfold cue_small.f at h
  by_cases hz : a0.size ≤ 140737488355328
  case neg => rw [if_neg hz] at h; exact absurd h (by simp)
  rw [if_pos hz] at h
  obtain rfl := Option.some.inj h
  clear h
  have kb := fun W => print_bytes (P := Tryd.prog) 9 81 5 Tryd.underlying9 Tryd.underlying81 Tryd.underlying5 a0 W
  have hbl : (bytesOf a0).length = a0.size := bytesOf_length a0
  have HBL := Aside0.mk hbl
  clear hbl
  have HZ := Aside0.mk hz
  clear hz
  go_enter Tryd.func45, Tryd.ntmps45
  go_wp2
  go_loopw [9] (fun i wr => ∃ k : Nat, k ≤ a0.size ∧ i = .int .i64 k ∧ RowAt wr w.heap.size (midL (bytesOf a0) k) ∧ Below w.heap.size w wr) (fun i _ => a0.size - (intOf i).toNat)
  case atStart => exact ⟨0, Nat.zero_le _, rfl, mid_zero (bytesOf a0) ▸ RowAt.bytes w _ a0, RowAt.bel w _ a0⟩
  case round =>
    obtain ⟨k, hk, rfl, hrow, hbel⟩ := hrel
    have HR := Aside0.mk hrow
    have HB := Aside0.mk hbel
    clear hrow hbel
    by_cases hlt : k < a0.size
    · have hlen : k < (midL (bytesOf a0) k).length := by rw [mid_len _ _ (by rw [HBL.out]; omega), HBL.out]; exact hlt
      obtain ⟨hc, hf⟩ := HR.out k hlen
      rw [mid_get _ _ (by rw [HBL.out]; exact hlt)] at hc
      have HS := Aside0.mk (HR.out.set hlen (((bytesOf a0).getD k 0 + 32) % 256))
      rw [mid_set _ _ (by rw [HBL.out]; exact hlt)] at HS
      generalize (bytesOf a0).getD k 0 = c at hc HS
      go_wp2
      go_round
      case rel => have hz := HZ.out; exact ⟨k + 1, by omega, by rw [mid_w k (by omega)], HS.out, HB.out.setCell (Nat.le_refl _) _⟩
      case measure => exact mid_meas a0.size k (Nat.le_trans hk HZ.out) hlt
    · have hk' : k = a0.size := by omega
      subst hk'
      have hS := HR.out.string (mid_range a0) Tryd.underlying81 Tryd.underlying5 Tryd.underlying9 a0.size (grownCap w a0.size 0 5) (by rw [mid_len _ _ (by rw [HBL.out]; omega), HBL.out])
      rw [mid_all _ _ HBL.out] at hS
      go_wp2
      go_ret
      exact ⟨rfl, HB.out⟩


/-! ### strings_LastIndexByte: function 62 -/
def strings_LastIndexByte.f (a0 : ByteArray) (a1 : Int) : Option (Int) := if a0.size < 4611686018427387904 then some (Lib.lastIndexByte a0 a1) else none
theorem strings_LastIndexByte.calls (a0 : ByteArray) (a1 : Int) (r : Int) (w : World) (h : strings_LastIndexByte.f a0 a1 = some r) :
    Calls Tryd.prog 62 #[.string a0, .int .u8 a1] w fun e w' => e = .returned (.int .i64 r) ∧ Drawn0 w w' := by
  unfold strings_LastIndexByte.f at h
  by_cases hg : a0.size < 4611686018427387904
  case neg => rw [if_neg hg] at h; exact absurd h (by simp)
  rw [if_pos hg] at h
  obtain rfl := Option.some.inj h
  exact (Tryd.strings_LastIndexByte a0 a1 hg w).mono fun e w' ⟨he, hw⟩ => ⟨he, hw ▸ Drawn0.refl _⟩


/-! ### line_all: function 90 -/
mutual
def line_all.l0 : Nat → ByteArray → List ByteArray → Int → Int → Option (Bool)
  | 0, _, _, _, _ => none
  | k + 1, x0, x1, x10, x11 => if x11 < x10 then (line_all.l1 k x0 x1 x11 false x10 x11 x1 (x1.length : Int) 0) else (some (x0.toList != ([] : List UInt8)))
def line_all.l1 : Nat → ByteArray → List ByteArray → Int → Bool → Int → Int → List ByteArray → Int → Int → Option (Bool)
  | 0, _, _, _, _, _, _, _, _, _ => none
  | k + 1, x0, x1, x5, x6, x10, x11, x14, x15, x16 => if x16 < x15 then (if 0 ≤ x16 then (if x16 < (x14.length : Int) then (if x6 = true then (line_all.l1 k x0 x1 x5 true x10 x11 x14 x15 (wrap64 (x16 + 1))) else (if 0 ≤ x5 then (if x5 < (x0.size : Int) then (if 0 < ((rdOf ByteArray.empty x14 x16).size : Int) then (if (bt x0 x5) ≥ (bt (rdOf ByteArray.empty x14 x16) 0) then (if 1 < ((rdOf ByteArray.empty x14 x16).size : Int) then (line_all.l1 k x0 x1 x5 (decide ((bt x0 x5) ≤ (bt (rdOf ByteArray.empty x14 x16) 1))) x10 x11 x14 x15 (wrap64 (x16 + 1))) else (none)) else (line_all.l1 k x0 x1 x5 false x10 x11 x14 x15 (wrap64 (x16 + 1)))) else (none)) else (none)) else (none))) else (none)) else (none)) else (if x6 = true then (line_all.l0 k x0 x1 x10 (wrap64 (x11 + 1))) else (some false))
end
def line_all.f (k : Nat) (a0 : ByteArray) (l1 : List ByteArray) : Option (Bool) := line_all.l0 k a0 l1 (a0.size : Int) 0
theorem line_all.mono_l : ∀ k, (∀ y0 y1 y2 y3, LeO (line_all.l0 k y0 y1 y2 y3) (line_all.l0 (k + 1) y0 y1 y2 y3)) ∧ (∀ y0 y1 y2 y3 y4 y5 y6 y7 y8, LeO (line_all.l1 k y0 y1 y2 y3 y4 y5 y6 y7 y8) (line_all.l1 (k + 1) y0 y1 y2 y3 y4 y5 y6 y7 y8))
  | 0 => ⟨fun _ _ _ _ r h => by simp [line_all.l0] at h, fun _ _ _ _ _ _ _ _ _ r h => by simp [line_all.l1] at h⟩
  | k + 1 => by
    obtain ⟨ih0, ih1⟩ := line_all.mono_l k
    refine ⟨?_, ?_⟩
    · intro y0 y1 y2 y3
      unfold line_all.l0
      repeat' first
      | (with_reducible exact ih0 _ _ _ _)
      | (with_reducible exact ih1 _ _ _ _ _ _ _ _ _)
      | (with_reducible exact LeO.refl _)
      | (with_reducible exact LeO.none _)
      | (with_reducible refine LeO.ite ?_ ?_)
      | (with_reducible refine LeO.bind ?_ (fun _ => ?_))
      | exact ih0 _ _ _ _
      | exact ih1 _ _ _ _ _ _ _ _ _
      | exact LeO.none _
      | refine LeO.ite ?_ ?_
      | refine LeO.bind ?_ (fun _ => ?_)
    · intro y0 y1 y2 y3 y4 y5 y6 y7 y8
      unfold line_all.l1
      repeat' first
      | (with_reducible exact ih0 _ _ _ _)
      | (with_reducible exact ih1 _ _ _ _ _ _ _ _ _)
      | (with_reducible exact LeO.refl _)
      | (with_reducible exact LeO.none _)
      | (with_reducible refine LeO.ite ?_ ?_)
      | (with_reducible refine LeO.bind ?_ (fun _ => ?_))
      | exact ih0 _ _ _ _
      | exact ih1 _ _ _ _ _ _ _ _ _
      | exact LeO.none _
      | refine LeO.ite ?_ ?_
      | refine LeO.bind ?_ (fun _ => ?_)
theorem line_all.mono : ∀ a0 a1 k, LeO (line_all.f k a0 a1) (line_all.f (k + 1) a0 a1) := by
  intro a0 a1 k
  obtain ⟨ih0, ih1⟩ := line_all.mono_l k
  unfold line_all.f
  repeat' first
      | (with_reducible exact ih0 _ _ _ _)
      | (with_reducible exact ih1 _ _ _ _ _ _ _ _ _)
      | (with_reducible exact LeO.refl _)
      | (with_reducible exact LeO.none _)
      | (with_reducible refine LeO.ite ?_ ?_)
      | (with_reducible refine LeO.bind ?_ (fun _ => ?_))
      | exact ih0 _ _ _ _
      | exact ih1 _ _ _ _ _ _ _ _ _
      | exact LeO.none _
      | refine LeO.ite ?_ ?_
      | refine LeO.bind ?_ (fun _ => ?_)
set_option maxHeartbeats 8000000 in
set_option maxRecDepth 100000 in
theorem line_all.calls (k : Nat) (a0 : ByteArray) (A1 : Option Addr) (c1 : Nat) (l1 : List ByteArray) (r : Bool) (w : World) (hr1 : Kd.C Kd.string w A1 l1.length l1) (hc1 : l1.length ≤ c1) (h : line_all.f k a0 l1 = some r) :
    Calls Tryd.prog 90 #[.string a0, .slice A1 l1.length c1] w fun e w' => e = .returned (.bool r) ∧ Drawn0 w w' := by
  have HR1 := Aside0.mk hr1
  have HC1 := Aside0.mk hc1
  clear hr1 hc1
  have H : (line_all.l0 k a0 l1 (a0.size : Int) 0) = some r := h
  clear h
  have H' := Aside0.mk H
  clear H
  go_enter Tryd.func90, Tryd.ntmps90
  go_wp2
  repeat (go_quiet (fail); try go_wp2)
  go_loopg [11] k (fun kq v11 w' => ∃ (x11_1 : Int), v11 = .int .i64 x11_1 ∧ Aside0 (line_all.l0 kq a0 l1 (a0.size : Int) x11_1 = some r) ∧ Aside0 (kq ≤ k) ∧ Drawn0 w w')
  case atStart => exact ⟨(0), q_5, H', ⟨Nat.le_refl _⟩, q_22⟩
  case round =>
    clear H'
    try clear c1; try clear p2
    obtain ⟨x11_1, rfl, HA, HK1, ⟨m1, rfl⟩⟩ := hrel
    cases gk with
    | zero => exact absurd HA.out (by simp [line_all.l0])
    | succ k1 =>
      have H := HA.out
      clear HA
      simp only [line_all.l0] at H
      by_cases c3 : x11_1 < (a0.size : Int)
      · rw [if_pos c3] at H
        have c3b0 : decide (x11_1 < (a0.size : Int)) = true := decide_eq_true c3
        clear c3
        have H' := Aside0.mk H
        clear H
        go_wp2
        repeat (go_quiet (fail); try go_wp2)
        go_loopg [6, 16] k1 (fun kq v6 v16 w' => ∃ (x6_2 : Bool) (x16_2 : Int), v6 = .bool x6_2 ∧ v16 = .int .i64 x16_2 ∧ Aside0 (line_all.l1 kq a0 l1 x11_1 x6_2 (a0.size : Int) x11_1 l1 (l1.length : Int) x16_2 = some r) ∧ Aside0 (kq ≤ k1) ∧ Drawn0 w w')
        case atStart => exact ⟨(false), (0), q_5, q_5, H', ⟨Nat.le_refl _⟩, q_22⟩
        case round =>
          clear H'
          try clear c1; try clear p2; try clear c3; try clear c3b0; try clear p2
          obtain ⟨x6_2, x16_2, rfl, rfl, HA, HK2, ⟨m2, rfl⟩⟩ := hrel
          cases gk with
          | zero => exact absurd HA.out (by simp [line_all.l1])
          | succ k2 =>
            have H := HA.out
            clear HA
            simp only [line_all.l1] at H
            by_cases c4 : x16_2 < (l1.length : Int)
            · rw [if_pos c4] at H
              have c4b0 : decide (x16_2 < (l1.length : Int)) = true := decide_eq_true c4
              clear c4
              by_cases c5 : 0 ≤ x16_2
              · rw [if_pos c5] at H
                have c5b0 : decide (0 ≤ x16_2) = true := decide_eq_true c5
                clear c5
                by_cases c6 : x16_2 < (l1.length : Int)
                · rw [if_pos c6] at H
                  have c6b0 : decide (x16_2 < (l1.length : Int)) = true := decide_eq_true c6
                  clear c6
                  by_cases c7 : x6_2 = true
                  · subst c7
                    have H1 : (line_all.l1 k2 a0 l1 x11_1 true (a0.size : Int) x11_1 l1 (l1.length : Int) (wrap64 (x16_2 + 1))) = some r := by rw [if_pos rfl] at H; exact H
                    clear H
                    have H := H1
                    clear H1
                    have H' := Aside0.mk H
                    clear H
                    have p165 : 0 ≤ (x16_2 : Int) := of_decide_eq_true q_6
                    have q165 : x16_2 < (l1.length : Int) := of_decide_eq_true q_6
                    obtain ⟨ad165, e165, hx165_0⟩ := Kd.at_string HR1.out x16_2 p165 q165
                    cases e165
                    replace p165 := eq_true p165
                    replace q165 := eq_true q165
                    go_wp2
                    repeat (go_quiet (fail); try go_wp2)
                    go_roundg k2
                    case measure => have := HK1.out; have := HK2.out; omega
                    case rel => exact ⟨(true), (wrap64 (x16_2 + 1)), q_5, q_5, H', ⟨q_23⟩, q_22⟩
                  · replace c7 := Bool.eq_false_iff.mpr c7
                    subst c7
                    have H1 : (if 0 ≤ x11_1 then (if x11_1 < (a0.size : Int) then (if 0 < ((rdOf ByteArray.empty l1 x16_2).size : Int) then (if (bt a0 x11_1) ≥ (bt (rdOf ByteArray.empty l1 x16_2) 0) then (if 1 < ((rdOf ByteArray.empty l1 x16_2).size : Int) then (line_all.l1 k2 a0 l1 x11_1 (decide ((bt a0 x11_1) ≤ (bt (rdOf ByteArray.empty l1 x16_2) 1))) (a0.size : Int) x11_1 l1 (l1.length : Int) (wrap64 (x16_2 + 1))) else (none)) else (line_all.l1 k2 a0 l1 x11_1 false (a0.size : Int) x11_1 l1 (l1.length : Int) (wrap64 (x16_2 + 1)))) else (none)) else (none)) else (none)) = some r := by rw [if_neg (show ¬ (false = true) by decide)] at H; exact H
                    clear H
                    have H := H1
                    clear H1
                    by_cases c8 : 0 ≤ x11_1
                    · rw [if_pos c8] at H
                      have c8b0 : decide (0 ≤ x11_1) = true := decide_eq_true c8
                      clear c8
                      by_cases c9 : x11_1 < (a0.size : Int)
                      · rw [if_pos c9] at H
                        have c9b0 : decide (x11_1 < (a0.size : Int)) = true := decide_eq_true c9
                        clear c9
                        by_cases c11 : 0 < ((rdOf ByteArray.empty l1 x16_2).size : Int)
                        · rw [if_pos c11] at H
                          have c11b0 : decide (0 < ((rdOf ByteArray.empty l1 x16_2).size : Int)) = true := decide_eq_true c11
                          have c11b1 : decide (0 < (rdOf ByteArray.empty l1 x16_2).size) = true := decide_eq_true (by omega)
                          clear c11
                          by_cases c13 : (bt a0 x11_1) ≥ (bt (rdOf ByteArray.empty l1 x16_2) 0)
                          · rw [if_pos c13] at H
                            have c13b0 : decide ((bt (rdOf ByteArray.empty l1 x16_2) 0) ≤ (bt a0 x11_1)) = true := decide_eq_true c13
                            clear c13
                            by_cases c15 : 1 < ((rdOf ByteArray.empty l1 x16_2).size : Int)
                            · rw [if_pos c15] at H
                              have c15b0 : decide (1 < ((rdOf ByteArray.empty l1 x16_2).size : Int)) = true := decide_eq_true c15
                              have c15b1 : decide (1 < (rdOf ByteArray.empty l1 x16_2).size) = true := decide_eq_true (by omega)
                              clear c15
                              have H' := Aside0.mk H
                              clear H
                              have p165 : 0 ≤ (x16_2 : Int) := of_decide_eq_true q_6
                              have q165 : x16_2 < (l1.length : Int) := of_decide_eq_true q_6
                              obtain ⟨ad165, e165, hx165_0⟩ := Kd.at_string HR1.out x16_2 p165 q165
                              cases e165
                              replace p165 := eq_true p165
                              replace q165 := eq_true q165
                              have p10 : 0 ≤ (x11_1 : Int) := of_decide_eq_true q_6
                              have q10 : x11_1 < (a0.size : Int) := of_decide_eq_true q_6
                              have hx10 := bt_at a0 x11_1
                              replace p10 := eq_true p10
                              replace q10 := eq_true q10
                              have p12 : 0 ≤ (0 : Int) := (by omega)
                              have q12 : 0 < (rdOf ByteArray.empty l1 x16_2).size := (by have : (0 : Int) < ((rdOf ByteArray.empty l1 x16_2).size : Int) := of_decide_eq_true q_6; omega)
                              have hx12 : ∀ h : 0 < (rdOf ByteArray.empty l1 x16_2).size, (((rdOf ByteArray.empty l1 x16_2)[0]'h).toNat : Int) = bt (rdOf ByteArray.empty l1 x16_2) 0 := bt_at (rdOf ByteArray.empty l1 x16_2) 0
                              clear p12
                              have qi12 : (0 < ((rdOf ByteArray.empty l1 x16_2).size : Int)) = True := eq_true (of_decide_eq_true q_6)
                              replace q12 := eq_true q12
                              have p14 : 0 ≤ (x11_1 : Int) := of_decide_eq_true q_6
                              have q14 : x11_1 < (a0.size : Int) := of_decide_eq_true q_6
                              have hx14 := bt_at a0 x11_1
                              replace p14 := eq_true p14
                              replace q14 := eq_true q14
                              have p16 : 0 ≤ (1 : Int) := (by omega)
                              have q16 : 1 < (rdOf ByteArray.empty l1 x16_2).size := (by have : (1 : Int) < ((rdOf ByteArray.empty l1 x16_2).size : Int) := of_decide_eq_true q_6; omega)
                              have hx16 : ∀ h : 1 < (rdOf ByteArray.empty l1 x16_2).size, (((rdOf ByteArray.empty l1 x16_2)[1]'h).toNat : Int) = bt (rdOf ByteArray.empty l1 x16_2) 1 := bt_at (rdOf ByteArray.empty l1 x16_2) 1
                              clear p16
                              have qi16 : (1 < ((rdOf ByteArray.empty l1 x16_2).size : Int)) = True := eq_true (of_decide_eq_true q_6)
                              replace q16 := eq_true q16
                              go_wp2
                              repeat (go_quiet (fail); try go_wp2)
                              go_roundg k2
                              case measure => have := HK1.out; have := HK2.out; omega
                              case rel => exact ⟨(decide ((bt a0 x11_1) ≤ (bt (rdOf ByteArray.empty l1 x16_2) 1))), (wrap64 (x16_2 + 1)), q_5, q_5, H', ⟨q_23⟩, q_22⟩
                            · rw [if_neg c15] at H
                              exact absurd H (by simp)
                          · rw [if_neg c13] at H
                            have c13b0 : decide ((bt (rdOf ByteArray.empty l1 x16_2) 0) ≤ (bt a0 x11_1)) = false := decide_eq_false c13
                            clear c13
                            have H' := Aside0.mk H
                            clear H
                            have p165 : 0 ≤ (x16_2 : Int) := of_decide_eq_true q_6
                            have q165 : x16_2 < (l1.length : Int) := of_decide_eq_true q_6
                            obtain ⟨ad165, e165, hx165_0⟩ := Kd.at_string HR1.out x16_2 p165 q165
                            cases e165
                            replace p165 := eq_true p165
                            replace q165 := eq_true q165
                            have p10 : 0 ≤ (x11_1 : Int) := of_decide_eq_true q_6
                            have q10 : x11_1 < (a0.size : Int) := of_decide_eq_true q_6
                            have hx10 := bt_at a0 x11_1
                            replace p10 := eq_true p10
                            replace q10 := eq_true q10
                            have p12 : 0 ≤ (0 : Int) := (by omega)
                            have q12 : 0 < (rdOf ByteArray.empty l1 x16_2).size := (by have : (0 : Int) < ((rdOf ByteArray.empty l1 x16_2).size : Int) := of_decide_eq_true q_6; omega)
                            have hx12 : ∀ h : 0 < (rdOf ByteArray.empty l1 x16_2).size, (((rdOf ByteArray.empty l1 x16_2)[0]'h).toNat : Int) = bt (rdOf ByteArray.empty l1 x16_2) 0 := bt_at (rdOf ByteArray.empty l1 x16_2) 0
                            clear p12
                            have qi12 : (0 < ((rdOf ByteArray.empty l1 x16_2).size : Int)) = True := eq_true (of_decide_eq_true q_6)
                            replace q12 := eq_true q12
                            go_wp2
                            repeat (go_quiet (fail); try go_wp2)
                            go_roundg k2
                            case measure => have := HK1.out; have := HK2.out; omega
                            case rel => exact ⟨(false), (wrap64 (x16_2 + 1)), q_5, q_5, H', ⟨q_23⟩, q_22⟩
                        · rw [if_neg c11] at H
                          exact absurd H (by simp)
                      · rw [if_neg c9] at H
                        exact absurd H (by simp)
                    · rw [if_neg c8] at H
                      exact absurd H (by simp)
                · rw [if_neg c6] at H
                  exact absurd H (by simp)
              · rw [if_neg c5] at H
                exact absurd H (by simp)
            · rw [if_neg c4] at H
              have c4b0 : decide (x16_2 < (l1.length : Int)) = false := decide_eq_false c4
              clear c4
              by_cases c17 : x6_2 = true
              · subst c17
                have H1 : (line_all.l0 k2 a0 l1 (a0.size : Int) (wrap64 (x11_1 + 1))) = some r := by rw [if_pos rfl] at H; exact H
                clear H
                have H := H1
                clear H1
                have H' := Aside0.mk H
                clear H
                go_wp2
                repeat (go_quiet (fail); try go_wp2)
                go_roundg k2
                case measure => have := HK1.out; have := HK2.out; omega
                case rel => exact ⟨(wrap64 (x11_1 + 1)), q_5, H', ⟨q_23⟩, q_22⟩
              · replace c17 := Bool.eq_false_iff.mpr c17
                subst c17
                have H1 : (some false) = some r := by rw [if_neg (show ¬ (false = true) by decide)] at H; exact H
                clear H
                have H := H1
                clear H1
                obtain rfl := Option.some.inj H
                go_wp2
                repeat (go_quiet (fail); try go_wp2)
                go_ret
                exact ⟨q_5, q_22⟩
      · rw [if_neg c3] at H
        have c3b0 : decide (x11_1 < (a0.size : Int)) = false := decide_eq_false c3
        clear c3
        obtain rfl := Option.some.inj H
        go_wp2
        repeat (go_quiet (fail); try go_wp2)
        go_ret
        exact ⟨q_5, q_22⟩

/-! ### line_Capitals: function 63 -/
def line_Capitals.f (k : Nat) (a0 : ByteArray) : Option (Bool) := (line_all.f k a0 (([(⟨#[65, 90]⟩ : ByteArray), (⟨#[48, 57]⟩ : ByteArray)] : List ByteArray))).bind fun t169 => (some t169)
theorem line_Capitals.mono : ∀ a0 k, LeO (line_Capitals.f k a0) (line_Capitals.f (k + 1) a0) := by
  intro a0 k
  unfold line_Capitals.f
  repeat' first
      | (with_reducible exact line_all.mono _ _ _)
      | (with_reducible exact LeO.refl _)
      | (with_reducible exact LeO.none _)
      | (with_reducible refine LeO.ite ?_ ?_)
      | (with_reducible refine LeO.bind ?_ (fun _ => ?_))
      | exact line_all.mono _ _ _
      | exact LeO.none _
      | refine LeO.ite ?_ ?_
      | refine LeO.bind ?_ (fun _ => ?_)
set_option maxHeartbeats 8000000 in
set_option maxRecDepth 100000 in
theorem line_Capitals.calls (k : Nat) (a0 : ByteArray) (r : Bool) (w : World) (h : line_Capitals.f k a0 = some r) :
    Calls Tryd.prog 63 #[.string a0] w fun e w' => e = .returned (.bool r) ∧ Below w.heap.size w w' := by
  have HB := Aside0.mk (Below.refl w.heap.size w)
  have H : ((line_all.f k a0 (([(⟨#[65, 90]⟩ : ByteArray), (⟨#[48, 57]⟩ : ByteArray)] : List ByteArray))).bind fun t169 => (some t169)) = some r := h
  clear h
  obtain ⟨y166, hy166⟩ : ∃ y_ : List ByteArray, y_ = (([(⟨#[65, 90]⟩ : ByteArray), (⟨#[48, 57]⟩ : ByteArray)] : List ByteArray)) := ⟨_, rfl⟩
  replace H : ((line_all.f k a0 y166).bind fun t169 => (some t169)) = some r := by first | (rw [hy166]; with_reducible exact H) | (have H2_ := (Option.bind_some _ _).symm.trans H; rw [hy166]; with_reducible exact H2_) | (have H2_ := (Option.bind_some _ _).symm.trans H; with_reducible exact H2_) | with_reducible exact H | (rw [hy166]; exact H) | exact H
  have Ny166 := Aside0.mk hy166
  clear hy166
  replace H := Option.bind_eq_some_iff.mp H
  obtain ⟨t169, A20, H⟩ := H
  replace H : (some t169) = some r := H
  have A2 := Aside0.mk A20
  clear A20
  obtain rfl := Option.some.inj H
  go_enter Tryd.func63, Tryd.ntmps63
  go_wp2_with (first | ((with_reducible refine gate_dst (N := 4) rfl ?_); refine Kd.R_lit Kd.string _ 9 ?hg (N := 4) ?hd (xs := ([(⟨#[65, 90]⟩ : ByteArray), (⟨#[48, 57]⟩ : ByteArray)] : List ByteArray)) (inner := [.string (⟨#[65, 90]⟩ : ByteArray), .string (⟨#[48, 57]⟩ : ByteArray)]) (ok := fun _ => True) (okp := fun _ => True) ?hr ?hp (fun _ hk => hk) trivial (Below.refl _ _) (Nat.le_refl _) (by simp) ?_; (case hd => rfl); (case hg => rfl); (case hr => first | (go_simp; done) | (go_simp; rfl)); (case hp => exact (Reps.one (show Kd.M Kd.string _ _ _ (⟨#[65, 90]⟩ : ByteArray) [.string (⟨#[65, 90]⟩ : ByteArray)] from rfl) (Reps.one (show Kd.M Kd.string _ _ _ (⟨#[48, 57]⟩ : ByteArray) [.string (⟨#[48, 57]⟩ : ByteArray)] from rfl) (Reps.none _ _)))); intro v167 w3 ho4 hb hg_ hnew_; clear hg_ hnew_; (first | rw [← Ny166.out] at ho4 | (simp only [Int.reduceToNat] at ho4; rw [← Ny166.out] at ho4)); have n0_ := Aside0.mk (Kd.R_lower ho4 (below_size q_1)); have n1_ := Aside0.mk (below_step q_1 hb); clear HB; have HO168 := n0_; have HB := n1_; clear n0_ n1_; clear hb ho4; obtain ⟨Ao5, co5, eo5⟩ := Kd.R_slice HO168.out; subst eo5) | ((with_reducible refine gate_callee (f := 90) rfl ?_); refine goesL_ (some 5) rfl rfl Tryd.func90 (by kernel_rfl) rfl #[.string a0, .slice Ao5 y166.length co5] rfl q_2 ?_; (with_reducible refine (line_all.calls k a0 _ _ y166 t169 _ ?side1 ?side2 A2.out).mono ?_); (case side1 => repeat (first | exact (Kd.R_reads' HO168.out).2.2 | (with_reducible refine Kd.C_alloc ?_ _) | (with_reducible refine Kd.C_drewN ?_ _) | (with_reducible refine Kd.C_drew ?_))); (case side2 => exact (Kd.R_reads' HO168.out).2.1); rintro e w' ⟨rfl, ⟨nd, rfl⟩⟩; refine ⟨_, rfl, ?_⟩))
  go_ret
  exact ⟨q_10, q_1⟩

end Go.Proofs.YtkhiiilfokijgaaDoor.PAll
