/- Written by a program of this session: functions of the Go program as Lean functions, and the walks that tie them to it. -/
import Derived.Test.YtkcckhlkaknggaaPAllx0
import Derived.Test.YtkcckhlkaknggaaPAllx2
import Derived.Test.YtkcckhlkaknggaaPAllx3
import Derived.Test.YtkcckhlkaknggaaPAllx6
import Derived.Test.YtkcckhlkaknggaaPAllx7
import Derived.Test.YtkcckhlkaknggaaPAllx10
namespace Go.Proofs.Ytkcckhlkaknggaa.PAll
open Go.RowKit Go.Proofs.YtkcckhlkaknggaaW.PrintWords Go.Proofs.YtkcckhlkaknggaaW.PrintLast Go.Proofs.YtkcckhlkaknggaaW.PrintMore
attribute [local go_sem] max2_int min2_int max_two min_two max_three min_three max_four min_four   -- for this text's walks alone
set_option linter.unusedVariables false
set_option linter.unusedSimpArgs false

/-! ### diacriticlaw16_SumTells: function 7 -/
/-- A row of bytes: each cell, none of them frozen. -/
def RowAt (w : World) (g : Nat) (xs : List Int) : Prop := ∀ j, j < xs.length → w.cell? ⟨g, j, none⟩ = some (.int .u8 (xs.getD j 0)) ∧ w.frozen? ⟨g, j, none⟩ = false
theorem RowAt.bytes (w : World) (e : TypeId) (s : ByteArray) : RowAt (Lib.bytesWorld w e s) w.heap.size (bytesOf s) := by
  intro j hj
  have hj' : j < s.size := by rwa [bytesOf_length] at hj
  refine ⟨?_, ?_⟩
  · rw [Lib.bytesWorld_cell _ _ _ _ hj']
    have h' : j < s.data.toList.length := by rw [data_length]; exact hj'
    simp [bytesOf, List.getD_eq_getElem?_getD, List.getElem?_eq_getElem h']
  · have hsz : s.size ≤ (Lib.bytesCells w e s).size := by
      unfold Lib.bytesCells
      simp only [Array.size_append, Array.size_map]
      show s.data.size ≤ _
      omega
    simp only [World.frozen?, Lib.bytesWorld_at_new, Bool.and_eq_false_iff, decide_eq_false_iff_not]
    left; omega
theorem RowAt.bel (w : World) (e : TypeId) (s : ByteArray) : Below w.heap.size w (Lib.bytesWorld w e s) := ⟨rfl, rfl, rfl, by rw [Lib.bytesWorld_size]; omega, fun i hi => Lib.bytesWorld_at_old w e s i (by omega)⟩
theorem RowAt.set {w : World} {g : Nat} {xs : List Int} (h : RowAt w g xs) {j : Nat} (hj : j < xs.length) (v : Int) : RowAt (w.setCell ⟨g, j, none⟩ (.int .u8 v)) g (xs.set j v) := by
  intro i hi
  rw [List.length_set] at hi
  obtain ⟨h1, h2⟩ := h i hi
  refine ⟨?_, ?_⟩
  · by_cases he : j = i
    · subst he
      rw [World.cell?_setCell_same _ _ _ h1, List.getD_eq_getElem?_getD, List.getElem?_set_self hj, Option.getD_some]
    · rw [World.cell?_setCell_other _ _ _ _ (by first | (simp; done) | (simp; omega)), h1, List.getD_eq_getElem?_getD, List.getD_eq_getElem?_getD, List.getElem?_set_ne he]
  · rw [World.frozen?_setCell]; exact h2
theorem RowAt.below {w w' : World} {g : Nat} {xs : List Int} (h : RowAt w g xs) (hb : Below w.heap.size w w') (hg : g < w.heap.size) : RowAt w' g xs := by
  intro j hj
  obtain ⟨h1, h2⟩ := h j hj
  exact ⟨(hb.cell (p := ⟨g, j, none⟩) hg).trans h1, (hb.frozen (p := ⟨g, j, none⟩) hg).trans h2⟩
theorem RowAt.string {P : Program} {w : World} {g : Nat} {xs : List Int} (h : RowAt w g xs) (hx : ∀ x ∈ xs, 0 ≤ x ∧ x ≤ 255) {src dst e : TypeId} (hs : P.underlying src = some (.slice e)) (he : P.underlying e = some (.int .u8)) (hd : P.underlying dst = some .string) (n cap : Nat) (hn : n = xs.length) :
    (convert src dst (.slice (some ⟨g, 0, none⟩) n cap)).run P w = .ok (.string (strOfNums xs)) w := by
  have hb : (strOfNums xs).data.toList.map (fun b : UInt8 => (b.toNat : Int)) = xs := by
    simp only [strOfNums_data, List.map_map]
    conv => rhs; rw [← List.map_id xs]
    apply List.map_congr_left
    intro x hx'
    have := hx x hx'
    simp only [Function.comp, id, UInt8.toNat_ofNat']
    omega
  have hl : (strOfNums xs).data.toList.length = xs.length := by
    have := congrArg List.length hb
    rwa [List.length_map] at this
  rw [hn, ← hl]
  exact run_convert_bytes_back w src dst e ⟨g, 0, none⟩ cap (strOfNums xs).data.toList hs he hd (fun j hj => by
    have hj' : j < xs.length := by rw [← hl]; exact hj
    rw [show ((⟨g, 0, none⟩ : Addr).add j) = ⟨g, j, none⟩ by unfold Addr.add; split <;> simp_all, (h j hj').1]
    have e1 : xs.getD j 0 = (((strOfNums xs).data.toList[j]).toNat : Int) := by
      rw [List.getD_eq_getElem?_getD]
      conv => lhs; rw [← hb]
      rw [List.getElem?_map, List.getElem?_eq_getElem hj]; rfl
    rw [e1])
/-- A text with another byte at a place (round its length). -/
def tellI (s : ByteArray) (x1 x2 : Int) : List Int := (bytesOf s).set (x1.toNat % s.size) (Go.bits .xor .u8 ((bytesOf s).getD (x1.toNat % s.size) 0) x2)
def tellB (s : ByteArray) (x1 x2 : Int) : ByteArray := strOfNums (tellI s x1 x2)
theorem tell_range (s : ByteArray) (x1 x2 : Int) : ∀ x ∈ tellI s x1 x2, 0 ≤ x ∧ x ≤ 255 := by
  intro x hx
  unfold tellI at hx
  rcases List.mem_or_eq_of_mem_set hx with h | h
  · simp only [bytesOf, List.mem_map] at h
    obtain ⟨b, _, rfl⟩ := h
    have := b.toNat_lt
    omega
  · rw [h]
    simp only [Go.bits]
    rw [show ∀ n, IntKind.u8.wrap n = n % 256 from fun n => by simp [IntKind.wrap, IntKind.bits, IntKind.signed]]
    omega
mutual
def diacriticlaw16_SumTells.j0 : Nat → ByteArray → Int → Int → Int → Bool → Option (Bool)
  | 0, _, _, _, _, _ => none
  | k + 1, x0, x1, x2, x7, x29 => if x29 = true then (some false) else (if x0.toList = ([] : List UInt8) then (diacriticlaw16_SumTells.j1 k x0 x1 x2 x7 true) else (diacriticlaw16_SumTells.j1 k x0 x1 x2 x7 (x2 == 0)))
def diacriticlaw16_SumTells.j1 : Nat → ByteArray → Int → Int → Int → Bool → Option (Bool)
  | 0, _, _, _, _, _ => none
  | k + 1, x0, x1, x2, x7, x35 => if x35 = true then ((diacriticlaw16_awake.f).bind fun t261 => (some t261)) else (if 0 < x0.size ∧ x0.size ≤ 1000 ∧ 0 ≤ x1 ∧ x1 ≤ 65535 then ((diacriticlaw16_awake.f).bind fun t262 => (if t262 = true then ((sum_Of.f k (([tellB x0 x1 x2] : List ByteArray))).bind fun t266 => (some (t266 != x7))) else (some false))) else (none))
end
def diacriticlaw16_SumTells.f (k : Nat) (a0 : ByteArray) (a1 : Int) (a2 : Int) : Option (Bool) := if (a0.size : Int) > 1000 then ((diacriticlaw16_awake.f).bind fun t250 => (some t250)) else ((sum_Of.f k (([a0] : List ByteArray))).bind fun t254 => ((sum_Sum_Bytes.f k t254).bind fun t255 => (if (t255.size : Int) = 4 then ((diacriticref01_Back.f k t255).bind fun t256 => ((sum_Of.f k (([a0, t256] : List ByteArray))).bind fun t260 => (diacriticlaw16_SumTells.j0 k a0 a1 a2 t254 (t260 != 0)))) else (diacriticlaw16_SumTells.j0 k a0 a1 a2 t254 true))))
theorem diacriticlaw16_SumTells.mono_l : ∀ k, (∀ y0 y1 y2 y3 y4, LeO (diacriticlaw16_SumTells.j0 k y0 y1 y2 y3 y4) (diacriticlaw16_SumTells.j0 (k + 1) y0 y1 y2 y3 y4)) ∧ (∀ y0 y1 y2 y3 y4, LeO (diacriticlaw16_SumTells.j1 k y0 y1 y2 y3 y4) (diacriticlaw16_SumTells.j1 (k + 1) y0 y1 y2 y3 y4))
  | 0 => ⟨fun _ _ _ _ _ r h => by simp [diacriticlaw16_SumTells.j0] at h, fun _ _ _ _ _ r h => by simp [diacriticlaw16_SumTells.j1] at h⟩
  | k + 1 => by
    obtain ⟨ih0, ih1⟩ := diacriticlaw16_SumTells.mono_l k
    refine ⟨?_, ?_⟩
    · intro y0 y1 y2 y3 y4
      unfold diacriticlaw16_SumTells.j0
      repeat' first
      | (with_reducible exact ih0 _ _ _ _ _)
      | (with_reducible exact ih1 _ _ _ _ _)
      | (with_reducible exact diacriticref01_Back.mono _ _)
      | (with_reducible exact sum_Of.mono _ _)
      | (with_reducible exact sum_Sum_Bytes.mono _ _)
      | (with_reducible exact LeO.refl _)
      | (with_reducible exact LeO.none _)
      | (with_reducible refine LeO.ite ?_ ?_)
      | (with_reducible refine LeO.bind ?_ (fun _ => ?_))
      | exact ih0 _ _ _ _ _
      | exact ih1 _ _ _ _ _
      | exact diacriticref01_Back.mono _ _
      | exact sum_Of.mono _ _
      | exact sum_Sum_Bytes.mono _ _
      | exact LeO.none _
      | refine LeO.ite ?_ ?_
      | refine LeO.bind ?_ (fun _ => ?_)
    · intro y0 y1 y2 y3 y4
      unfold diacriticlaw16_SumTells.j1
      repeat' first
      | (with_reducible exact ih0 _ _ _ _ _)
      | (with_reducible exact ih1 _ _ _ _ _)
      | (with_reducible exact diacriticref01_Back.mono _ _)
      | (with_reducible exact sum_Of.mono _ _)
      | (with_reducible exact sum_Sum_Bytes.mono _ _)
      | (with_reducible exact LeO.refl _)
      | (with_reducible exact LeO.none _)
      | (with_reducible refine LeO.ite ?_ ?_)
      | (with_reducible refine LeO.bind ?_ (fun _ => ?_))
      | exact ih0 _ _ _ _ _
      | exact ih1 _ _ _ _ _
      | exact diacriticref01_Back.mono _ _
      | exact sum_Of.mono _ _
      | exact sum_Sum_Bytes.mono _ _
      | exact LeO.none _
      | refine LeO.ite ?_ ?_
      | refine LeO.bind ?_ (fun _ => ?_)
theorem diacriticlaw16_SumTells.mono : ∀ a0 a1 a2 k, LeO (diacriticlaw16_SumTells.f k a0 a1 a2) (diacriticlaw16_SumTells.f (k + 1) a0 a1 a2) := by
  intro a0 a1 a2 k
  obtain ⟨ih0, ih1⟩ := diacriticlaw16_SumTells.mono_l k
  unfold diacriticlaw16_SumTells.f
  repeat' first
      | (with_reducible exact ih0 _ _ _ _ _)
      | (with_reducible exact ih1 _ _ _ _ _)
      | (with_reducible exact diacriticref01_Back.mono _ _)
      | (with_reducible exact sum_Of.mono _ _)
      | (with_reducible exact sum_Sum_Bytes.mono _ _)
      | (with_reducible exact LeO.refl _)
      | (with_reducible exact LeO.none _)
      | (with_reducible refine LeO.ite ?_ ?_)
      | (with_reducible refine LeO.bind ?_ (fun _ => ?_))
      | exact ih0 _ _ _ _ _
      | exact ih1 _ _ _ _ _
      | exact diacriticref01_Back.mono _ _
      | exact sum_Of.mono _ _
      | exact sum_Sum_Bytes.mono _ _
      | exact LeO.none _
      | refine LeO.ite ?_ ?_
      | refine LeO.bind ?_ (fun _ => ?_)
set_option maxHeartbeats 8000000 in
set_option maxRecDepth 100000 in
theorem diacriticlaw16_SumTells.calls (k : Nat) (a0 : ByteArray) (a1 : Int) (a2 : Int) (r : Bool) (w : World) (h : diacriticlaw16_SumTells.f k a0 a1 a2 = some r) :
    Calls Try.prog 7 #[.string a0, .int .u16 a1, .int .u8 a2] w fun e w' => e = .returned (.bool r) ∧ Below w.heap.size w w' := by
  have HB := Aside0.mk (Below.refl w.heap.size w)
  have H : (if (a0.size : Int) > 1000 then ((diacriticlaw16_awake.f).bind fun t250 => (some t250)) else ((sum_Of.f k (([a0] : List ByteArray))).bind fun t254 => ((sum_Sum_Bytes.f k t254).bind fun t255 => (if (t255.size : Int) = 4 then ((diacriticref01_Back.f k t255).bind fun t256 => ((sum_Of.f k (([a0, t256] : List ByteArray))).bind fun t260 => (diacriticlaw16_SumTells.j0 k a0 a1 a2 t254 (t260 != 0)))) else (diacriticlaw16_SumTells.j0 k a0 a1 a2 t254 true))))) = some r := h
  clear h
  by_cases c4 : (a0.size : Int) > 1000
  · rw [if_pos c4] at H
    have c4b0 : decide (1000 < (a0.size : Int)) = true := decide_eq_true c4
    have c4b1 : decide (1000 < a0.size) = true := decide_eq_true (by omega)
    clear c4
    replace H := Option.bind_eq_some_iff.mp H
    obtain ⟨t250, A50, H⟩ := H
    replace H : (some t250) = some r := H
    have A5 := Aside0.mk A50
    clear A50
    obtain rfl := Option.some.inj H
    go_enter Try.func7, Try.ntmps7
    go_wp2_with (first | ((with_reducible refine gate_callee (f := 18) rfl ?_); refine goesL_ (some 13) rfl rfl Try.func18 (by kernel_rfl) rfl #[] rfl (by (try simp only [List.map_toArray, List.map_cons, List.map_nil]); first | done | rfl | (simp only [List.length_drop, List.length_take]; rfl)) ?_; (with_reducible refine (diacriticlaw16_awake.calls  t250 _ A5.out).mono ?_); rintro e w6 ⟨rfl, hb⟩; refine ⟨_, rfl, ?_⟩; have n0_ := Aside0.mk (below_step (by repeat (first | (with_reducible first | exact HB.out | apply below_alloc | apply pw_below_drewN | apply below_drew1) | exact HB.out)) hb); clear HB; have HB := n0_; clear n0_; (try clear hb); (try clear hb2); (try clear hk); (try clear hi)))
    go_ret
    exact ⟨by first | rfl | (simp [errW_none, errW_some] <;> rfl) | (simp [*, errW_none, errW_some] <;> rfl), by repeat (first | (with_reducible first | exact HB.out | apply below_alloc | apply pw_below_drewN | apply below_drew1) | exact HB.out)⟩
  · rw [if_neg c4] at H
    have c4b0 : decide (1000 < (a0.size : Int)) = false := decide_eq_false c4
    have c4b1 : decide (1000 < a0.size) = false := decide_eq_false (by omega)
    clear c4
    obtain ⟨y251, hy251⟩ : ∃ y_ : List ByteArray, y_ = (([a0] : List ByteArray)) := ⟨_, rfl⟩
    replace H : ((sum_Of.f k y251).bind fun t254 => ((sum_Sum_Bytes.f k t254).bind fun t255 => (if (t255.size : Int) = 4 then ((diacriticref01_Back.f k t255).bind fun t256 => ((sum_Of.f k (([a0, t256] : List ByteArray))).bind fun t260 => (diacriticlaw16_SumTells.j0 k a0 a1 a2 t254 (t260 != 0)))) else (diacriticlaw16_SumTells.j0 k a0 a1 a2 t254 true)))) = some r := by first | (rw [hy251]; with_reducible exact H) | (have H2_ := (Option.bind_some _ _).symm.trans H; rw [hy251]; with_reducible exact H2_) | (have H2_ := (Option.bind_some _ _).symm.trans H; with_reducible exact H2_) | with_reducible exact H | (rw [hy251]; exact H) | exact H
    have Ny251 := Aside0.mk hy251
    clear hy251
    replace H := Option.bind_eq_some_iff.mp H
    obtain ⟨t254, A70, H⟩ := H
    replace H : ((sum_Sum_Bytes.f k t254).bind fun t255 => (if (t255.size : Int) = 4 then ((diacriticref01_Back.f k t255).bind fun t256 => ((sum_Of.f k (([a0, t256] : List ByteArray))).bind fun t260 => (diacriticlaw16_SumTells.j0 k a0 a1 a2 t254 (t260 != 0)))) else (diacriticlaw16_SumTells.j0 k a0 a1 a2 t254 true))) = some r := H
    have A7 := Aside0.mk A70
    clear A70
    replace H := Option.bind_eq_some_iff.mp H
    obtain ⟨t255, A80, H⟩ := H
    replace H : (if (t255.size : Int) = 4 then ((diacriticref01_Back.f k t255).bind fun t256 => ((sum_Of.f k (([a0, t256] : List ByteArray))).bind fun t260 => (diacriticlaw16_SumTells.j0 k a0 a1 a2 t254 (t260 != 0)))) else (diacriticlaw16_SumTells.j0 k a0 a1 a2 t254 true)) = some r := H
    have A8 := Aside0.mk A80
    clear A80
    have HC9 := Aside0.mk H
    clear H
    go_enter Try.func7, Try.ntmps7
    go_upto_region 5 with (first | ((with_reducible refine gate_dst (N := 15) rfl ?_); (try (refine gate_guard (by rfl) ?_; dsimp only)); refine Kd.R_lit Kd.string _ 9 ?hg (N := 15) ?hd (xs := ([a0] : List ByteArray)) (inner := [.string a0]) (ok := fun _ => True) (okp := fun _ => True) ?hr ?hp (fun _ hk => hk) trivial (Below.refl _ _) (Nat.le_refl _) (by simp) ?_; (case hd => rfl); (case hg => rfl); (case hr => first | (go_simp; done) | (go_simp; rfl)); (case hp => exact (Reps.one (show Kd.M Kd.string _ _ _ a0 [.string a0] from rfl) (Reps.none _ _))); intro v252 w10 ho11 hb hg_ hnew_; clear hg_ hnew_; (first | rw [← Ny251.out] at ho11 | (simp only [Int.reduceToNat] at ho11; rw [← Ny251.out] at ho11)); have n0_ := Aside0.mk (Kd.R_lower ho11 (below_size (by repeat (first | (with_reducible first | exact HB.out | apply below_alloc | apply pw_below_drewN | apply below_drew1) | exact HB.out)))); have n1_ := Aside0.mk (below_step (by repeat (first | (with_reducible first | exact HB.out | apply below_alloc | apply pw_below_drewN | apply below_drew1) | exact HB.out)) hb); clear HB; have HO253 := n0_; have HB := n1_; clear n0_ n1_; clear hb ho11; obtain ⟨Ao12, co12, eo12⟩ := Kd.R_slice HO253.out; subst eo12) | ((with_reducible refine gate_callee (f := 20) rfl ?_); refine goesL_ (some 16) rfl rfl Try.func20 (by kernel_rfl) rfl #[.slice Ao12 y251.length co12] rfl (by (try simp only [List.map_toArray, List.map_cons, List.map_nil]); first | done | rfl | (simp only [List.length_drop, List.length_take]; rfl)) ?_; (with_reducible refine (sum_Of.calls k _ _ y251 t254 _ ?side1 ?side2 A7.out).mono ?_); (case side1 => repeat (first | exact (Kd.R_reads' HO253.out).2.2 | (with_reducible refine Kd.C_alloc ?_ _) | (with_reducible refine Kd.C_drewN ?_ _) | (with_reducible refine Kd.C_drew ?_))); (case side2 => exact (Kd.R_reads' HO253.out).2.1); rintro e w' ⟨rfl, ⟨nd, rfl⟩⟩; refine ⟨_, rfl, ?_⟩) | ((with_reducible refine gate_callee (f := 32) rfl ?_); refine goesL_ (some 18) rfl rfl Try.func32 (by kernel_rfl) rfl #[.int .u32 t254] rfl (by (try simp only [List.map_toArray, List.map_cons, List.map_nil]); first | done | rfl | (simp only [List.length_drop, List.length_take]; rfl)) ?_; (with_reducible refine (sum_Sum_Bytes.calls k t254 t255 _ A8.out).mono ?_); rintro e w13 ⟨rfl, hb⟩; refine ⟨_, rfl, ?_⟩; have n0_ := Aside0.mk (Kd.R_below (by (with_reducible repeat (first | apply Kd.R_alloc | apply Kd.R_drewN | apply Kd.R_drew)); exact HO253.out) hb); have n1_ := Aside0.mk (below_step (by repeat (first | (with_reducible first | exact HB.out | apply below_alloc | apply pw_below_drewN | apply below_drew1) | exact HB.out)) hb); clear HO253; clear HB; have HO253 := n0_; have HB := n1_; clear n0_ n1_; (try clear hb); (try clear hb2); (try clear hk); (try clear hi)))
    (try simp only [Act.put, List.setIfInBounds_toArray, List.set_cons_zero, List.set_cons_succ])
    go_cut [29] (fun v29 wc => ∃ (kq : Nat) (x29_8 : Bool), v29 = .bool x29_8 ∧ Aside0 (diacriticlaw16_SumTells.j0 kq a0 a1 a2 t254 x29_8 = some r) ∧ Aside0 (kq ≤ k) ∧ Aside0 (Below w.heap.size w wc))
    case first =>
      have H := HC9.out
      clear HC9
      by_cases c14 : (t255.size : Int) = 4
      · rw [if_pos c14] at H
        have c14b0 : ((t255.size : Int) == 4) = true := beq_iff_eq.mpr c14
        have c14b1 : ((t255.size : Int) != 4) = false := bne_eq_false_iff_eq.mpr c14
        clear c14
        (first | rw [c14b0] | (simp only [i64_w, i32_w]; rw [c14b0]) | skip)
        replace H := Option.bind_eq_some_iff.mp H
        obtain ⟨t256, A150, H⟩ := H
        replace H : ((sum_Of.f k (([a0, t256] : List ByteArray))).bind fun t260 => (diacriticlaw16_SumTells.j0 k a0 a1 a2 t254 (t260 != 0))) = some r := H
        have A15 := Aside0.mk A150
        clear A150
        obtain ⟨y257, hy257⟩ : ∃ y_ : List ByteArray, y_ = (([a0, t256] : List ByteArray)) := ⟨_, rfl⟩
        replace H : ((sum_Of.f k y257).bind fun t260 => (diacriticlaw16_SumTells.j0 k a0 a1 a2 t254 (t260 != 0))) = some r := by first | (rw [hy257]; with_reducible exact H) | (have H2_ := (Option.bind_some _ _).symm.trans H; rw [hy257]; with_reducible exact H2_) | (have H2_ := (Option.bind_some _ _).symm.trans H; with_reducible exact H2_) | with_reducible exact H | (rw [hy257]; exact H) | exact H
        have Ny257 := Aside0.mk hy257
        clear hy257
        replace H := Option.bind_eq_some_iff.mp H
        obtain ⟨t260, A160, H⟩ := H
        replace H : (diacriticlaw16_SumTells.j0 k a0 a1 a2 t254 (t260 != 0)) = some r := H
        have A16 := Aside0.mk A160
        clear A160
        have H' := Aside0.mk H
        clear H
        go_wp2_with (first | (go_at_call 25; (with_reducible refine (diacriticref01_Back.calls k t255 t256 _ A15.out).mono ?_); rintro e w' ⟨rfl, ⟨nd, rfl⟩⟩) | ((with_reducible refine gate_dst (N := 26) rfl ?_); (try (refine gate_guard (by rfl) ?_; dsimp only)); refine Kd.R_lit Kd.string _ 9 ?hg (N := 26) ?hd (xs := ([a0, t256] : List ByteArray)) (inner := [.string a0, .string t256]) (ok := fun _ => True) (okp := fun _ => True) ?hr ?hp (fun _ hk => hk) trivial (Below.refl _ _) (Nat.le_refl _) (by simp) ?_; (case hd => rfl); (case hg => rfl); (case hr => first | (go_simp; done) | (go_simp; rfl)); (case hp => exact (Reps.one (show Kd.M Kd.string _ _ _ a0 [.string a0] from rfl) (Reps.one (show Kd.M Kd.string _ _ _ t256 [.string t256] from rfl) (Reps.none _ _)))); intro v258 w17 ho18 hb hg_ hnew_; clear hg_ hnew_; (first | rw [← Ny257.out] at ho18 | (simp only [Int.reduceToNat] at ho18; rw [← Ny257.out] at ho18)); have n0_ := Aside0.mk (Kd.R_elder' (by (with_reducible repeat (first | apply Kd.R_alloc | apply Kd.R_drewN | apply Kd.R_drew)); exact HO253.out) (Kd.R_base ho18) hb); have n1_ := Aside0.mk (Kd.R_lower (Kd.R_new' ho18 (Kd.R_lt (by (with_reducible repeat (first | apply Kd.R_alloc | apply Kd.R_drewN | apply Kd.R_drew)); exact HO253.out))) (below_size (by repeat (first | (with_reducible first | exact HB.out | apply below_alloc | apply pw_below_drewN | apply below_drew1) | exact HB.out)))); have n2_ := Aside0.mk (below_step (by repeat (first | (with_reducible first | exact HB.out | apply below_alloc | apply pw_below_drewN | apply below_drew1) | exact HB.out)) hb); clear HO253; clear HB; have HO253 := n0_; have HO259 := n1_; have HB := n2_; clear n0_ n1_ n2_; clear hb ho18; obtain ⟨Ao19, co19, eo19⟩ := Kd.R_slice HO259.out; subst eo19) | (go_at_call 20; (with_reducible refine (sum_Of.calls k _ _ y257 t260 _ ?side1 ?side2 A16.out).mono ?_); (case side1 => repeat (first | exact (Kd.R_reads' HO259.out).2.2 | (with_reducible refine Kd.C_alloc ?_ _) | (with_reducible refine Kd.C_drewN ?_ _) | (with_reducible refine Kd.C_drew ?_))); (case side2 => exact (Kd.R_reads' HO259.out).2.1); rintro e w' ⟨rfl, ⟨nd, rfl⟩⟩))
        go_meet
        case rel => exact ⟨_, ((t260 != 0)), (by first | rfl | (simp; done) | (simp [*]; done) | (simp [beq_nil_isEmpty, bne_nil_isEmpty]; done)), H', ⟨by first | omega | exact Nat.le_refl _⟩, ⟨by repeat (first | (with_reducible first | exact HB.out | apply below_alloc | apply pw_below_drewN | apply below_drew1) | exact HB.out)⟩⟩
      · rw [if_neg c14] at H
        have c14b0 : ((t255.size : Int) == 4) = false := beq_eq_false_iff_ne.mpr c14
        have c14b1 : ((t255.size : Int) != 4) = true := bne_iff_ne.mpr c14
        (first | rw [c14b0] | (simp only [i64_w, i32_w]; rw [c14b0]) | skip)
        have H' := Aside0.mk H
        clear H
        go_wp2
        go_meet
        case rel => exact ⟨_, (true), (by first | rfl | (simp; done) | (simp [*]; done) | (simp [beq_nil_isEmpty, bne_nil_isEmpty]; done)), H', ⟨by first | omega | exact Nat.le_refl _⟩, ⟨by repeat (first | (with_reducible first | exact HB.out | apply below_alloc | apply pw_below_drewN | apply below_drew1) | exact HB.out)⟩⟩
    case rest =>
      clear HC9
      try clear c1
      try clear c2
      try clear p2
      try clear c3
      try clear c4
      try clear c4b0
      try clear c4b1
      try clear c7
      try clear c14
      try clear c14b0
      try clear c14b1
      try clear c18
      obtain ⟨kq, x29_8, rfl, HA, HJ8, HB⟩ := hcut
      cases kq with
      | zero => exact absurd HA.out (by simp [diacriticlaw16_SumTells.j0])
      | succ kj8 =>
        have H := HA.out
        clear HA
        simp only [diacriticlaw16_SumTells.j0] at H
        by_cases c20 : x29_8 = true
        · subst c20
          have H1 : (some false) = some r := by rw [if_pos rfl] at H; exact H
          clear H
          have H := H1
          clear H1
          obtain rfl := Option.some.inj H
          go_wp2
          go_ret
          exact ⟨by first | rfl | (simp [errW_none, errW_some] <;> rfl) | (simp [*, errW_none, errW_some] <;> rfl), by repeat (first | (with_reducible first | exact HB.out | apply below_alloc | apply pw_below_drewN | apply below_drew1) | exact HB.out)⟩
        · replace c20 := Bool.eq_false_iff.mpr c20
          subst c20
          have H1 : (if a0.toList = ([] : List UInt8) then (diacriticlaw16_SumTells.j1 kj8 a0 a1 a2 t254 true) else (diacriticlaw16_SumTells.j1 kj8 a0 a1 a2 t254 (a2 == 0))) = some r := by rw [if_neg (show ¬ (false = true) by decide)] at H; exact H
          clear H
          have H := H1
          clear H1
          have HC21 := Aside0.mk H
          clear H
          go_upto_region 7 with (fail)
          go_cut [35] (fun v35 wc => ∃ (kq : Nat) (x35_20 : Bool), v35 = .bool x35_20 ∧ Aside0 (diacriticlaw16_SumTells.j1 kq a0 a1 a2 t254 x35_20 = some r) ∧ Aside0 (kq ≤ kj8) ∧ Aside0 (Below w.heap.size w wc))
          case first =>
            have H := HC21.out
            clear HC21
            by_cases c22 : a0.toList = ([] : List UInt8)
            · rw [if_pos c22] at H
              have c22b0 : (a0.toList == ([] : List UInt8)) = true := beq_iff_eq.mpr c22
              have c22b1 : (a0.toList != ([] : List UInt8)) = false := bne_eq_false_iff_eq.mpr c22
              clear c22
              (first | rw [c22b0] | (simp only [i64_w, i32_w]; rw [c22b0]) | skip)
              have H' := Aside0.mk H
              clear H
              go_wp2
              go_meet
              case rel => exact ⟨_, (true), (by first | rfl | (simp; done) | (simp [*]; done) | (simp [beq_nil_isEmpty, bne_nil_isEmpty]; done)), H', ⟨by have := HJ8.out; first | omega | exact Nat.le_refl _⟩, ⟨by repeat (first | (with_reducible first | exact HB.out | apply below_alloc | apply pw_below_drewN | apply below_drew1) | exact HB.out)⟩⟩
            · rw [if_neg c22] at H
              have c22b0 : (a0.toList == ([] : List UInt8)) = false := beq_eq_false_iff_ne.mpr c22
              have c22b1 : (a0.toList != ([] : List UInt8)) = true := bne_iff_ne.mpr c22
              (first | rw [c22b0] | (simp only [i64_w, i32_w]; rw [c22b0]) | skip)
              have H' := Aside0.mk H
              clear H
              go_wp2
              go_meet
              case rel => exact ⟨_, ((a2 == 0)), (by first | rfl | (simp; done) | (simp [*]; done) | (simp [beq_nil_isEmpty, bne_nil_isEmpty]; done)), H', ⟨by have := HJ8.out; first | omega | exact Nat.le_refl _⟩, ⟨by repeat (first | (with_reducible first | exact HB.out | apply below_alloc | apply pw_below_drewN | apply below_drew1) | exact HB.out)⟩⟩
          case rest =>
            clear HC21
            try clear c1
            try clear c2
            try clear p2
            try clear c3
            try clear c4
            try clear c4b0
            try clear c4b1
            try clear c7
            try clear c14
            try clear c14b0
            try clear c14b1
            try clear c18
            try clear c20
            try clear c22
            try clear c22b0
            try clear c22b1
            try clear p2
            obtain ⟨kq, x35_20, rfl, HA, HJ20, HB⟩ := hcut
            cases kq with
            | zero => exact absurd HA.out (by simp [diacriticlaw16_SumTells.j1])
            | succ kj20 =>
              have H := HA.out
              clear HA
              simp only [diacriticlaw16_SumTells.j1] at H
              by_cases c23 : x35_20 = true
              · subst c23
                have H1 : ((diacriticlaw16_awake.f).bind fun t261 => (some t261)) = some r := by rw [if_pos rfl] at H; exact H
                clear H
                have H := H1
                clear H1
                replace H := Option.bind_eq_some_iff.mp H
                obtain ⟨t261, A240, H⟩ := H
                replace H : (some t261) = some r := H
                have A24 := Aside0.mk A240
                clear A240
                obtain rfl := Option.some.inj H
                go_wp2_with (first | ((with_reducible refine gate_callee (f := 18) rfl ?_); refine goesL_ (some 36) rfl rfl Try.func18 (by kernel_rfl) rfl #[] rfl (by (try simp only [List.map_toArray, List.map_cons, List.map_nil]); first | done | rfl | (simp only [List.length_drop, List.length_take]; rfl)) ?_; (with_reducible refine (diacriticlaw16_awake.calls  t261 _ A24.out).mono ?_); rintro e w25 ⟨rfl, hb⟩; refine ⟨_, rfl, ?_⟩; have n0_ := Aside0.mk (below_step (by repeat (first | (with_reducible first | exact HB.out | apply below_alloc | apply pw_below_drewN | apply below_drew1) | exact HB.out)) hb); clear HB; have HB := n0_; clear n0_; (try clear hb); (try clear hb2); (try clear hk); (try clear hi)))
                go_ret
                exact ⟨by first | rfl | (simp [errW_none, errW_some] <;> rfl) | (simp [*, errW_none, errW_some] <;> rfl), by repeat (first | (with_reducible first | exact HB.out | apply below_alloc | apply pw_below_drewN | apply below_drew1) | exact HB.out)⟩
              · replace c23 := Bool.eq_false_iff.mpr c23
                subst c23
                have H1 : (if 0 < a0.size ∧ a0.size ≤ 1000 ∧ 0 ≤ a1 ∧ a1 ≤ 65535 then ((diacriticlaw16_awake.f).bind fun t262 => (if t262 = true then ((sum_Of.f kj20 (([tellB a0 a1 a2] : List ByteArray))).bind fun t266 => (some (t266 != t254))) else (some false))) else (none)) = some r := by rw [if_neg (show ¬ (false = true) by decide)] at H; exact H
                clear H
                by_cases hgd : 0 < a0.size ∧ a0.size ≤ 1000 ∧ 0 ≤ a1 ∧ a1 ≤ 65535
                case neg => rw [if_neg hgd] at H1; exact absurd H1 (by simp)
                rw [if_pos hgd] at H1
                have H := H1
                clear H1
                obtain ⟨i, hi⟩ : ∃ i : Nat, i = a1.toNat % a0.size := ⟨_, rfl⟩
                have hil : i < a0.size := by rw [hi]; exact Nat.mod_lt _ hgd.1
                have hmod : Int.tmod (wrap64 a1) (a0.size : Int) = (i : Int) := by
                  rw [show wrap64 a1 = ((a1.toNat : Nat) : Int) by unfold wrap64; omega, hi]; rfl
                have hrow : ∀ W : World, RowAt (Lib.bytesWorld W 5 a0) W.heap.size (bytesOf a0) := fun W => RowAt.bytes W 5 a0
                have hxr := tell_range a0 a1 a2
                have hxe : tellI a0 a1 a2 = (bytesOf a0).set i (Go.bits .xor .u8 ((bytesOf a0).getD i 0) a2) := by rw [tellI, ← hi]
                have HX := Aside0.mk hxr
                have HXE := Aside0.mk hxe
                have HIL := Aside0.mk hil
                have HGD := Aside0.mk hgd
                have HROW := Aside0.mk hrow
                clear hi hgd hxr hxe hrow
                obtain ⟨c, hc⟩ : ∃ c, (bytesOf a0).getD i 0 = c := ⟨_, rfl⟩
                obtain ⟨T, hT⟩ : ∃ T : ByteArray, tellB a0 a1 a2 = T := ⟨_, rfl⟩
                rw [hT] at H
                have HT := Aside0.mk hT
                have HCC := Aside0.mk hc
                clear hT hc
                have kb := fun W => print_bytes (P := Try.prog) 9 49 5 Try.underlying9 Try.underlying49 Try.underlying5 a0 W
                go_upto_region 10 with (fail)
                have HR := Aside0.mk (HROW.out wc)
                have hcf := HR.out i (by rw [bytesOf_length]; exact hil)
                rw [HCC.out] at hcf
                obtain ⟨hc, hf⟩ := hcf
                have HR2 := Aside0.mk (HR.out.set (j := i) (by rw [bytesOf_length]; exact hil) (Go.bits .xor .u8 c a2))
                have HB2 := Aside0.mk ((bytes_below HB.out (below_size HB.out) 5 a0).setCell (p := ⟨wc.heap.size, i, none⟩) (below_size HB.out) (.int .u8 (Go.bits .xor .u8 c a2)))
                have HG := Aside0.mk (show wc.heap.size < ((Lib.bytesWorld wc 5 a0).setCell ⟨wc.heap.size, i, none⟩ (.int .u8 (Go.bits .xor .u8 c a2))).heap.size from Nat.lt_of_lt_of_le (by rw [Lib.bytesWorld_size]; omega : wc.heap.size < (Lib.bytesWorld wc 5 a0).heap.size) (Nat.le_of_eq (by simp [World.setCell])))
                go_upto_region 11 with (fail)
                have hxs : (bytesOf a0).set i (Go.bits .xor .u8 c a2) = tellI a0 a1 a2 := by rw [HXE.out, HCC.out]
                rw [hxs] at HR2
                clear hxs
                obtain ⟨W2, hW2⟩ : ∃ W2, (Lib.bytesWorld wc 5 a0).setCell ⟨wc.heap.size, i, none⟩ (.int .u8 (Go.bits .xor .u8 c a2)) = W2 := ⟨_, rfl⟩
                rw [hW2] at HR2 HB2 HG ⊢
                clear hW2 hc hf HR HROW kb hmod HB hil
                have HB := HB2
                clear HB2
                replace H := Option.bind_eq_some_iff.mp H
                obtain ⟨t262, A260, H⟩ := H
                replace H : (if t262 = true then ((sum_Of.f kj20 (([T] : List ByteArray))).bind fun t266 => (some (t266 != t254))) else (some false)) = some r := H
                have A26 := Aside0.mk A260
                clear A260
                by_cases c27 : t262 = true
                · subst c27
                  have H1 : ((sum_Of.f kj20 (([T] : List ByteArray))).bind fun t266 => (some (t266 != t254))) = some r := by rw [if_pos rfl] at H; exact H
                  clear H
                  have H := H1
                  clear H1
                  obtain ⟨y263, hy263⟩ : ∃ y_ : List ByteArray, y_ = (([T] : List ByteArray)) := ⟨_, rfl⟩
                  replace H : ((sum_Of.f kj20 y263).bind fun t266 => (some (t266 != t254))) = some r := by first | (rw [hy263]; with_reducible exact H) | (have H2_ := (Option.bind_some _ _).symm.trans H; rw [hy263]; with_reducible exact H2_) | (have H2_ := (Option.bind_some _ _).symm.trans H; with_reducible exact H2_) | with_reducible exact H | (rw [hy263]; exact H) | exact H
                  have Ny263 := Aside0.mk hy263
                  clear hy263
                  replace H := Option.bind_eq_some_iff.mp H
                  obtain ⟨t266, A280, H⟩ := H
                  replace H : (some (t266 != t254)) = some r := H
                  have A28 := Aside0.mk A280
                  clear A280
                  obtain rfl := Option.some.inj H
                  go_wp2_with (first | ((with_reducible refine gate_callee (f := 18) rfl ?_); refine goesL_ (some 50) rfl rfl Try.func18 (by kernel_rfl) rfl #[] rfl (by (try simp only [List.map_toArray, List.map_cons, List.map_nil]); first | done | rfl | (simp only [List.length_drop, List.length_take]; rfl)) ?_; (with_reducible refine (diacriticlaw16_awake.calls  true _ A26.out).mono ?_); rintro e w29 ⟨rfl, hb⟩; refine ⟨_, rfl, ?_⟩; have HR3 := Aside0.mk (HR2.out.below hb HG.out); have hS := HR3.out.string (P := Try.prog) HX.out Try.underlying49 Try.underlying5 Try.underlying9 a0.size (grownCap wc a0.size 0 5) (by rw [tellI, List.length_set, bytesOf_length]); rw [show strOfNums (tellI a0 a1 a2) = T from HT.out] at hS; have n0_ := Aside0.mk (below_step (by repeat (first | (with_reducible first | exact HB.out | apply below_alloc | apply pw_below_drewN | apply below_drew1) | exact HB.out)) hb); clear HB; have HB := n0_; clear n0_; (try clear hb); (try clear hb2); (try clear hk); (try clear hi)) | ((with_reducible refine gate_dst (N := 54) rfl ?_); (try (refine gate_guard (by rfl) ?_; dsimp only)); refine Kd.R_lit Kd.string _ 9 ?hg (N := 54) ?hd (xs := ([T] : List ByteArray)) (inner := [.string T]) (ok := fun _ => True) (okp := fun _ => True) ?hr ?hp (fun _ hk => hk) trivial (Below.refl _ _) (Nat.le_refl _) (by simp) ?_; (case hd => rfl); (case hg => rfl); (case hr => first | (go_simp; done) | (go_simp; rfl)); (case hp => exact (Reps.one (show Kd.M Kd.string _ _ _ T [.string T] from rfl) (Reps.none _ _))); intro v264 w30 ho31 hb hg_ hnew_; clear hg_ hnew_; (first | rw [← Ny263.out] at ho31 | (simp only [Int.reduceToNat] at ho31; rw [← Ny263.out] at ho31)); have n0_ := Aside0.mk (Kd.R_lower ho31 (below_size (by repeat (first | (with_reducible first | exact HB.out | apply below_alloc | apply pw_below_drewN | apply below_drew1) | exact HB.out)))); have n1_ := Aside0.mk (below_step (by repeat (first | (with_reducible first | exact HB.out | apply below_alloc | apply pw_below_drewN | apply below_drew1) | exact HB.out)) hb); clear HB; have HO265 := n0_; have HB := n1_; clear n0_ n1_; clear hb ho31; obtain ⟨Ao32, co32, eo32⟩ := Kd.R_slice HO265.out; subst eo32) | (go_at_call 20; (with_reducible refine (sum_Of.calls kj20 _ _ y263 t266 _ ?side1 ?side2 A28.out).mono ?_); (case side1 => repeat (first | exact (Kd.R_reads' HO265.out).2.2 | (with_reducible refine Kd.C_alloc ?_ _) | (with_reducible refine Kd.C_drewN ?_ _) | (with_reducible refine Kd.C_drew ?_))); (case side2 => exact (Kd.R_reads' HO265.out).2.1); rintro e w' ⟨rfl, ⟨nd, rfl⟩⟩))
                  go_ret
                  exact ⟨by first | rfl | (simp [errW_none, errW_some] <;> rfl) | (simp [*, errW_none, errW_some] <;> rfl), by repeat (first | (with_reducible first | exact HB.out | apply below_alloc | apply pw_below_drewN | apply below_drew1) | exact HB.out)⟩
                · replace c27 := Bool.eq_false_iff.mpr c27
                  subst c27
                  have H1 : (some false) = some r := by rw [if_neg (show ¬ (false = true) by decide)] at H; exact H
                  clear H
                  have H := H1
                  clear H1
                  obtain rfl := Option.some.inj H
                  go_wp2_with (first | ((with_reducible refine gate_callee (f := 18) rfl ?_); refine goesL_ (some 50) rfl rfl Try.func18 (by kernel_rfl) rfl #[] rfl (by (try simp only [List.map_toArray, List.map_cons, List.map_nil]); first | done | rfl | (simp only [List.length_drop, List.length_take]; rfl)) ?_; (with_reducible refine (diacriticlaw16_awake.calls  false _ A26.out).mono ?_); rintro e w33 ⟨rfl, hb⟩; refine ⟨_, rfl, ?_⟩; have n0_ := Aside0.mk (below_step (by repeat (first | (with_reducible first | exact HB.out | apply below_alloc | apply pw_below_drewN | apply below_drew1) | exact HB.out)) hb); clear HB; have HB := n0_; clear n0_; (try clear hb); (try clear hb2); (try clear hk); (try clear hi)))
                  go_ret
                  exact ⟨by first | rfl | (simp [errW_none, errW_some] <;> rfl) | (simp [*, errW_none, errW_some] <;> rfl), by repeat (first | (with_reducible first | exact HB.out | apply below_alloc | apply pw_below_drewN | apply below_drew1) | exact HB.out)⟩

/-- THE ONE PURE STATEMENT of diacriticlaw16_SumTells: yours. -/
def diacriticlaw16_SumTells.Pure : Prop := ∀ (a0 : ByteArray) (a1 : Int) (a2 : Int), a0.size ≤ 140737488351232 → (Lit.int .u16 a1).wf = true → (Lit.int .u8 a2).wf = true → ∃ k, diacriticlaw16_SumTells.f k a0 a1 a2 = some true
theorem diacriticlaw16_SumTells.walk (P : diacriticlaw16_SumTells.Pure) (a0 : ByteArray) (a1 : Int) (a2 : Int) (w : World) (w0 : a0.size ≤ 140737488351232) (w1 : (Lit.int .u16 a1).wf = true) (w2 : (Lit.int .u8 a2).wf = true) :
    Calls Try.prog 7 #[.string a0, .int .u16 a1, .int .u8 a2] w fun e w' => e = .returned (.bool true) ∧ Below w.heap.size w w' := by
  obtain ⟨k, h⟩ := P a0 a1 a2 w0 w1 w2
  refine (diacriticlaw16_SumTells.calls k a0 a1 a2 true w h).mono ?_
  rintro e w' ⟨rfl, hd⟩
  exact ⟨rfl, hd⟩


/-! ### diacriticref01_Left: function 35 -/
def diacriticref01_Left.f (a0_0 : ByteArray) (a0_1 : Int) (a0_2 : Int) (a0_3 : Int) (a0_4 : Int) : Option (Int) := if a0_3 = 0 then (some (wrap64 ((a0_0.size : Int) - a0_1))) else (some 0)
set_option maxHeartbeats 8000000 in
set_option maxRecDepth 100000 in
theorem diacriticref01_Left.calls (a0_0 : ByteArray) (a0_1 : Int) (a0_2 : Int) (a0_3 : Int) (a0_4 : Int) (r : Int) (w : World) (h : diacriticref01_Left.f a0_0 a0_1 a0_2 a0_3 a0_4 = some r) :
    Calls Try.prog 35 #[.agg #[.string a0_0, .int .i64 a0_1, .int .i64 a0_2, .int .i64 a0_3, .int .i64 a0_4]] w fun e w' => e = .returned (.int .i64 r) ∧ Below w.heap.size w w' := by
  have hu54 := Try.underlying54
  have HB := Aside0.mk (Below.refl w.heap.size w)
  have H : (if a0_3 = 0 then (some (wrap64 ((a0_0.size : Int) - a0_1))) else (some 0)) = some r := h
  clear h
  by_cases c2 : a0_3 = 0
  · rw [if_pos c2] at H
    have c2b0 : (a0_3 == 0) = true := beq_iff_eq.mpr c2
    have c2b1 : (a0_3 != 0) = false := bne_eq_false_iff_eq.mpr c2
    clear c2
    obtain rfl := Option.some.inj H
    go_enter Try.func35, Try.ntmps35
    go_wp2_with (first | ((with_reducible refine gate_dst (N := 1) rfl ?_); refine box_event ?hg (N := 1) ?hd (cs := #[.string a0_0, .int .i64 a0_1, .int .i64 a0_2, .int .i64 a0_3, .int .i64 a0_4]) (t := 54) ?hr ?_; (case hd => rfl); (case hg => rfl); (case hr => first | (go_simp; done) | (go_simp; rfl)); intro gb250 hg w3 hbox hb; have n0_ := Aside0.mk (below_step (by repeat (first | (with_reducible first | exact HB.out | apply below_alloc | apply pw_below_drewN | apply below_drew1) | exact HB.out)) hb); have n1_ := Aside0.mk (hbox); have n2_ := Aside0.mk ((by rw [hg]; exact (below_size (by repeat (first | (with_reducible first | exact HB.out | apply below_alloc | apply pw_below_drewN | apply below_drew1) | exact HB.out))) : w.heap.size ≤ gb250)); have n3_ := Aside0.mk ((by rw [hg]; exact (below_size (by repeat (first | (with_reducible first | exact HB.out | apply below_alloc | apply pw_below_drewN | apply below_drew1) | exact HB.out))) : w.heap.size ≤ gb250)); clear HB; have HB := n0_; have BK250 := n1_; have GW250 := n2_; have GE250 := n3_; clear n0_ n1_ n2_ n3_; clear hb hbox hg; have hcz4_0 : w3.cell? ⟨gb250, 0, none⟩ = some (.string a0_0) := (blk_cell BK250.out 0).trans rfl; have hcz4_1 : w3.cell? ⟨gb250, 1, none⟩ = some (.int .i64 a0_1) := (blk_cell BK250.out 1).trans rfl; have hcz4_2 : w3.cell? ⟨gb250, 2, none⟩ = some (.int .i64 a0_2) := (blk_cell BK250.out 2).trans rfl; have hcz4_3 : w3.cell? ⟨gb250, 3, none⟩ = some (.int .i64 a0_3) := (blk_cell BK250.out 3).trans rfl; have hcz4_4 : w3.cell? ⟨gb250, 4, none⟩ = some (.int .i64 a0_4) := (blk_cell BK250.out 4).trans rfl; have hfz4_0 := blk_frozen BK250.out 0; have hfz4_1 := blk_frozen BK250.out 1; have hfz4_2 := blk_frozen BK250.out 2; have hfz4_3 := blk_frozen BK250.out 3; have hfz4_4 := blk_frozen BK250.out 4))
    go_ret
    exact ⟨by first | rfl | (simp [errW_none, errW_some] <;> rfl) | (simp [*, errW_none, errW_some] <;> rfl), by repeat (first | (with_reducible first | exact HB.out | apply below_alloc | apply pw_below_drewN | apply below_drew1 | refine below_set ?_ GE250.out) | exact HB.out)⟩
  · rw [if_neg c2] at H
    have c2b0 : (a0_3 == 0) = false := beq_eq_false_iff_ne.mpr c2
    have c2b1 : (a0_3 != 0) = true := bne_iff_ne.mpr c2
    obtain rfl := Option.some.inj H
    go_enter Try.func35, Try.ntmps35
    go_wp2_with (first | ((with_reducible refine gate_dst (N := 1) rfl ?_); refine box_event ?hg (N := 1) ?hd (cs := #[.string a0_0, .int .i64 a0_1, .int .i64 a0_2, .int .i64 a0_3, .int .i64 a0_4]) (t := 54) ?hr ?_; (case hd => rfl); (case hg => rfl); (case hr => first | (go_simp; done) | (go_simp; rfl)); intro gb250 hg w5 hbox hb; have n0_ := Aside0.mk (below_step (by repeat (first | (with_reducible first | exact HB.out | apply below_alloc | apply pw_below_drewN | apply below_drew1) | exact HB.out)) hb); have n1_ := Aside0.mk (hbox); have n2_ := Aside0.mk ((by rw [hg]; exact (below_size (by repeat (first | (with_reducible first | exact HB.out | apply below_alloc | apply pw_below_drewN | apply below_drew1) | exact HB.out))) : w.heap.size ≤ gb250)); have n3_ := Aside0.mk ((by rw [hg]; exact (below_size (by repeat (first | (with_reducible first | exact HB.out | apply below_alloc | apply pw_below_drewN | apply below_drew1) | exact HB.out))) : w.heap.size ≤ gb250)); clear HB; have HB := n0_; have BK250 := n1_; have GW250 := n2_; have GE250 := n3_; clear n0_ n1_ n2_ n3_; clear hb hbox hg; have hcz6_0 : w5.cell? ⟨gb250, 0, none⟩ = some (.string a0_0) := (blk_cell BK250.out 0).trans rfl; have hcz6_1 : w5.cell? ⟨gb250, 1, none⟩ = some (.int .i64 a0_1) := (blk_cell BK250.out 1).trans rfl; have hcz6_2 : w5.cell? ⟨gb250, 2, none⟩ = some (.int .i64 a0_2) := (blk_cell BK250.out 2).trans rfl; have hcz6_3 : w5.cell? ⟨gb250, 3, none⟩ = some (.int .i64 a0_3) := (blk_cell BK250.out 3).trans rfl; have hcz6_4 : w5.cell? ⟨gb250, 4, none⟩ = some (.int .i64 a0_4) := (blk_cell BK250.out 4).trans rfl; have hfz6_0 := blk_frozen BK250.out 0; have hfz6_1 := blk_frozen BK250.out 1; have hfz6_2 := blk_frozen BK250.out 2; have hfz6_3 := blk_frozen BK250.out 3; have hfz6_4 := blk_frozen BK250.out 4))
    go_ret
    exact ⟨by first | rfl | (simp [errW_none, errW_some] <;> rfl) | (simp [*, errW_none, errW_some] <;> rfl), by repeat (first | (with_reducible first | exact HB.out | apply below_alloc | apply pw_below_drewN | apply below_drew1 | refine below_set ?_ GE250.out) | exact HB.out)⟩

/-! ### octet_In_Rest: function 39 -/
def octet_In_Rest.f (s0_0 : ByteArray) (s0_1 : Int) (s0_2 : Int) (s0_3 : Int) (s0_4 : Int) : Option (ByteArray × ByteArray × Int × Int × Int × Int) := (octet_In_Left.f s0_0 s0_1 s0_2 s0_3 s0_4).bind fun bt251 => ((octet_In_Take.f bt251.2.1 bt251.2.2.1 bt251.2.2.2.1 bt251.2.2.2.2.1 bt251.2.2.2.2.2 bt251.1).bind fun bt257 => (some (bt257.1, bt257.2.1, bt257.2.2.1, bt257.2.2.2.1, bt257.2.2.2.2.1, bt257.2.2.2.2.2)))
set_option maxHeartbeats 8000000 in
set_option maxRecDepth 100000 in
theorem octet_In_Rest.calls (g : Nat) (s0_0 : ByteArray) (s0_1 : Int) (s0_2 : Int) (s0_3 : Int) (s0_4 : Int) (r1 : ByteArray) (r2 : ByteArray) (r3 : Int) (r4 : Int) (r5 : Int) (r6 : Int) (w0 w : World) (hI : IsS68 w0 w g s0_0 s0_1 s0_2 s0_3 s0_4) (hB : Below w0.heap.size w0 w) (h : octet_In_Rest.f s0_0 s0_1 s0_2 s0_3 s0_4 = some (r1, r2, r3, r4, r5, r6)) :
    Calls Try.prog 39 #[.pointer (some ⟨g, 0, none⟩)] w fun e w' => e = .returned (.string r1) ∧ IsS68 w0 w' g r2 r3 r4 r5 r6 ∧ Below w0.heap.size w0 w' ∧ KeepBut w w' g none := by
  have HI0 := Aside0.mk hI
  have HK := Aside0.mk (KeepBut.refl w g none)
  have HL := Aside0.mk hB.size
  clear hI
  have HW0 := Aside0.mk hB.size
  have HB := Aside0.mk hB
  clear hB
  have H : ((octet_In_Left.f s0_0 s0_1 s0_2 s0_3 s0_4).bind fun bt251 => ((octet_In_Take.f bt251.2.1 bt251.2.2.1 bt251.2.2.2.1 bt251.2.2.2.2.1 bt251.2.2.2.2.2 bt251.1).bind fun bt257 => (some (bt257.1, bt257.2.1, bt257.2.2.1, bt257.2.2.2.1, bt257.2.2.2.2.1, bt257.2.2.2.2.2)))) = some (r1, r2, r3, r4, r5, r6) := h
  clear h
  replace H := Option.bind_eq_some_iff.mp H
  obtain ⟨⟨t251, t252, t253, t254, t255, t256⟩, A20, H⟩ := H
  replace H : ((octet_In_Take.f t252 t253 t254 t255 t256 t251).bind fun bt257 => (some (bt257.1, bt257.2.1, bt257.2.2.1, bt257.2.2.2.1, bt257.2.2.2.2.1, bt257.2.2.2.2.2))) = some (r1, r2, r3, r4, r5, r6) := H
  have A2 := Aside0.mk A20
  clear A20
  replace H := Option.bind_eq_some_iff.mp H
  obtain ⟨⟨t257, t258, t259, t260, t261, t262⟩, A30, H⟩ := H
  replace H : (some (t257, t258, t259, t260, t261, t262)) = some (r1, r2, r3, r4, r5, r6) := H
  have A3 := Aside0.mk A30
  clear A30
  simp only [Option.some.injEq, Prod.mk.injEq] at H
  obtain ⟨rfl, rfl, rfl, rfl, rfl, rfl⟩ := H
  go_enter Try.func39, Try.ntmps39
  go_wp2_with (first | ((with_reducible refine gate_callee (f := 30) rfl ?_); refine goesL_ (some 5) rfl rfl Try.func30 (by kernel_rfl) rfl #[.pointer (some ⟨g, 0, none⟩)] rfl (by (try simp only [List.map_toArray, List.map_cons, List.map_nil]); first | done | rfl | (simp only [List.length_drop, List.length_take]; rfl)) ?_; (with_reducible refine (octet_In_Left.calls g s0_0 s0_1 s0_2 s0_3 s0_4 t251 t252 t253 t254 t255 t256 w0 _ ?side1 ?side2 A2.out).mono ?_); (case side1 => repeat (first | (with_reducible first | exact HI0.out | apply IsS68.alloc | apply IsS68.drewN | apply IsS68.drew | apply IsS68.set_0 | apply IsS68.set_1 | apply IsS68.set_2 | apply IsS68.set_3 | apply IsS68.set_4) | exact HI0.out)); (case side2 => repeat (first | (with_reducible first | exact HB.out | apply below_alloc | apply pw_below_drewN | apply below_drew1 | refine below_set ?_ (IsS68.ge HI0.out)) | exact HB.out)); rintro e w4 ⟨rfl, hi, hb, hk⟩; refine ⟨_, rfl, ?_⟩; have n0_ := Aside0.mk (KeepBut.trans (by repeat (first | (with_reducible first | exact HK.out | apply KeepBut.set_ | apply keep_drewN | apply keep_drew | apply keep_alloc) | exact HK.out)) hk (.inl rfl)); have n1_ := Aside0.mk (hb); have n2_ := Aside0.mk (hi); clear HK; clear HB; clear HI0; have HK := n0_; have HB := n1_; have HI0 := n2_; clear n0_ n1_ n2_; (try clear hb); (try clear hb2); (try clear hk); (try clear hi)) | ((with_reducible refine gate_callee (f := 38) rfl ?_); refine goesL_ (some 6) rfl rfl Try.func38 (by kernel_rfl) rfl #[.pointer (some ⟨g, 0, none⟩), .int .i64 t251] rfl (by (try simp only [List.map_toArray, List.map_cons, List.map_nil]); first | done | rfl | (simp only [List.length_drop, List.length_take]; rfl)) ?_; (with_reducible refine (octet_In_Take.calls g t252 t253 t254 t255 t256 t251 t257 t258 t259 t260 t261 t262 w0 _ ?side1 ?side2 A3.out).mono ?_); (case side1 => repeat (first | (with_reducible first | exact HI0.out | apply IsS68.alloc | apply IsS68.drewN | apply IsS68.drew | apply IsS68.set_0 | apply IsS68.set_1 | apply IsS68.set_2 | apply IsS68.set_3 | apply IsS68.set_4) | exact HI0.out)); (case side2 => repeat (first | (with_reducible first | exact HB.out | apply below_alloc | apply pw_below_drewN | apply below_drew1 | refine below_set ?_ (IsS68.ge HI0.out)) | exact HB.out)); rintro e w5 ⟨rfl, hi, hb, hk⟩; refine ⟨_, rfl, ?_⟩; have n0_ := Aside0.mk (KeepBut.trans (by repeat (first | (with_reducible first | exact HK.out | apply KeepBut.set_ | apply keep_drewN | apply keep_drew | apply keep_alloc) | exact HK.out)) hk (.inl rfl)); have n1_ := Aside0.mk (hb); have n2_ := Aside0.mk (hi); clear HK; clear HB; clear HI0; have HK := n0_; have HB := n1_; have HI0 := n2_; clear n0_ n1_ n2_; (try clear hb); (try clear hb2); (try clear hk); (try clear hi)))
  go_ret
  exact ⟨by first | rfl | (simp [errW_none, errW_some] <;> rfl) | (simp [*, errW_none, errW_some] <;> rfl), by repeat (first | (with_reducible first | exact HI0.out | apply IsS68.alloc | apply IsS68.drewN | apply IsS68.drew | apply IsS68.set_0 | apply IsS68.set_1 | apply IsS68.set_2 | apply IsS68.set_3 | apply IsS68.set_4) | exact HI0.out), by repeat (first | (with_reducible first | exact HB.out | apply below_alloc | apply pw_below_drewN | apply below_drew1 | refine below_set ?_ (IsS68.ge HI0.out)) | exact HB.out), by repeat (first | (with_reducible first | exact HK.out | apply KeepBut.set_ | apply keep_drewN | apply keep_drew | apply keep_alloc) | exact HK.out)⟩

end Go.Proofs.Ytkcckhlkaknggaa.PAll
