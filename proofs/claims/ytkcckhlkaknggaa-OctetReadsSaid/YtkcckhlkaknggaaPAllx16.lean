/- Written by a program of this session: functions of the Go program as Lean functions, and the walks that tie them to it. -/
import Derived.Test.YtkcckhlkaknggaaPAllx0
import Derived.Test.YtkcckhlkaknggaaPAllx1
import Derived.Test.YtkcckhlkaknggaaPAllx2
import Derived.Test.YtkcckhlkaknggaaPAllx3
import Derived.Test.YtkcckhlkaknggaaPAllx10
import Derived.Test.YtkcckhlkaknggaaPAllx15
namespace Go.Proofs.Ytkcckhlkaknggaa.PAll
open Go.RowKit Go.Proofs.YtkcckhlkaknggaaW.PrintWords Go.Proofs.YtkcckhlkaknggaaW.PrintLast Go.Proofs.YtkcckhlkaknggaaW.PrintMore
attribute [local go_sem] max2_int min2_int max_two min_two max_three min_three max_four min_four   -- for this text's walks alone
set_option linter.unusedVariables false
set_option linter.unusedSimpArgs false

attribute [local go_sem high] eqA32
/-! ### diacriticlaw01_OctetReads: function 8 -/
mutual
def diacriticlaw01_OctetReads.j0 : Nat → ByteArray → Int → List (S56) → Bool → Option (Bool)
  | 0, _, _, _, _ => none
  | k + 1, x0, x1, x2, x24 => if x24 = true then ((diacriticlaw01_awake.f k).bind fun t470 => (some t470)) else ((octet_Inner.f x0 x1).bind fun bt471 => (diacriticlaw01_OctetReads.l0 k x2 (x2.length : Int) 0 bt471.1 bt471.2.1 bt471.2.2.1 bt471.2.2.2.1 bt471.2.2.2.2 x0 0 (mx x1 0) 0 0))
def diacriticlaw01_OctetReads.l0 : Nat → List (S56) → Int → Int → ByteArray → Int → Int → Int → Int → ByteArray → Int → Int → Int → Int → Option (Bool)
  | 0, _, _, _, _, _, _, _, _, _, _, _, _, _ => none
  | k + 1, x33, x34, x35, x477000, x477001, x477002, x477003, x477004, x478000, x478001, x478002, x478003, x478004 => if x35 < x34 then (if 0 ≤ x35 then (if x35 < (x33.length : Int) then (if (((rd_T56 x33 x35).f3).size : Int) > 200 then ((diacriticlaw01_awake.f k).bind fun t481 => (some t481)) else ((diacriticlaw01_do.f k x477000 x477001 x477002 x477003 x477004 x478000 x478001 x478002 x478003 x478004 ((rd_T56 x33 x35).f0) ((rd_T56 x33 x35).f1) ((rd_T56 x33 x35).f2) ((rd_T56 x33 x35).f3)).bind fun bt482 => (if bt482.2.2.2.2.2.1 = true then ((octet_In_Left.f bt482.2.2.2.2.2.2.1 bt482.2.2.2.2.2.2.2.1 bt482.2.2.2.2.2.2.2.2.1 bt482.2.2.2.2.2.2.2.2.2.1 bt482.2.2.2.2.2.2.2.2.2.2).bind fun bt494 => ((diacriticref01_Left.f bt482.1 bt482.2.1 bt482.2.2.1 bt482.2.2.2.1 bt482.2.2.2.2.1).bind fun t500 => (if bt494.1 = t500 then ((octet_In_At.f bt494.2.1 bt494.2.2.1 bt494.2.2.2.1 bt494.2.2.2.2.1 bt494.2.2.2.2.2).bind fun bt501 => (if bt501.1 = (wrap64 (bt482.2.2.1 + bt482.2.1)) then ((octet_In_Fault.f bt501.2.1 bt501.2.2.1 bt501.2.2.2.1 bt501.2.2.2.2.1 bt501.2.2.2.2.2).bind fun bt507 => (if (!(bt507.1 == bt482.2.2.2.1) || (!(bt507.2.1 == bt482.2.2.2.2.1))) = true then (some false) else (diacriticlaw01_OctetReads.l0 k x33 x34 (wrap64 (x35 + 1)) bt507.2.2.1 bt507.2.2.2.1 bt507.2.2.2.2.1 bt507.2.2.2.2.2.1 bt507.2.2.2.2.2.2 bt482.1 bt482.2.1 bt482.2.2.1 bt482.2.2.2.1 bt482.2.2.2.2.1))) else (some false))) else (some false)))) else (some false)))) else (none)) else (none)) else ((diacriticlaw01_awake.f k).bind fun t478 => (some t478))
end
def diacriticlaw01_OctetReads.f (k : Nat) (a0 : ByteArray) (a1 : Int) (l2 : List (S56)) : Option (Bool) := if (a0.size : Int) > 2000 then (diacriticlaw01_OctetReads.j0 k a0 a1 l2 true) else (if (l2.length : Int) > 100 then (diacriticlaw01_OctetReads.j0 k a0 a1 l2 true) else (diacriticlaw01_OctetReads.j0 k a0 a1 l2 (decide (a1 > 1099511627776))))
theorem diacriticlaw01_OctetReads.mono_l : ∀ k, (∀ y0 y1 y2 y3, LeO (diacriticlaw01_OctetReads.j0 k y0 y1 y2 y3) (diacriticlaw01_OctetReads.j0 (k + 1) y0 y1 y2 y3)) ∧ (∀ y0 y1 y2 y3 y4 y5 y6 y7 y8 y9 y10 y11 y12, LeO (diacriticlaw01_OctetReads.l0 k y0 y1 y2 y3 y4 y5 y6 y7 y8 y9 y10 y11 y12) (diacriticlaw01_OctetReads.l0 (k + 1) y0 y1 y2 y3 y4 y5 y6 y7 y8 y9 y10 y11 y12))
  | 0 => ⟨fun _ _ _ _ r h => by simp [diacriticlaw01_OctetReads.j0] at h, fun _ _ _ _ _ _ _ _ _ _ _ _ _ r h => by simp [diacriticlaw01_OctetReads.l0] at h⟩
  | k + 1 => by
    obtain ⟨ih0, ih1⟩ := diacriticlaw01_OctetReads.mono_l k
    refine ⟨?_, ?_⟩
    · intro y0 y1 y2 y3
      unfold diacriticlaw01_OctetReads.j0
      repeat' first
      | (with_reducible exact ih0 _ _ _ _)
      | (with_reducible exact ih1 _ _ _ _ _ _ _ _ _ _ _ _ _)
      | (with_reducible exact diacriticlaw01_awake.mono _)
      | (with_reducible exact diacriticlaw01_do.mono _ _ _ _ _ _ _ _ _ _ _ _ _ _ _)
      | (with_reducible exact LeO.refl _)
      | (with_reducible exact LeO.none _)
      | (with_reducible refine LeO.ite ?_ ?_)
      | (with_reducible refine LeO.bind ?_ (fun _ => ?_))
      | exact ih0 _ _ _ _
      | exact ih1 _ _ _ _ _ _ _ _ _ _ _ _ _
      | exact diacriticlaw01_awake.mono _
      | exact diacriticlaw01_do.mono _ _ _ _ _ _ _ _ _ _ _ _ _ _ _
      | exact LeO.none _
      | refine LeO.ite ?_ ?_
      | refine LeO.bind ?_ (fun _ => ?_)
    · intro y0 y1 y2 y3 y4 y5 y6 y7 y8 y9 y10 y11 y12
      unfold diacriticlaw01_OctetReads.l0
      repeat' first
      | (with_reducible exact ih0 _ _ _ _)
      | (with_reducible exact ih1 _ _ _ _ _ _ _ _ _ _ _ _ _)
      | (with_reducible exact diacriticlaw01_awake.mono _)
      | (with_reducible exact diacriticlaw01_do.mono _ _ _ _ _ _ _ _ _ _ _ _ _ _ _)
      | (with_reducible exact LeO.refl _)
      | (with_reducible exact LeO.none _)
      | (with_reducible refine LeO.ite ?_ ?_)
      | (with_reducible refine LeO.bind ?_ (fun _ => ?_))
      | exact ih0 _ _ _ _
      | exact ih1 _ _ _ _ _ _ _ _ _ _ _ _ _
      | exact diacriticlaw01_awake.mono _
      | exact diacriticlaw01_do.mono _ _ _ _ _ _ _ _ _ _ _ _ _ _ _
      | exact LeO.none _
      | refine LeO.ite ?_ ?_
      | refine LeO.bind ?_ (fun _ => ?_)
theorem diacriticlaw01_OctetReads.mono : ∀ a0 a1 a2 k, LeO (diacriticlaw01_OctetReads.f k a0 a1 a2) (diacriticlaw01_OctetReads.f (k + 1) a0 a1 a2) := by
  intro a0 a1 a2 k
  obtain ⟨ih0, ih1⟩ := diacriticlaw01_OctetReads.mono_l k
  unfold diacriticlaw01_OctetReads.f
  repeat' first
      | (with_reducible exact ih0 _ _ _ _)
      | (with_reducible exact ih1 _ _ _ _ _ _ _ _ _ _ _ _ _)
      | (with_reducible exact diacriticlaw01_awake.mono _)
      | (with_reducible exact diacriticlaw01_do.mono _ _ _ _ _ _ _ _ _ _ _ _ _ _ _)
      | (with_reducible exact LeO.refl _)
      | (with_reducible exact LeO.none _)
      | (with_reducible refine LeO.ite ?_ ?_)
      | (with_reducible refine LeO.bind ?_ (fun _ => ?_))
      | exact ih0 _ _ _ _
      | exact ih1 _ _ _ _ _ _ _ _ _ _ _ _ _
      | exact diacriticlaw01_awake.mono _
      | exact diacriticlaw01_do.mono _ _ _ _ _ _ _ _ _ _ _ _ _ _ _
      | exact LeO.none _
      | refine LeO.ite ?_ ?_
      | refine LeO.bind ?_ (fun _ => ?_)
def diacriticlaw01_OctetReads.T11 : Bool × List (List Nat × List Nat) := (true, [([], []), ([0], [0]), ([1], [1]), ([2], [2]), ([3, 2, 2], [2, 3]), ([2], [2]), ([5, 4, 2], [2, 5]), ([4, 6, 2], [2, 4, 6]), ([2, 7], [2, 7]), ([8, 6], [8]), ([9], [9]), ([10, 9, 9], [9, 10]), ([9], [9]), ([12, 9], [9, 12]), ([9], [9]), ([14, 9], [9, 14]), ([13, 15, 9], [9, 13, 15]), ([11, 16, 9], [9, 11, 16]), ([9, 17], [9, 17]), ([18, 11], [18]), ([19], [19]), ([20, 19, 19], [19, 20]), ([19], [19]), ([22, 19], [19, 22]), ([19], [19]), ([24, 19], [19, 24]), ([23, 25, 19], [19, 23, 25]), ([21, 26, 19], [19, 21, 26]), ([19, 27], [19, 27])])
def diacriticlaw01_OctetReads.B11 : List Nat := [0, 1, 3, 7, 15, 7, 63, 127, 255, 511, 1023, 2047, 1023, 5119, 1023, 17407, 62463, 131071, 262143, 524287, 1048575, 2097151, 1048575, 5242879, 1048575, 17825791, 63963135, 134217727, 268435455]
theorem diacriticlaw01_OctetReads.tab11 : rtab .any (opsOf Try.f8 11) = diacriticlaw01_OctetReads.T11 := by kernel_rfl
theorem diacriticlaw01_OctetReads.bits11 : waitsOk diacriticlaw01_OctetReads.T11.2 diacriticlaw01_OctetReads.B11 = true := by kernel_rfl
set_option maxHeartbeats 8000000 in
set_option maxRecDepth 100000 in
theorem diacriticlaw01_OctetReads.calls (k : Nat) (a0 : ByteArray) (a1 : Int) (A2 : Option Addr) (c2 : Nat) (l2 : List (S56)) (r : Bool) (w : World) (hr2 : Kd.C k56 w A2 l2.length l2) (hc2 : l2.length ≤ c2) (h : diacriticlaw01_OctetReads.f k a0 a1 l2 = some r) :
    Calls Try.prog 8 #[.string a0, .int .i64 a1, .slice A2 l2.length c2] w fun e w' => e = .returned (.bool r) ∧ Below w.heap.size w w' := by
  have hu54 := Try.underlying54
  have hu56 := Try.underlying56
  have hu32 := Try.underlying32
  have HR2 := Aside0.mk hr2
  have HC2 := Aside0.mk hc2
  clear hr2 hc2
  have HB := Aside0.mk (Below.refl w.heap.size w)
  have H : (if (a0.size : Int) > 2000 then (diacriticlaw01_OctetReads.j0 k a0 a1 l2 true) else (if (l2.length : Int) > 100 then (diacriticlaw01_OctetReads.j0 k a0 a1 l2 true) else (diacriticlaw01_OctetReads.j0 k a0 a1 l2 (decide (a1 > 1099511627776))))) = some r := h
  clear h
  have HC4 := Aside0.mk H
  clear H
  go_enter Try.func8, Try.ntmps8
  go_upto_region 1 with (fail)
  go_cut [24] (fun v24 wc => ∃ (kq : Nat) (x24_3 : Bool), v24 = .bool x24_3 ∧ Aside0 (diacriticlaw01_OctetReads.j0 kq a0 a1 l2 x24_3 = some r) ∧ Aside0 (kq ≤ k) ∧ Aside0 (Below w.heap.size w wc))
  case first =>
    have H := HC4.out
    clear HC4
    by_cases c5 : (a0.size : Int) > 2000
    · rw [if_pos c5] at H
      have c5b0 : decide (2000 < (a0.size : Int)) = true := decide_eq_true c5
      have c5b1 : decide (2000 < a0.size) = true := decide_eq_true (by omega)
      clear c5
      (first | rw [c5b0] | (simp only [i64_w, i32_w]; rw [c5b0]) | skip)
      have H' := Aside0.mk H
      clear H
      go_wp2
      go_meet
      case rel => exact ⟨_, (true), q_7, H', ⟨by first | omega | exact Nat.le_refl _⟩, ⟨q_1⟩⟩
    · rw [if_neg c5] at H
      have c5b0 : decide (2000 < (a0.size : Int)) = false := decide_eq_false c5
      have c5b1 : decide (2000 < a0.size) = false := decide_eq_false (by omega)
      clear c5
      (first | rw [c5b0] | (simp only [i64_w, i32_w]; rw [c5b0]) | skip)
      by_cases c6 : (l2.length : Int) > 100
      · rw [if_pos c6] at H
        have c6b0 : decide (100 < (l2.length : Int)) = true := decide_eq_true c6
        have c6b1 : decide (100 < l2.length) = true := decide_eq_true (by omega)
        clear c6
        have H' := Aside0.mk H
        clear H
        go_wp2
        go_meet
        case rel => exact ⟨_, (true), q_7, H', ⟨by first | omega | exact Nat.le_refl _⟩, ⟨q_1⟩⟩
      · rw [if_neg c6] at H
        have c6b0 : decide (100 < (l2.length : Int)) = false := decide_eq_false c6
        have c6b1 : decide (100 < l2.length) = false := decide_eq_false (by omega)
        clear c6
        have H' := Aside0.mk H
        clear H
        go_wp2
        go_meet
        case rel => exact ⟨_, (decide (a1 > 1099511627776)), q_7, H', ⟨by first | omega | exact Nat.le_refl _⟩, ⟨q_1⟩⟩
  case rest =>
    clear HC4
    try clear c2; try clear p2; try clear c5; try clear c5b0; try clear c5b1; try clear c6; try clear c6b0; try clear c6b1
    obtain ⟨kq, x24_3, rfl, HA, HJ3, HB⟩ := hcut
    cases kq with
    | zero => exact absurd HA.out (by simp [diacriticlaw01_OctetReads.j0])
    | succ kj3 =>
      have H := HA.out
      clear HA
      simp only [diacriticlaw01_OctetReads.j0] at H
      by_cases c7 : x24_3 = true
      · subst c7
        have H1 : ((diacriticlaw01_awake.f kj3).bind fun t470 => (some t470)) = some r := by rw [if_pos rfl] at H; exact H
        clear H
        have H := H1
        clear H1
        replace H := Option.bind_eq_some_iff.mp H
        obtain ⟨t470, A80, H⟩ := H
        replace H : (some t470) = some r := H
        have A8 := Aside0.mk A80
        clear A80
        obtain rfl := Option.some.inj H
        go_wp2_with (first | ((with_reducible refine gate_callee (f := 12) rfl ?_); refine goesL_ (some 25) rfl rfl Try.func12 (by kernel_rfl) rfl #[] rfl q_10 ?_; (with_reducible refine (diacriticlaw01_awake.calls kj3  t470 _ A8.out).mono ?_); rintro e w9 ⟨rfl, hb⟩; refine ⟨_, rfl, ?_⟩; have n0_ := Aside0.mk (below_step q_1 hb); clear HB; have HB := n0_; clear n0_; (try clear hb); (try clear hb2); (try clear hk); (try clear hi)))
        go_ret
        exact ⟨q_9, q_1⟩
      · replace c7 := Bool.eq_false_iff.mpr c7
        subst c7
        have H1 : ((octet_Inner.f a0 a1).bind fun bt471 => (diacriticlaw01_OctetReads.l0 kj3 l2 (l2.length : Int) 0 bt471.1 bt471.2.1 bt471.2.2.1 bt471.2.2.2.1 bt471.2.2.2.2 a0 0 (mx a1 0) 0 0)) = some r := by rw [if_neg (show ¬ (false = true) by decide)] at H; exact H
        clear H
        have H := H1
        clear H1
        replace H := Option.bind_eq_some_iff.mp H
        obtain ⟨⟨t471, t472, t473, t474, t475⟩, A100, H⟩ := H
        replace H : (diacriticlaw01_OctetReads.l0 kj3 l2 (l2.length : Int) 0 t471 t472 t473 t474 t475 a0 0 (mx a1 0) 0 0) = some r := H
        have A10 := Aside0.mk A100
        clear A100
        obtain ⟨ji11, hji11⟩ : ∃ j_ : Int, (mx a1 0) = j_ := ⟨_, rfl⟩
        replace H : (diacriticlaw01_OctetReads.l0 kj3 l2 (l2.length : Int) 0 t471 t472 t473 t474 t475 a0 0 ji11 0 0) = some r := by first | (rw [hji11] at H; exact H) | (simp only [hji11] at H ⊢; exact H)
        (try rw [hji11] at A10)
        (try (have hji11l : 0 ≤ ji11 := by (rw [← hji11]; unfold mx; (repeat' split) <;> omega)))
        (try (have hji11m : 0 ≤ ji11 := by omega))
        have hji11_ : (if a1 < 0 then 0 else a1) = ji11 := hji11
        have H' := Aside0.mk H
        clear H
        go_wp2_with (first | ((with_reducible refine gate_callee (f := 33) rfl ?_); refine goesL_ (some 28) rfl rfl Try.func33 (by kernel_rfl) rfl #[.string a0, .int .i64 a1] rfl q_10 ?_; (with_reducible refine (octet_Inner.calls a0 a1 t471 t472 t473 t474 t475 w _ ?side1 A10.out).mono ?_); (case side1 => repeat (first | (with_reducible first | exact HB.out | apply below_alloc | apply pw_below_drewN | apply below_drew1) | exact HB.out)); rintro e w12 ⟨g476, rfl, hi, hb, hb2⟩; refine ⟨_, rfl, ?_⟩; have n0_ := Aside0.mk (hb); have n1_ := Aside0.mk (hi); clear HB; have HB := n0_; have HI476 := n1_; clear n0_ n1_; (try clear hb); (try clear hb2); (try clear hk); (try clear hi)) | ((with_reducible refine gate_dst (N := 8) rfl ?_); (try (refine gate_guard (by rfl) ?_; dsimp only)); refine box_event ?hg (N := 8) ?hd (cs := #[.string (⟨#[]⟩ : ByteArray), .int .i64 0, .int .i64 0, .int .i64 0, .int .i64 0]) (t := 54) ?hr ?_; (case hd => rfl); (case hg => rfl); (case hr => first | (go_simp; done) | (go_simp; rfl)); intro gb477 hg w13 hbox hb; have n0_ := Aside0.mk (IsS68.below (by repeat (first | (with_reducible first | exact HI476.out | apply IsS68.alloc | apply IsS68.drewN | apply IsS68.drew | apply IsS68.set_0 | apply IsS68.set_1 | apply IsS68.set_2 | apply IsS68.set_3 | apply IsS68.set_4) | exact HI476.out)) hb); have n1_ := Aside0.mk (below_step q_79 hb); have n2_ := Aside0.mk (hbox); have n3_ := Aside0.mk ((by rw [hg]; exact (below_size q_79) : w.heap.size ≤ gb477)); have n4_ := Aside0.mk ((by rw [hg]; exact (below_size q_79) : w.heap.size ≤ gb477)); have n5_ := Aside0.mk ((by rw [hg]; exact Nat.ne_of_lt (IsS68.lt (show IsS68 w _ g476 t471 t472 t473 t474 t475 from by repeat (first | (with_reducible first | exact HI476.out | apply IsS68.alloc | apply IsS68.drewN | apply IsS68.drew | apply IsS68.set_0 | apply IsS68.set_1 | apply IsS68.set_2 | apply IsS68.set_3 | apply IsS68.set_4) | exact HI476.out))) : g476 ≠ gb477)); have n6_ := Aside0.mk ((by rw [hg]; exact Nat.ne_of_gt (IsS68.lt (show IsS68 w _ g476 t471 t472 t473 t474 t475 from by repeat (first | (with_reducible first | exact HI476.out | apply IsS68.alloc | apply IsS68.drewN | apply IsS68.drew | apply IsS68.set_0 | apply IsS68.set_1 | apply IsS68.set_2 | apply IsS68.set_3 | apply IsS68.set_4) | exact HI476.out))) : gb477 ≠ g476)); clear HI476; clear HB; have HI476 := n0_; have HB := n1_; have BK477 := n2_; have GW477 := n3_; have GE477 := n4_; have NB476_477 := n5_; have NB477_476 := n6_; clear n0_ n1_ n2_ n3_ n4_ n5_ n6_; clear hb hbox hg; have hnb14 := NB477_476.out; have hnc14 := NB476_477.out; obtain ⟨hcz15_0, hcz15_1, hcz15_2, hcz15_3, hcz15_4, hfz15_0, hfz15_1, hfz15_2, hfz15_3, hfz15_4⟩ := cells5_ BK477.out))
        go_loopg [35] kj3 (fun kq v35 w' => ∃ (x35_2 : Int) (x477000_2 : ByteArray) (x477001_2 : Int) (x477002_2 : Int) (x477003_2 : Int) (x477004_2 : Int) (x478000_2 : ByteArray) (x478001_2 : Int) (x478002_2 : Int) (x478003_2 : Int) (x478004_2 : Int), v35 = .int .i64 x35_2 ∧ Aside0 (diacriticlaw01_OctetReads.l0 kq l2 (l2.length : Int) x35_2 x477000_2 x477001_2 x477002_2 x477003_2 x477004_2 x478000_2 x478001_2 x478002_2 x478003_2 x478004_2 = some r) ∧ Aside0 (kq ≤ kj3) ∧ Aside0 (w'.heap[gb477]? = some (.cells #[.string x478000_2, .int .i64 x478001_2, .int .i64 x478002_2, .int .i64 x478003_2, .int .i64 x478004_2] 54 (0, 0))) ∧ Aside0 (IsS68 w w' g476 x477000_2 x477001_2 x477002_2 x477003_2 x477004_2) ∧ Aside0 (Below w.heap.size w w'))
        case atStart => exact ⟨(0), (t471), (t472), (t473), (t474), (t475), (a0), (0), (ji11), (0), (0), q_7, H', ⟨Nat.le_refl _⟩, ⟨by (with_reducible repeat (first | refine blk_drewN ?_ _ | refine blk_drew ?_ | refine blk_alloc ?_ _)); refine blk_put (cs := #[.string a0, .int .i64 0, .int .i64 ji11, .int .i64 0, .int .i64 0]) ?_ 4 _ rfl; (with_reducible repeat (first | refine blk_drewN ?_ _ | refine blk_drew ?_ | refine blk_alloc ?_ _)); refine blk_put (cs := #[.string a0, .int .i64 0, .int .i64 ji11, .int .i64 0, .int .i64 0]) ?_ 3 _ rfl; (with_reducible repeat (first | refine blk_drewN ?_ _ | refine blk_drew ?_ | refine blk_alloc ?_ _)); refine blk_put (cs := #[.string a0, .int .i64 0, .int .i64 0, .int .i64 0, .int .i64 0]) ?_ 2 _ rfl; (with_reducible repeat (first | refine blk_drewN ?_ _ | refine blk_drew ?_ | refine blk_alloc ?_ _)); refine blk_put (cs := #[.string a0, .int .i64 0, .int .i64 0, .int .i64 0, .int .i64 0]) ?_ 1 _ rfl; (with_reducible repeat (first | refine blk_drewN ?_ _ | refine blk_drew ?_ | refine blk_alloc ?_ _)); refine blk_put (cs := #[.string (⟨#[]⟩ : ByteArray), .int .i64 0, .int .i64 0, .int .i64 0, .int .i64 0]) ?_ 0 _ rfl; (with_reducible repeat (first | refine blk_drewN ?_ _ | refine blk_drew ?_ | refine blk_alloc ?_ _)); exact BK477.out⟩, ⟨q_81⟩, ⟨q_82⟩⟩
        case round =>
          clear H'
          try clear c1; try clear c2; try clear p2; try clear c3; try clear c5; try clear c5b0; try clear c5b1; try clear c6; try clear c6b0; try clear c6b1; try clear c7; try clear c8; try clear c12; try clear c14; try clear hcz15_0; try clear hcz15_1; try clear hcz15_2; try clear hcz15_3; try clear hcz15_4; try clear hfz15_0; try clear hfz15_1; try clear hfz15_2; try clear hfz15_3; try clear hfz15_4; try clear p2
          obtain ⟨x35_2, x477000_2, x477001_2, x477002_2, x477003_2, x477004_2, x478000_2, x478001_2, x478002_2, x478003_2, x478004_2, rfl, HA, HK2, BK477, HI476, HB⟩ := hrel
          cases gk with
          | zero => exact absurd HA.out (by simp [diacriticlaw01_OctetReads.l0])
          | succ k2 =>
            have H := HA.out
            clear HA
            simp only [diacriticlaw01_OctetReads.l0] at H
            by_cases c16 : x35_2 < (l2.length : Int)
            · rw [if_pos c16] at H
              have c16b0 : decide (x35_2 < (l2.length : Int)) = true := decide_eq_true c16
              clear c16
              by_cases c17 : 0 ≤ x35_2
              · rw [if_pos c17] at H
                have c17b0 : decide (0 ≤ x35_2) = true := decide_eq_true c17
                clear c17
                by_cases c18 : x35_2 < (l2.length : Int)
                · rw [if_pos c18] at H
                  have c18b0 : decide (x35_2 < (l2.length : Int)) = true := decide_eq_true c18
                  clear c18
                  by_cases c19 : (((rd_T56 l2 x35_2).f3).size : Int) > 200
                  · rw [if_pos c19] at H
                    have c19b0 : decide (200 < (((rd_T56 l2 x35_2).f3).size : Int)) = true := decide_eq_true c19
                    have c19b1 : decide (200 < ((rd_T56 l2 x35_2).f3).size) = true := decide_eq_true (by omega)
                    clear c19
                    replace H := Option.bind_eq_some_iff.mp H
                    obtain ⟨t481, A200, H⟩ := H
                    replace H : (some t481) = some r := H
                    have A20 := Aside0.mk A200
                    clear A200
                    obtain rfl := Option.some.inj H
                    have p479 : 0 ≤ (x35_2 : Int) := of_decide_eq_true q_12
                    have q479 : x35_2 < (l2.length : Int) := of_decide_eq_true q_12
                    obtain ⟨ad479, e479, hx479_0, hx479_1, hx479_2, hx479_3⟩ := at_T56 HR2.out x35_2 p479 q479
                    cases e479
                    replace hx479_0 := (HB.out.cell (World.block_lt_of_cell? w _ hx479_0)).trans hx479_0
                    replace hx479_1 := (HB.out.cell (World.block_lt_of_cell? w _ hx479_1)).trans hx479_1
                    replace hx479_2 := (HB.out.cell (World.block_lt_of_cell? w _ hx479_2)).trans hx479_2
                    replace hx479_3 := (HB.out.cell (World.block_lt_of_cell? w _ hx479_3)).trans hx479_3
                    replace p479 := eq_true p479
                    replace q479 := eq_true q479
                    go_wp2_with (first | ((with_reducible refine gate_dst (N := 10) rfl ?_); (try (refine gate_guard (by rfl) ?_; dsimp only)); refine box_event ?hg (N := 10) ?hd (cs := #[.int .i64 0, .int .i64 0, .int .i64 0, .string (⟨#[]⟩ : ByteArray)]) (t := 56) ?hr ?_; (case hd => rfl); (case hg => rfl); (case hr => first | (go_simp; done) | (go_simp; rfl)); intro gb480 hg w21 hbox hb; have n0_ := Aside0.mk (blk_below (g := gb477) (o := .cells #[.string x478000_2, .int .i64 x478001_2, .int .i64 x478002_2, .int .i64 x478003_2, .int .i64 x478004_2] 54 (0, 0)) q_80 hb); have n1_ := Aside0.mk (IsS68.below q_81 hb); have n2_ := Aside0.mk (below_step q_82 hb); have n3_ := Aside0.mk (hbox); have n4_ := Aside0.mk ((by rw [hg]; exact (below_size q_82) : w.heap.size ≤ gb480)); have n5_ := Aside0.mk ((by rw [hg]; exact (below_size q_82) : w.heap.size ≤ gb480)); have n6_ := Aside0.mk ((q_117 : gb477 ≠ gb480)); have n7_ := Aside0.mk ((q_118 : gb480 ≠ gb477)); have n8_ := Aside0.mk ((q_83 : g476 ≠ gb480)); have n9_ := Aside0.mk ((q_84 : gb480 ≠ g476)); clear BK477; clear HI476; clear HB; have BK477 := n0_; have HI476 := n1_; have HB := n2_; have BK480 := n3_; have GW480 := n4_; have GE480 := n5_; have NB477_480 := n6_; have NB480_477 := n7_; have NB476_480 := n8_; have NB480_476 := n9_; clear n0_ n1_ n2_ n3_ n4_ n5_ n6_ n7_ n8_ n9_; clear hb hbox hg; have hnb22 := NB480_477.out; have hnc22 := NB477_480.out; have hnb23 := NB480_476.out; have hnc23 := NB476_480.out; obtain ⟨hcz24_0, hcz24_1, hcz24_2, hcz24_3, hfz24_0, hfz24_1, hfz24_2, hfz24_3⟩ := cells4_ BK480.out) | ((with_reducible refine gate_callee (f := 12) rfl ?_); refine goesL_ (some 43) rfl rfl Try.func12 (by kernel_rfl) rfl #[] rfl q_10 ?_; (with_reducible refine (diacriticlaw01_awake.calls k2  t481 _ A20.out).mono ?_); rintro e w25 ⟨rfl, hb⟩; refine ⟨_, rfl, ?_⟩; have n0_ := Aside0.mk (blk_below (g := gb477) (o := .cells #[.string x478000_2, .int .i64 x478001_2, .int .i64 x478002_2, .int .i64 x478003_2, .int .i64 x478004_2] 54 (0, 0)) q_85 hb); have n1_ := Aside0.mk (IsS68.below (show IsS68 w ((((w21.setCell ⟨gb480, 0, none⟩ (.int .i64 ((rd_T56 l2 x35_2).f0))).setCell ⟨gb480, 1, none⟩ (.int .i64 ((rd_T56 l2 x35_2).f1))).setCell ⟨gb480, 2, none⟩ (.int .i64 ((rd_T56 l2 x35_2).f2))).setCell ⟨gb480, 3, none⟩ (.string ((rd_T56 l2 x35_2).f3))) g476 x477000_2 x477001_2 x477002_2 x477003_2 x477004_2 from by repeat (first | (with_reducible first | exact HI476.out | apply IsS68.alloc | apply IsS68.drewN | apply IsS68.drew | apply IsS68.set_0 | apply IsS68.set_1 | apply IsS68.set_2 | apply IsS68.set_3 | apply IsS68.set_4 | refine IsS68.far ?_ NB476_477.out _ | apply IsS68.far (hne := NB476_477.out) | refine IsS68.far ?_ NB476_480.out _ | apply IsS68.far (hne := NB476_480.out)) | exact HI476.out)) hb); have n2_ := Aside0.mk (blk_below (g := gb480) (o := .cells #[.int .i64 ((rd_T56 l2 x35_2).f0), .int .i64 ((rd_T56 l2 x35_2).f1), .int .i64 ((rd_T56 l2 x35_2).f2), .string ((rd_T56 l2 x35_2).f3)] 56 (0, 0)) q_86 hb); have n3_ := Aside0.mk (below_step q_87 hb); clear BK477; clear HI476; clear BK480; clear HB; have BK477 := n0_; have HI476 := n1_; have BK480 := n2_; have HB := n3_; clear n0_ n1_ n2_ n3_; (try clear hb); (try clear hb2); (try clear hk); (try clear hi)))
                    go_ret
                    exact ⟨q_95, q_87⟩
                  · rw [if_neg c19] at H
                    have c19b0 : decide (200 < (((rd_T56 l2 x35_2).f3).size : Int)) = false := decide_eq_false c19
                    have c19b1 : decide (200 < ((rd_T56 l2 x35_2).f3).size) = false := decide_eq_false (by omega)
                    clear c19
                    replace H := Option.bind_eq_some_iff.mp H
                    obtain ⟨⟨t482, t483, t484, t485, t486, t487, t488, t489, t490, t491, t492⟩, A260, H⟩ := H
                    replace H : (if t487 = true then ((octet_In_Left.f t488 t489 t490 t491 t492).bind fun bt494 => ((diacriticref01_Left.f t482 t483 t484 t485 t486).bind fun t500 => (if bt494.1 = t500 then ((octet_In_At.f bt494.2.1 bt494.2.2.1 bt494.2.2.2.1 bt494.2.2.2.2.1 bt494.2.2.2.2.2).bind fun bt501 => (if bt501.1 = (wrap64 (t484 + t483)) then ((octet_In_Fault.f bt501.2.1 bt501.2.2.1 bt501.2.2.2.1 bt501.2.2.2.2.1 bt501.2.2.2.2.2).bind fun bt507 => (if (!(bt507.1 == t485) || (!(bt507.2.1 == t486))) = true then (some false) else (diacriticlaw01_OctetReads.l0 k2 l2 (l2.length : Int) (wrap64 (x35_2 + 1)) bt507.2.2.1 bt507.2.2.2.1 bt507.2.2.2.2.1 bt507.2.2.2.2.2.1 bt507.2.2.2.2.2.2 t482 t483 t484 t485 t486))) else (some false))) else (some false)))) else (some false)) = some r := H
                    have A26 := Aside0.mk A260
                    clear A260
                    by_cases c27 : t487 = true
                    · subst c27
                      have H1 : ((octet_In_Left.f t488 t489 t490 t491 t492).bind fun bt494 => ((diacriticref01_Left.f t482 t483 t484 t485 t486).bind fun t500 => (if bt494.1 = t500 then ((octet_In_At.f bt494.2.1 bt494.2.2.1 bt494.2.2.2.1 bt494.2.2.2.2.1 bt494.2.2.2.2.2).bind fun bt501 => (if bt501.1 = (wrap64 (t484 + t483)) then ((octet_In_Fault.f bt501.2.1 bt501.2.2.1 bt501.2.2.2.1 bt501.2.2.2.2.1 bt501.2.2.2.2.2).bind fun bt507 => (if (!(bt507.1 == t485) || (!(bt507.2.1 == t486))) = true then (some false) else (diacriticlaw01_OctetReads.l0 k2 l2 (l2.length : Int) (wrap64 (x35_2 + 1)) bt507.2.2.1 bt507.2.2.2.1 bt507.2.2.2.2.1 bt507.2.2.2.2.2.1 bt507.2.2.2.2.2.2 t482 t483 t484 t485 t486))) else (some false))) else (some false)))) = some r := by rw [if_pos rfl] at H; exact H
                      clear H
                      have H := H1
                      clear H1
                      replace H := Option.bind_eq_some_iff.mp H
                      obtain ⟨⟨t494, t495, t496, t497, t498, t499⟩, A280, H⟩ := H
                      replace H : ((diacriticref01_Left.f t482 t483 t484 t485 t486).bind fun t500 => (if t494 = t500 then ((octet_In_At.f t495 t496 t497 t498 t499).bind fun bt501 => (if bt501.1 = (wrap64 (t484 + t483)) then ((octet_In_Fault.f bt501.2.1 bt501.2.2.1 bt501.2.2.2.1 bt501.2.2.2.2.1 bt501.2.2.2.2.2).bind fun bt507 => (if (!(bt507.1 == t485) || (!(bt507.2.1 == t486))) = true then (some false) else (diacriticlaw01_OctetReads.l0 k2 l2 (l2.length : Int) (wrap64 (x35_2 + 1)) bt507.2.2.1 bt507.2.2.2.1 bt507.2.2.2.2.1 bt507.2.2.2.2.2.1 bt507.2.2.2.2.2.2 t482 t483 t484 t485 t486))) else (some false))) else (some false))) = some r := H
                      have A28 := Aside0.mk A280
                      clear A280
                      replace H := Option.bind_eq_some_iff.mp H
                      obtain ⟨t500, A290, H⟩ := H
                      replace H : (if t494 = t500 then ((octet_In_At.f t495 t496 t497 t498 t499).bind fun bt501 => (if bt501.1 = (wrap64 (t484 + t483)) then ((octet_In_Fault.f bt501.2.1 bt501.2.2.1 bt501.2.2.2.1 bt501.2.2.2.2.1 bt501.2.2.2.2.2).bind fun bt507 => (if (!(bt507.1 == t485) || (!(bt507.2.1 == t486))) = true then (some false) else (diacriticlaw01_OctetReads.l0 k2 l2 (l2.length : Int) (wrap64 (x35_2 + 1)) bt507.2.2.1 bt507.2.2.2.1 bt507.2.2.2.2.1 bt507.2.2.2.2.2.1 bt507.2.2.2.2.2.2 t482 t483 t484 t485 t486))) else (some false))) else (some false)) = some r := H
                      have A29 := Aside0.mk A290
                      clear A290
                      by_cases c30 : t494 = t500
                      · rw [if_pos c30] at H
                        have c30b0 : (t494 == t500) = true := beq_iff_eq.mpr c30
                        have c30b1 : (t494 != t500) = false := bne_eq_false_iff_eq.mpr c30
                        clear c30
                        replace H := Option.bind_eq_some_iff.mp H
                        obtain ⟨⟨t501, t502, t503, t504, t505, t506⟩, A310, H⟩ := H
                        replace H : (if t501 = (wrap64 (t484 + t483)) then ((octet_In_Fault.f t502 t503 t504 t505 t506).bind fun bt507 => (if (!(bt507.1 == t485) || (!(bt507.2.1 == t486))) = true then (some false) else (diacriticlaw01_OctetReads.l0 k2 l2 (l2.length : Int) (wrap64 (x35_2 + 1)) bt507.2.2.1 bt507.2.2.2.1 bt507.2.2.2.2.1 bt507.2.2.2.2.2.1 bt507.2.2.2.2.2.2 t482 t483 t484 t485 t486))) else (some false)) = some r := H
                        have A31 := Aside0.mk A310
                        clear A310
                        by_cases c32 : t501 = (wrap64 (t484 + t483))
                        · rw [if_pos c32] at H
                          have c32b0 : (t501 == (wrap64 (t484 + t483))) = true := beq_iff_eq.mpr c32
                          have c32b1 : (t501 != (wrap64 (t484 + t483))) = false := bne_eq_false_iff_eq.mpr c32
                          clear c32
                          replace H := Option.bind_eq_some_iff.mp H
                          obtain ⟨⟨t507, t508, t509, t510, t511, t512, t513⟩, A330, H⟩ := H
                          replace H : (if (!(t507 == t485) || (!(t508 == t486))) = true then (some false) else (diacriticlaw01_OctetReads.l0 k2 l2 (l2.length : Int) (wrap64 (x35_2 + 1)) t509 t510 t511 t512 t513 t482 t483 t484 t485 t486)) = some r := H
                          have A33 := Aside0.mk A330
                          clear A330
                          by_cases c34 : (!(t507 == t485) || (!(t508 == t486))) = true
                          · rw [if_pos c34] at H
                            have c34b0 : (!(t507 == t485) || (!(t508 == t486))) = true := c34
                            clear c34
                            obtain rfl := Option.some.inj H
                            have p479 : 0 ≤ (x35_2 : Int) := of_decide_eq_true q_12
                            have q479 : x35_2 < (l2.length : Int) := of_decide_eq_true q_12
                            obtain ⟨ad479, e479, hx479_0, hx479_1, hx479_2, hx479_3⟩ := at_T56 HR2.out x35_2 p479 q479
                            cases e479
                            replace hx479_0 := (HB.out.cell (World.block_lt_of_cell? w _ hx479_0)).trans hx479_0
                            replace hx479_1 := (HB.out.cell (World.block_lt_of_cell? w _ hx479_1)).trans hx479_1
                            replace hx479_2 := (HB.out.cell (World.block_lt_of_cell? w _ hx479_2)).trans hx479_2
                            replace hx479_3 := (HB.out.cell (World.block_lt_of_cell? w _ hx479_3)).trans hx479_3
                            replace p479 := eq_true p479
                            replace q479 := eq_true q479
                            try go_wp2_with (first | ((with_reducible refine gate_dst (N := 10) rfl ?_); (try (refine gate_guard (by rfl) ?_; dsimp only)); refine box_event ?hg (N := 10) ?hd (cs := #[.int .i64 0, .int .i64 0, .int .i64 0, .string (⟨#[]⟩ : ByteArray)]) (t := 56) ?hr ?_; (case hd => rfl); (case hg => rfl); (case hr => first | (go_simp; done) | (go_simp; rfl)); intro gb480 hg w35 hbox hb; have n0_ := Aside0.mk (blk_below (g := gb477) (o := .cells #[.string x478000_2, .int .i64 x478001_2, .int .i64 x478002_2, .int .i64 x478003_2, .int .i64 x478004_2] 54 (0, 0)) q_80 hb); have n1_ := Aside0.mk (IsS68.below q_81 hb); have n2_ := Aside0.mk (below_step q_82 hb); have n3_ := Aside0.mk (hbox); have n4_ := Aside0.mk ((by rw [hg]; exact (below_size q_82) : w.heap.size ≤ gb480)); have n5_ := Aside0.mk ((by rw [hg]; exact (below_size q_82) : w.heap.size ≤ gb480)); have n6_ := Aside0.mk ((q_117 : gb477 ≠ gb480)); have n7_ := Aside0.mk ((q_118 : gb480 ≠ gb477)); have n8_ := Aside0.mk ((q_83 : g476 ≠ gb480)); have n9_ := Aside0.mk ((q_84 : gb480 ≠ g476)); clear BK477; clear HI476; clear HB; have BK477 := n0_; have HI476 := n1_; have HB := n2_; have BK480 := n3_; have GW480 := n4_; have GE480 := n5_; have NB477_480 := n6_; have NB480_477 := n7_; have NB476_480 := n8_; have NB480_476 := n9_; clear n0_ n1_ n2_ n3_ n4_ n5_ n6_ n7_ n8_ n9_; clear hb hbox hg; have hnb36 := NB480_477.out; have hnc36 := NB477_480.out; have hnb37 := NB480_476.out; have hnc37 := NB476_480.out; obtain ⟨hcz38_0, hcz38_1, hcz38_2, hcz38_3, hfz38_0, hfz38_1, hfz38_2, hfz38_3⟩ := cells4_ BK480.out; have hnb39 := NB477_476.out; have hnc39 := NB476_477.out; obtain ⟨hcz40_0, hcz40_1, hcz40_2, hcz40_3, hcz40_4, hfz40_0, hfz40_1, hfz40_2, hfz40_3, hfz40_4⟩ := cells5_ BK477.out) | ((with_reducible refine gate_callee (f := 34) rfl ?_); refine goesL_ (some 48) rfl rfl Try.func34 (by kernel_rfl) rfl #[.pointer (some ⟨g476, 0, none⟩), .agg #[.string x478000_2, .int .i64 x478001_2, .int .i64 x478002_2, .int .i64 x478003_2, .int .i64 x478004_2], .agg #[.int .i64 ((rd_T56 l2 x35_2).f0), .int .i64 ((rd_T56 l2 x35_2).f1), .int .i64 ((rd_T56 l2 x35_2).f2), .string ((rd_T56 l2 x35_2).f3)]] rfl q_10 ?_; (with_reducible refine (diacriticlaw01_do.calls k2 g476 x477000_2 x477001_2 x477002_2 x477003_2 x477004_2 x478000_2 x478001_2 x478002_2 x478003_2 x478004_2 ((rd_T56 l2 x35_2).f0) ((rd_T56 l2 x35_2).f1) ((rd_T56 l2 x35_2).f2) ((rd_T56 l2 x35_2).f3) t482 t483 t484 t485 t486 true t488 t489 t490 t491 t492 w _ ?side1 ?side2 A26.out).mono ?_); (case side1 => repeat (first | (with_reducible first | exact HI476.out | apply IsS68.alloc | apply IsS68.drewN | apply IsS68.drew | apply IsS68.set_0 | apply IsS68.set_1 | apply IsS68.set_2 | apply IsS68.set_3 | apply IsS68.set_4 | refine IsS68.far ?_ NB476_477.out _ | apply IsS68.far (hne := NB476_477.out) | refine IsS68.far ?_ NB476_480.out _ | apply IsS68.far (hne := NB476_480.out)) | exact HI476.out)); (case side2 => repeat (first | (with_reducible first | exact HB.out | apply below_alloc | apply pw_below_drewN | apply below_drew1 | refine below_set ?_ (IsS68.ge HI476.out) | refine below_set ?_ GE477.out | refine below_set ?_ GE480.out) | exact HB.out)); rintro e w41 ⟨rfl, hi, hb, hk⟩; refine ⟨_, rfl, ?_⟩; have n0_ := Aside0.mk (KeepBut.blk hk (g' := gb477) (o := .cells #[.string x478000_2, .int .i64 x478001_2, .int .i64 x478002_2, .int .i64 x478003_2, .int .i64 x478004_2] 54 (0, 0)) q_85 NB477_476.out (by simp)); have n1_ := Aside0.mk (KeepBut.blk hk (g' := gb480) (o := .cells #[.int .i64 ((rd_T56 l2 x35_2).f0), .int .i64 ((rd_T56 l2 x35_2).f1), .int .i64 ((rd_T56 l2 x35_2).f2), .string ((rd_T56 l2 x35_2).f3)] 56 (0, 0)) q_86 NB480_476.out (by simp)); have n2_ := Aside0.mk (hb); have n3_ := Aside0.mk (hi); clear BK477; clear BK480; clear HB; clear HI476; have BK477 := n0_; have BK480 := n1_; have HB := n2_; have HI476 := n3_; clear n0_ n1_ n2_ n3_; (try clear hb); (try clear hb2); (try clear hk); (try clear hi)) | ((with_reducible refine gate_dst (N := 11) rfl ?_); (try (refine gate_guard (by rfl) ?_; dsimp only)); refine box_event ?hg (N := 11) ?hd (cs := #[.string (⟨#[]⟩ : ByteArray), .int .i64 0, .int .i64 0, .int .i64 0, .int .i64 0]) (t := 54) ?hr ?_; (case hd => rfl); (case hg => rfl); (case hr => first | (go_simp; done) | (go_simp; rfl)); intro gb493 hg w42 hbox hb; have n0_ := Aside0.mk (blk_below (g := gb477) (o := .cells #[.string x478000_2, .int .i64 x478001_2, .int .i64 x478002_2, .int .i64 x478003_2, .int .i64 x478004_2] 54 (0, 0)) q_80 hb); have n1_ := Aside0.mk (IsS68.below q_88 hb); have n2_ := Aside0.mk (blk_below (g := gb480) (o := .cells #[.int .i64 ((rd_T56 l2 x35_2).f0), .int .i64 ((rd_T56 l2 x35_2).f1), .int .i64 ((rd_T56 l2 x35_2).f2), .string ((rd_T56 l2 x35_2).f3)] 56 (0, 0)) q_89 hb); have n3_ := Aside0.mk (below_step q_87 hb); have n4_ := Aside0.mk (hbox); have n5_ := Aside0.mk ((by rw [hg]; exact (below_size q_87) : w.heap.size ≤ gb493)); have n6_ := Aside0.mk ((by rw [hg]; exact (below_size q_87) : w.heap.size ≤ gb493)); have n7_ := Aside0.mk ((q_117 : gb477 ≠ gb493)); have n8_ := Aside0.mk ((q_118 : gb493 ≠ gb477)); have n9_ := Aside0.mk ((q_119 : gb480 ≠ gb493)); have n10_ := Aside0.mk ((q_120 : gb493 ≠ gb480)); have n11_ := Aside0.mk ((q_90 : g476 ≠ gb493)); have n12_ := Aside0.mk ((q_91 : gb493 ≠ g476)); clear BK477; clear HI476; clear BK480; clear HB; have BK477 := n0_; have HI476 := n1_; have BK480 := n2_; have HB := n3_; have BK493 := n4_; have GW493 := n5_; have GE493 := n6_; have NB477_493 := n7_; have NB493_477 := n8_; have NB480_493 := n9_; have NB493_480 := n10_; have NB476_493 := n11_; have NB493_476 := n12_; clear n0_ n1_ n2_ n3_ n4_ n5_ n6_ n7_ n8_ n9_ n10_ n11_ n12_; clear hb hbox hg; have hnb43 := NB493_477.out; have hnc43 := NB477_493.out; have hnb44 := NB493_480.out; have hnc44 := NB480_493.out; have hnb45 := NB493_476.out; have hnc45 := NB476_493.out; obtain ⟨hcz46_0, hcz46_1, hcz46_2, hcz46_3, hcz46_4, hfz46_0, hfz46_1, hfz46_2, hfz46_3, hfz46_4⟩ := cells5_ BK493.out; obtain ⟨hcz47_0, hcz47_1, hcz47_2, hcz47_3, hcz47_4, hfz47_0, hfz47_1, hfz47_2, hfz47_3, hfz47_4⟩ := cells5_ BK477.out))
                            have n0_ : Aside0 (((((((((((w42.setCell ⟨gb493, 0, none⟩ (.string t482)).setCell ⟨gb493, 1, none⟩ (.int .i64 t483)).setCell ⟨gb493, 2, none⟩ (.int .i64 t484)).setCell ⟨gb493, 3, none⟩ (.int .i64 t485)).setCell ⟨gb493, 4, none⟩ (.int .i64 t486)).setCell ⟨gb477, 0, none⟩ (.string t482)).setCell ⟨gb477, 1, none⟩ (.int .i64 t483)).setCell ⟨gb477, 2, none⟩ (.int .i64 t484)).setCell ⟨gb477, 3, none⟩ (.int .i64 t485)).setCell ⟨gb477, 4, none⟩ (.int .i64 t486)).heap[gb477]? = some (.cells #[.string t482, .int .i64 t483, .int .i64 t484, .int .i64 t485, .int .i64 t486] 54 (0, 0))) := ⟨q_96⟩
                            have n1_ : Aside0 (((((((((((w42.setCell ⟨gb493, 0, none⟩ (.string t482)).setCell ⟨gb493, 1, none⟩ (.int .i64 t483)).setCell ⟨gb493, 2, none⟩ (.int .i64 t484)).setCell ⟨gb493, 3, none⟩ (.int .i64 t485)).setCell ⟨gb493, 4, none⟩ (.int .i64 t486)).setCell ⟨gb477, 0, none⟩ (.string t482)).setCell ⟨gb477, 1, none⟩ (.int .i64 t483)).setCell ⟨gb477, 2, none⟩ (.int .i64 t484)).setCell ⟨gb477, 3, none⟩ (.int .i64 t485)).setCell ⟨gb477, 4, none⟩ (.int .i64 t486)).heap[gb480]? = some (.cells #[.int .i64 ((rd_T56 l2 x35_2).f0), .int .i64 ((rd_T56 l2 x35_2).f1), .int .i64 ((rd_T56 l2 x35_2).f2), .string ((rd_T56 l2 x35_2).f3)] 56 (0, 0))) := ⟨q_97⟩
                            have n2_ : Aside0 (((((((((((w42.setCell ⟨gb493, 0, none⟩ (.string t482)).setCell ⟨gb493, 1, none⟩ (.int .i64 t483)).setCell ⟨gb493, 2, none⟩ (.int .i64 t484)).setCell ⟨gb493, 3, none⟩ (.int .i64 t485)).setCell ⟨gb493, 4, none⟩ (.int .i64 t486)).setCell ⟨gb477, 0, none⟩ (.string t482)).setCell ⟨gb477, 1, none⟩ (.int .i64 t483)).setCell ⟨gb477, 2, none⟩ (.int .i64 t484)).setCell ⟨gb477, 3, none⟩ (.int .i64 t485)).setCell ⟨gb477, 4, none⟩ (.int .i64 t486)).heap[gb493]? = some (.cells #[.string t482, .int .i64 t483, .int .i64 t484, .int .i64 t485, .int .i64 t486] 54 (0, 0))) := ⟨q_98⟩
                            have n3_ : Aside0 (IsS68 w ((((((((((w42.setCell ⟨gb493, 0, none⟩ (.string t482)).setCell ⟨gb493, 1, none⟩ (.int .i64 t483)).setCell ⟨gb493, 2, none⟩ (.int .i64 t484)).setCell ⟨gb493, 3, none⟩ (.int .i64 t485)).setCell ⟨gb493, 4, none⟩ (.int .i64 t486)).setCell ⟨gb477, 0, none⟩ (.string t482)).setCell ⟨gb477, 1, none⟩ (.int .i64 t483)).setCell ⟨gb477, 2, none⟩ (.int .i64 t484)).setCell ⟨gb477, 3, none⟩ (.int .i64 t485)).setCell ⟨gb477, 4, none⟩ (.int .i64 t486)) g476 t488 t489 t490 t491 t492) := ⟨q_93⟩
                            have n4_ : Aside0 (Below w.heap.size w ((((((((((w42.setCell ⟨gb493, 0, none⟩ (.string t482)).setCell ⟨gb493, 1, none⟩ (.int .i64 t483)).setCell ⟨gb493, 2, none⟩ (.int .i64 t484)).setCell ⟨gb493, 3, none⟩ (.int .i64 t485)).setCell ⟨gb493, 4, none⟩ (.int .i64 t486)).setCell ⟨gb477, 0, none⟩ (.string t482)).setCell ⟨gb477, 1, none⟩ (.int .i64 t483)).setCell ⟨gb477, 2, none⟩ (.int .i64 t484)).setCell ⟨gb477, 3, none⟩ (.int .i64 t485)).setCell ⟨gb477, 4, none⟩ (.int .i64 t486))) := ⟨q_94⟩
                            (try clear BK477)
                            (try clear BK480)
                            (try clear BK493)
                            (try clear HI476)
                            (try clear HB)
                            generalize ((((((((((w42.setCell ⟨gb493, 0, none⟩ (.string t482)).setCell ⟨gb493, 1, none⟩ (.int .i64 t483)).setCell ⟨gb493, 2, none⟩ (.int .i64 t484)).setCell ⟨gb493, 3, none⟩ (.int .i64 t485)).setCell ⟨gb493, 4, none⟩ (.int .i64 t486)).setCell ⟨gb477, 0, none⟩ (.string t482)).setCell ⟨gb477, 1, none⟩ (.int .i64 t483)).setCell ⟨gb477, 2, none⟩ (.int .i64 t484)).setCell ⟨gb477, 3, none⟩ (.int .i64 t485)).setCell ⟨gb477, 4, none⟩ (.int .i64 t486)) = w48 at n0_ n1_ n2_ n3_ n4_ ⊢
                            have BK477 := n0_
                            have BK480 := n1_
                            have BK493 := n2_
                            have HI476 := n3_
                            have HB := n4_
                            clear n0_ n1_ n2_ n3_ n4_
                            have n0_ := Aside0.mk (blk_drew BK477.out)
                            have n1_ := Aside0.mk (blk_drew BK480.out)
                            have n2_ := Aside0.mk (blk_drew BK493.out)
                            have n3_ := Aside0.mk (IsS68.drew HI476.out)
                            have n4_ := Aside0.mk (below_drew1 HB.out)
                            clear BK477
                            clear BK480
                            clear BK493
                            clear HI476
                            clear HB
                            have BK477 := n0_
                            have BK480 := n1_
                            have BK493 := n2_
                            have HI476 := n3_
                            have HB := n4_
                            clear n0_ n1_ n2_ n3_ n4_
                            refine start_ (n := 29) (S := fun w' => w'.cell? ⟨gb477, 0, none⟩ = some (.string t482) ∧ w'.cell? ⟨gb477, 1, none⟩ = some (.int .i64 t483) ∧ w'.cell? ⟨gb477, 2, none⟩ = some (.int .i64 t484) ∧ w'.cell? ⟨gb477, 3, none⟩ = some (.int .i64 t485) ∧ w'.cell? ⟨gb477, 4, none⟩ = some (.int .i64 t486)) (ds := []) #[false, false, false, false, false, false, false, false, false, false, false, false, false, false, false, false, false, false, false, false, false, false, false, false, false, false, false, false, false] (by kernel_rfl) rfl rfl ⟨(blk_cell BK477.out 0).trans rfl, (blk_cell BK477.out 1).trans rfl, (blk_cell BK477.out 2).trans rfl, (blk_cell BK477.out 3).trans rfl, (blk_cell BK477.out 4).trans rfl⟩ (fun hHeld => ?_); refine with_tabW diacriticlaw01_OctetReads.tab11 diacriticlaw01_OctetReads.bits11 (fun HT_ HW_ => ?_)
                            generalize w48.drew = w49 at BK477 BK480 BK493 HI476 HB hHeld ⊢
                            refine pure_ (i := 0) (N := some 52) (v := ?_) (a' := ?_) #[true, false, false, false, false, false, false, false, false, false, false, false, false, false, false, false, false, false, false, false, false, false, false, false, false, false, false, false, false] rfl rfl (any_of HT_.out (by kernel_rfl)) (fun _ _ _ h => h) (Or.inl ⟨by rfl, ?_⟩) ?_ ?_
                            rotate_left
                            · intro w'
                              go_simp
                              with_reducible rfl
                            rotate_left
                            · simp only [Act.put, List.setIfInBounds_toArray, List.set_cons_zero, List.set_cons_succ, i64_w, i32_w]
                              rfl
                            refine pure_ (i := 1) (N := some 53) (v := ?_) (a' := ?_) #[true, true, false, false, false, false, false, false, false, false, false, false, false, false, false, false, false, false, false, false, false, false, false, false, false, false, false, false, false] rfl rfl (any_of HT_.out (by kernel_rfl)) (fun _ _ _ h => h) (Or.inl ⟨by rfl, ?_⟩) ?_ ?_
                            rotate_left
                            · intro w'
                              go_simp
                              with_reducible rfl
                            rotate_left
                            · simp only [Act.put, List.setIfInBounds_toArray, List.set_cons_zero, List.set_cons_succ, i64_w, i32_w]
                              rfl
                            refine pure_ (i := 2) (N := some 54) (v := ?_) (a' := ?_) #[true, true, true, false, false, false, false, false, false, false, false, false, false, false, false, false, false, false, false, false, false, false, false, false, false, false, false, false, false] rfl rfl (any_of HT_.out (by kernel_rfl)) (fun _ _ _ h => h) (Or.inl ⟨by rfl, ?_⟩) ?_ ?_
                            rotate_left
                            · intro w'
                              go_simp
                              with_reducible rfl
                            rotate_left
                            · simp only [Act.put, List.setIfInBounds_toArray, List.set_cons_zero, List.set_cons_succ, i64_w, i32_w]
                              rfl
                            refine pure_ (i := 3) (N := some 55) (v := ?_) (a' := ?_) #[true, true, true, true, false, false, false, false, false, false, false, false, false, false, false, false, false, false, false, false, false, false, false, false, false, false, false, false, false] rfl rfl (any_of HT_.out (by kernel_rfl)) (fun _ _ _ h => h) (Or.inl ⟨by rfl, ?_⟩) ?_ ?_
                            rotate_left
                            · intro w'
                              go_simp
                              with_reducible rfl
                            rotate_left
                            · simp only [Act.put, List.setIfInBounds_toArray, List.set_cons_zero, List.set_cons_succ, i64_w, i32_w]
                              rfl
                            refine take_ (i := 5) (N := some 57) (v := ?_) (a' := ?_) #[true, true, true, true, false, true, false, false, false, false, false, false, false, false, false, false, false, false, false, false, false, false, false, false, false, false, false, false, false] rfl rfl (take_ofW HT_.out HW_.out (by kernel_rfl)) (fun _ _ _ h => h) (Or.inl ⟨by rfl, ?_⟩) hHeld ?_ ?_
                            rotate_left
                            · rintro w' ⟨s0, s1, s2, s3, s4⟩
                              go_simp
                              with_reducible rfl
                            rotate_left
                            · simp only [Act.put, List.setIfInBounds_toArray, List.set_cons_zero, List.set_cons_succ, i64_w, i32_w]
                              rfl
                            refine one_ (i := 4) (N := some 56) #[true, true, true, true, true, true, false, false, false, false, false, false, false, false, false, false, false, false, false, false, false, false, false, false, false, false, false, false, false] rfl rfl (one_of HT_.out (by kernel_rfl)) (by decide) (fun K hK => ?_)
                            refine goes_ Try.func30 (by kernel_rfl) rfl #[.pointer (some ⟨g476, 0, none⟩)] (by rfl) rfl rfl q_10 ?_
                            with_reducible refine (octet_In_Left.calls g476 t488 t489 t490 t491 t492 t494 t495 t496 t497 t498 t499 w _ ?side1 ?side2 A28.out).mono ?_
                            (case side1 => repeat (first | (with_reducible first | exact HI476.out | apply IsS68.alloc | apply IsS68.drewN | apply IsS68.drew | apply IsS68.set_0 | apply IsS68.set_1 | apply IsS68.set_2 | apply IsS68.set_3 | apply IsS68.set_4 | refine IsS68.far ?_ NB476_477.out _ | apply IsS68.far (hne := NB476_477.out) | refine IsS68.far ?_ NB476_480.out _ | apply IsS68.far (hne := NB476_480.out) | refine IsS68.far ?_ NB476_493.out _ | apply IsS68.far (hne := NB476_493.out)) | exact HI476.out))
                            (case side2 => repeat (first | (with_reducible first | exact HB.out | apply below_alloc | apply pw_below_drewN | apply below_drew1 | refine below_set ?_ (IsS68.ge HI476.out) | refine below_set ?_ GE477.out | refine below_set ?_ GE480.out | refine below_set ?_ GE493.out) | exact HB.out))
                            rintro e w50 ⟨rfl, hi, hb, hk⟩
                            refine ⟨_, rfl, ?_⟩
                            have n0_ := Aside0.mk (KeepBut.blk hk (g' := gb477) (o := .cells #[.string t482, .int .i64 t483, .int .i64 t484, .int .i64 t485, .int .i64 t486] 54 (0, 0)) q_80 NB477_476.out (by simp))
                            have n1_ := Aside0.mk (KeepBut.blk hk (g' := gb480) (o := .cells #[.int .i64 ((rd_T56 l2 x35_2).f0), .int .i64 ((rd_T56 l2 x35_2).f1), .int .i64 ((rd_T56 l2 x35_2).f2), .string ((rd_T56 l2 x35_2).f3)] 56 (0, 0)) q_89 NB480_476.out (by simp))
                            have n2_ := Aside0.mk (KeepBut.blk hk (g' := gb493) (o := .cells #[.string t482, .int .i64 t483, .int .i64 t484, .int .i64 t485, .int .i64 t486] 54 (0, 0)) q_92 NB493_476.out (by simp))
                            have n3_ := Aside0.mk (hb)
                            have n4_ := Aside0.mk (hi)
                            clear BK477
                            clear BK480
                            clear BK493
                            clear HB
                            clear HI476
                            have BK477 := n0_
                            have BK480 := n1_
                            have BK493 := n2_
                            have HB := n3_
                            have HI476 := n4_
                            clear n0_ n1_ n2_ n3_ n4_
                            (try clear hb)
                            (try clear hb2)
                            (try clear hk)
                            (try clear hi)
                            refine hK.out _ _ ⟨(blk_cell BK477.out 0).trans rfl, (blk_cell BK477.out 1).trans rfl, (blk_cell BK477.out 2).trans rfl, (blk_cell BK477.out 3).trans rfl, (blk_cell BK477.out 4).trans rfl⟩ (fun hHeld => ?_)
                            clear hK K
                            refine norm_ (a' := ?_) ?_ ?_
                            rotate_left
                            · show Act.put _ (some 56) _ = _
                              simp only [Act.put, List.setIfInBounds_toArray, List.set_cons_zero, List.set_cons_succ, i64_w, i32_w]
                              rfl
                            refine one_ (i := 6) (N := some 58) #[true, true, true, true, true, true, true, false, false, false, false, false, false, false, false, false, false, false, false, false, false, false, false, false, false, false, false, false, false] rfl rfl (one_of HT_.out (by kernel_rfl)) (by decide) (fun K hK => ?_)
                            refine goes_ Try.func35 (by kernel_rfl) rfl #[.agg #[.string t482, .int .i64 t483, .int .i64 t484, .int .i64 t485, .int .i64 t486]] (by rfl) rfl rfl q_10 ?_
                            with_reducible refine (diacriticref01_Left.calls t482 t483 t484 t485 t486 t500 _ A29.out).mono ?_
                            rintro e w51 ⟨rfl, hb⟩
                            refine ⟨_, rfl, ?_⟩
                            have n0_ := Aside0.mk (blk_below (g := gb477) (o := .cells #[.string t482, .int .i64 t483, .int .i64 t484, .int .i64 t485, .int .i64 t486] 54 (0, 0)) q_80 hb)
                            have n1_ := Aside0.mk (IsS68.below q_93 hb)
                            have n2_ := Aside0.mk (blk_below (g := gb480) (o := .cells #[.int .i64 ((rd_T56 l2 x35_2).f0), .int .i64 ((rd_T56 l2 x35_2).f1), .int .i64 ((rd_T56 l2 x35_2).f2), .string ((rd_T56 l2 x35_2).f3)] 56 (0, 0)) q_89 hb)
                            have n3_ := Aside0.mk (blk_below (g := gb493) (o := .cells #[.string t482, .int .i64 t483, .int .i64 t484, .int .i64 t485, .int .i64 t486] 54 (0, 0)) q_92 hb)
                            have n4_ := Aside0.mk (below_step q_94 hb)
                            clear BK477
                            clear HI476
                            clear BK480
                            clear BK493
                            clear HB
                            have BK477 := n0_
                            have HI476 := n1_
                            have BK480 := n2_
                            have BK493 := n3_
                            have HB := n4_
                            clear n0_ n1_ n2_ n3_ n4_
                            (try clear hb)
                            (try clear hb2)
                            (try clear hk)
                            (try clear hi)
                            refine hK.out _ _ ⟨(blk_cell BK477.out 0).trans rfl, (blk_cell BK477.out 1).trans rfl, (blk_cell BK477.out 2).trans rfl, (blk_cell BK477.out 3).trans rfl, (blk_cell BK477.out 4).trans rfl⟩ (fun hHeld => ?_)
                            clear hK K
                            refine norm_ (a' := ?_) ?_ ?_
                            rotate_left
                            · show Act.put _ (some 58) _ = _
                              simp only [Act.put, List.setIfInBounds_toArray, List.set_cons_zero, List.set_cons_succ, i64_w, i32_w]
                              rfl
                            refine pure_ (i := 7) (N := some 59) (v := ?_) (a' := ?_) #[true, true, true, true, true, true, true, true, false, false, false, false, false, false, false, false, false, false, false, false, false, false, false, false, false, false, false, false, false] rfl rfl (any_of HT_.out (by kernel_rfl)) (fun _ _ _ h => h) (Or.inl ⟨by rfl, ?_⟩) ?_ ?_
                            rotate_left
                            · intro w'
                              go_simp
                              with_reducible rfl
                            rotate_left
                            · simp only [Act.put, List.setIfInBounds_toArray, List.set_cons_zero, List.set_cons_succ, i64_w, i32_w]
                              rfl
                            refine pure_ (i := 8) (N := some 60) (v := ?_) (a' := ?_) #[true, true, true, true, true, true, true, true, true, false, false, false, false, false, false, false, false, false, false, false, false, false, false, false, false, false, false, false, false] rfl rfl (any_of HT_.out (by kernel_rfl)) (fun _ _ _ h => h) (Or.inl ⟨by rfl, ?_⟩) ?_ ?_
                            rotate_left
                            · intro w'
                              go_simp
                              with_reducible rfl
                            rotate_left
                            · simp only [Act.put, List.setIfInBounds_toArray, List.set_cons_zero, List.set_cons_succ, i64_w, i32_w]
                              rfl
                            refine pure_ (i := 9) (N := some 61) (v := ?_) (a' := ?_) #[true, true, true, true, true, true, true, true, true, true, false, false, false, false, false, false, false, false, false, false, false, false, false, false, false, false, false, false, false] rfl rfl (any_of HT_.out (by kernel_rfl)) (fun _ _ _ h => h) (Or.inl ⟨by rfl, ?_⟩) ?_ ?_
                            rotate_left
                            · intro w'
                              go_simp
                              with_reducible rfl
                            rotate_left
                            · simp only [Act.put, List.setIfInBounds_toArray, List.set_cons_zero, List.set_cons_succ, i64_w, i32_w]
                              rfl
                            refine pure_ (i := 10) (N := some 62) (v := ?_) (a' := ?_) #[true, true, true, true, true, true, true, true, true, true, true, false, false, false, false, false, false, false, false, false, false, false, false, false, false, false, false, false, false] rfl rfl (any_of HT_.out (by kernel_rfl)) (fun _ _ _ h => h) (Or.inl ⟨by rfl, ?_⟩) ?_ ?_
                            rotate_left
                            · intro w'
                              go_simp
                              with_reducible rfl
                            rotate_left
                            · simp only [Act.put, List.setIfInBounds_toArray, List.set_cons_zero, List.set_cons_succ, i64_w, i32_w]
                              rfl
                            refine pure_ (i := 12) (N := some 64) (v := ?_) (a' := ?_) #[true, true, true, true, true, true, true, true, true, true, true, false, true, false, false, false, false, false, false, false, false, false, false, false, false, false, false, false, false] rfl rfl (any_of HT_.out (by kernel_rfl)) (fun _ _ _ h => h) (Or.inl ⟨by rfl, ?_⟩) ?_ ?_
                            rotate_left
                            · intro w'
                              go_simp
                              with_reducible rfl
                            rotate_left
                            · simp only [Act.put, List.setIfInBounds_toArray, List.set_cons_zero, List.set_cons_succ, i64_w, i32_w]
                              rfl
                            refine pure_ (i := 14) (N := some 66) (v := ?_) (a' := ?_) #[true, true, true, true, true, true, true, true, true, true, true, false, true, false, true, false, false, false, false, false, false, false, false, false, false, false, false, false, false] rfl rfl (any_of HT_.out (by kernel_rfl)) (fun _ _ _ h => h) (Or.inl ⟨by rfl, ?_⟩) ?_ ?_
                            rotate_left
                            · intro w'
                              go_simp
                              with_reducible rfl
                            rotate_left
                            · simp only [Act.put, List.setIfInBounds_toArray, List.set_cons_zero, List.set_cons_succ, i64_w, i32_w]
                              rfl
                            refine take_ (i := 13) (N := some 65) (v := ?_) (a' := ?_) #[true, true, true, true, true, true, true, true, true, true, true, false, true, true, true, false, false, false, false, false, false, false, false, false, false, false, false, false, false] rfl rfl (take_ofW HT_.out HW_.out (by kernel_rfl)) (fun _ _ _ h => h) (Or.inl ⟨by rfl, ?_⟩) hHeld ?_ ?_
                            rotate_left
                            · rintro w' ⟨s0, s1, s2, s3, s4⟩
                              go_simp
                              with_reducible rfl
                            rotate_left
                            · simp only [Act.put, List.setIfInBounds_toArray, List.set_cons_zero, List.set_cons_succ, i64_w, i32_w]
                              rfl
                            refine take_ (i := 15) (N := some 67) (v := ?_) (a' := ?_) #[true, true, true, true, true, true, true, true, true, true, true, false, true, true, true, true, false, false, false, false, false, false, false, false, false, false, false, false, false] rfl rfl (take_ofW HT_.out HW_.out (by kernel_rfl)) (fun _ _ _ h => h) (Or.inl ⟨by rfl, ?_⟩) hHeld ?_ ?_
                            rotate_left
                            · rintro w' ⟨s0, s1, s2, s3, s4⟩
                              go_simp
                              with_reducible rfl
                            rotate_left
                            · simp only [Act.put, List.setIfInBounds_toArray, List.set_cons_zero, List.set_cons_succ, i64_w, i32_w]
                              rfl
                            refine pure_ (i := 16) (N := some 68) (v := ?_) (a' := ?_) #[true, true, true, true, true, true, true, true, true, true, true, false, true, true, true, true, true, false, false, false, false, false, false, false, false, false, false, false, false] rfl rfl (any_of HT_.out (by kernel_rfl)) (fun _ _ _ h => h) (Or.inl ⟨by rfl, ?_⟩) ?_ ?_
                            rotate_left
                            · intro w'
                              go_simp
                              with_reducible rfl
                            rotate_left
                            · simp only [Act.put, List.setIfInBounds_toArray, List.set_cons_zero, List.set_cons_succ, i64_w, i32_w]
                              rfl
                            refine one_ (i := 11) (N := some 63) #[true, true, true, true, true, true, true, true, true, true, true, true, true, true, true, true, true, false, false, false, false, false, false, false, false, false, false, false, false] rfl rfl (one_of HT_.out (by kernel_rfl)) (by decide) (fun K hK => ?_)
                            refine goes_ Try.func36 (by kernel_rfl) rfl #[.pointer (some ⟨g476, 0, none⟩)] (by rfl) rfl rfl q_10 ?_
                            with_reducible refine (octet_In_At.calls g476 t495 t496 t497 t498 t499 t501 t502 t503 t504 t505 t506 w _ ?side1 ?side2 A31.out).mono ?_
                            (case side1 => repeat (first | (with_reducible first | exact HI476.out | apply IsS68.alloc | apply IsS68.drewN | apply IsS68.drew | apply IsS68.set_0 | apply IsS68.set_1 | apply IsS68.set_2 | apply IsS68.set_3 | apply IsS68.set_4 | refine IsS68.far ?_ NB476_477.out _ | apply IsS68.far (hne := NB476_477.out) | refine IsS68.far ?_ NB476_480.out _ | apply IsS68.far (hne := NB476_480.out) | refine IsS68.far ?_ NB476_493.out _ | apply IsS68.far (hne := NB476_493.out)) | exact HI476.out))
                            (case side2 => repeat (first | (with_reducible first | exact HB.out | apply below_alloc | apply pw_below_drewN | apply below_drew1 | refine below_set ?_ (IsS68.ge HI476.out) | refine below_set ?_ GE477.out | refine below_set ?_ GE480.out | refine below_set ?_ GE493.out) | exact HB.out))
                            rintro e w52 ⟨rfl, hi, hb, hk⟩
                            refine ⟨_, rfl, ?_⟩
                            have n0_ := Aside0.mk (KeepBut.blk hk (g' := gb477) (o := .cells #[.string t482, .int .i64 t483, .int .i64 t484, .int .i64 t485, .int .i64 t486] 54 (0, 0)) q_80 NB477_476.out (by simp))
                            have n1_ := Aside0.mk (KeepBut.blk hk (g' := gb480) (o := .cells #[.int .i64 ((rd_T56 l2 x35_2).f0), .int .i64 ((rd_T56 l2 x35_2).f1), .int .i64 ((rd_T56 l2 x35_2).f2), .string ((rd_T56 l2 x35_2).f3)] 56 (0, 0)) q_89 NB480_476.out (by simp))
                            have n2_ := Aside0.mk (KeepBut.blk hk (g' := gb493) (o := .cells #[.string t482, .int .i64 t483, .int .i64 t484, .int .i64 t485, .int .i64 t486] 54 (0, 0)) q_92 NB493_476.out (by simp))
                            have n3_ := Aside0.mk (hb)
                            have n4_ := Aside0.mk (hi)
                            clear BK477
                            clear BK480
                            clear BK493
                            clear HB
                            clear HI476
                            have BK477 := n0_
                            have BK480 := n1_
                            have BK493 := n2_
                            have HB := n3_
                            have HI476 := n4_
                            clear n0_ n1_ n2_ n3_ n4_
                            (try clear hb)
                            (try clear hb2)
                            (try clear hk)
                            (try clear hi)
                            refine hK.out _ _ ⟨(blk_cell BK477.out 0).trans rfl, (blk_cell BK477.out 1).trans rfl, (blk_cell BK477.out 2).trans rfl, (blk_cell BK477.out 3).trans rfl, (blk_cell BK477.out 4).trans rfl⟩ (fun hHeld => ?_)
                            clear hK K
                            refine norm_ (a' := ?_) ?_ ?_
                            rotate_left
                            · show Act.put _ (some 63) _ = _
                              simp only [Act.put, List.setIfInBounds_toArray, List.set_cons_zero, List.set_cons_succ, i64_w, i32_w]
                              rfl
                            refine pure_ (i := 17) (N := some 69) (v := ?_) (a' := ?_) #[true, true, true, true, true, true, true, true, true, true, true, true, true, true, true, true, true, true, false, false, false, false, false, false, false, false, false, false, false] rfl rfl (any_of HT_.out (by kernel_rfl)) (fun _ _ _ h => h) (Or.inl ⟨by rfl, ?_⟩) ?_ ?_
                            rotate_left
                            · intro w'
                              go_simp
                              with_reducible rfl
                            rotate_left
                            · simp only [Act.put, List.setIfInBounds_toArray, List.set_cons_zero, List.set_cons_succ, i64_w, i32_w]
                              rfl
                            refine pure_ (i := 18) (N := some 70) (v := ?_) (a' := ?_) #[true, true, true, true, true, true, true, true, true, true, true, true, true, true, true, true, true, true, true, false, false, false, false, false, false, false, false, false, false] rfl rfl (any_of HT_.out (by kernel_rfl)) (fun _ _ _ h => h) (Or.inl ⟨by rfl, ?_⟩) ?_ ?_
                            rotate_left
                            · intro w'
                              go_simp
                              with_reducible rfl
                            rotate_left
                            · simp only [Act.put, List.setIfInBounds_toArray, List.set_cons_zero, List.set_cons_succ, i64_w, i32_w]
                              rfl
                            refine pure_ (i := 19) (N := some 71) (v := ?_) (a' := ?_) #[true, true, true, true, true, true, true, true, true, true, true, true, true, true, true, true, true, true, true, true, false, false, false, false, false, false, false, false, false] rfl rfl (any_of HT_.out (by kernel_rfl)) (fun _ _ _ h => h) (Or.inl ⟨by rfl, ?_⟩) ?_ ?_
                            rotate_left
                            · intro w'
                              go_simp
                              with_reducible rfl
                            rotate_left
                            · simp only [Act.put, List.setIfInBounds_toArray, List.set_cons_zero, List.set_cons_succ, i64_w, i32_w]
                              rfl
                            refine pure_ (i := 20) (N := some 72) (v := ?_) (a' := ?_) #[true, true, true, true, true, true, true, true, true, true, true, true, true, true, true, true, true, true, true, true, true, false, false, false, false, false, false, false, false] rfl rfl (any_of HT_.out (by kernel_rfl)) (fun _ _ _ h => h) (Or.inl ⟨by rfl, ?_⟩) ?_ ?_
                            rotate_left
                            · intro w'
                              go_simp
                              with_reducible rfl
                            rotate_left
                            · simp only [Act.put, List.setIfInBounds_toArray, List.set_cons_zero, List.set_cons_succ, i64_w, i32_w]
                              rfl
                            refine pure_ (i := 22) (N := some 74) (v := ?_) (a' := ?_) #[true, true, true, true, true, true, true, true, true, true, true, true, true, true, true, true, true, true, true, true, true, false, true, false, false, false, false, false, false] rfl rfl (any_of HT_.out (by kernel_rfl)) (fun _ _ _ h => h) (Or.inl ⟨by rfl, ?_⟩) ?_ ?_
                            rotate_left
                            · intro w'
                              go_simp
                              with_reducible rfl
                            rotate_left
                            · simp only [Act.put, List.setIfInBounds_toArray, List.set_cons_zero, List.set_cons_succ, i64_w, i32_w]
                              rfl
                            refine pure_ (i := 24) (N := some 76) (v := ?_) (a' := ?_) #[true, true, true, true, true, true, true, true, true, true, true, true, true, true, true, true, true, true, true, true, true, false, true, false, true, false, false, false, false] rfl rfl (any_of HT_.out (by kernel_rfl)) (fun _ _ _ h => h) (Or.inl ⟨by rfl, ?_⟩) ?_ ?_
                            rotate_left
                            · intro w'
                              go_simp
                              with_reducible rfl
                            rotate_left
                            · simp only [Act.put, List.setIfInBounds_toArray, List.set_cons_zero, List.set_cons_succ, i64_w, i32_w]
                              rfl
                            refine take_ (i := 23) (N := some 75) (v := ?_) (a' := ?_) #[true, true, true, true, true, true, true, true, true, true, true, true, true, true, true, true, true, true, true, true, true, false, true, true, true, false, false, false, false] rfl rfl (take_ofW HT_.out HW_.out (by kernel_rfl)) (fun _ _ _ h => h) (Or.inl ⟨by rfl, ?_⟩) hHeld ?_ ?_
                            rotate_left
                            · rintro w' ⟨s0, s1, s2, s3, s4⟩
                              go_simp
                              with_reducible rfl
                            rotate_left
                            · simp only [Act.put, List.setIfInBounds_toArray, List.set_cons_zero, List.set_cons_succ, i64_w, i32_w]
                              rfl
                            refine take_ (i := 25) (N := some 77) (v := ?_) (a' := ?_) #[true, true, true, true, true, true, true, true, true, true, true, true, true, true, true, true, true, true, true, true, true, false, true, true, true, true, false, false, false] rfl rfl (take_ofW HT_.out HW_.out (by kernel_rfl)) (fun _ _ _ h => h) (Or.inl ⟨by rfl, ?_⟩) hHeld ?_ ?_
                            rotate_left
                            · rintro w' ⟨s0, s1, s2, s3, s4⟩
                              go_simp
                              with_reducible rfl
                            rotate_left
                            · simp only [Act.put, List.setIfInBounds_toArray, List.set_cons_zero, List.set_cons_succ, i64_w, i32_w]
                              rfl
                            refine pure_ (i := 26) (N := some 78) (v := ?_) (a' := ?_) #[true, true, true, true, true, true, true, true, true, true, true, true, true, true, true, true, true, true, true, true, true, false, true, true, true, true, true, false, false] rfl rfl (any_of HT_.out (by kernel_rfl)) (fun _ _ _ h => h) (Or.inl ⟨by rfl, ?_⟩) ?_ ?_
                            rotate_left
                            · intro w'
                              go_simp
                              with_reducible rfl
                            rotate_left
                            · simp only [Act.put, List.setIfInBounds_toArray, List.set_cons_zero, List.set_cons_succ, i64_w, i32_w]
                              rfl
                            refine one_ (i := 21) (N := some 73) #[true, true, true, true, true, true, true, true, true, true, true, true, true, true, true, true, true, true, true, true, true, true, true, true, true, true, true, false, false] rfl rfl (one_of HT_.out (by kernel_rfl)) (by decide) (fun K hK => ?_)
                            refine goes_ Try.func16 (by kernel_rfl) rfl #[.pointer (some ⟨g476, 0, none⟩)] (by rfl) rfl rfl q_10 ?_
                            with_reducible refine (octet_In_Fault.calls g476 t502 t503 t504 t505 t506 t507 t508 t509 t510 t511 t512 t513 w _ ?side1 ?side2 A33.out).mono ?_
                            (case side1 => repeat (first | (with_reducible first | exact HI476.out | apply IsS68.alloc | apply IsS68.drewN | apply IsS68.drew | apply IsS68.set_0 | apply IsS68.set_1 | apply IsS68.set_2 | apply IsS68.set_3 | apply IsS68.set_4 | refine IsS68.far ?_ NB476_477.out _ | apply IsS68.far (hne := NB476_477.out) | refine IsS68.far ?_ NB476_480.out _ | apply IsS68.far (hne := NB476_480.out) | refine IsS68.far ?_ NB476_493.out _ | apply IsS68.far (hne := NB476_493.out)) | exact HI476.out))
                            (case side2 => repeat (first | (with_reducible first | exact HB.out | apply below_alloc | apply pw_below_drewN | apply below_drew1 | refine below_set ?_ (IsS68.ge HI476.out) | refine below_set ?_ GE477.out | refine below_set ?_ GE480.out | refine below_set ?_ GE493.out) | exact HB.out))
                            rintro e w53 ⟨rfl, hi, hb, hk⟩
                            refine ⟨_, rfl, ?_⟩
                            have n0_ := Aside0.mk (KeepBut.blk hk (g' := gb477) (o := .cells #[.string t482, .int .i64 t483, .int .i64 t484, .int .i64 t485, .int .i64 t486] 54 (0, 0)) q_80 NB477_476.out (by simp))
                            have n1_ := Aside0.mk (KeepBut.blk hk (g' := gb480) (o := .cells #[.int .i64 ((rd_T56 l2 x35_2).f0), .int .i64 ((rd_T56 l2 x35_2).f1), .int .i64 ((rd_T56 l2 x35_2).f2), .string ((rd_T56 l2 x35_2).f3)] 56 (0, 0)) q_89 NB480_476.out (by simp))
                            have n2_ := Aside0.mk (KeepBut.blk hk (g' := gb493) (o := .cells #[.string t482, .int .i64 t483, .int .i64 t484, .int .i64 t485, .int .i64 t486] 54 (0, 0)) q_92 NB493_476.out (by simp))
                            have n3_ := Aside0.mk (hb)
                            have n4_ := Aside0.mk (hi)
                            clear BK477
                            clear BK480
                            clear BK493
                            clear HB
                            clear HI476
                            have BK477 := n0_
                            have BK480 := n1_
                            have BK493 := n2_
                            have HB := n3_
                            have HI476 := n4_
                            clear n0_ n1_ n2_ n3_ n4_
                            (try clear hb)
                            (try clear hb2)
                            (try clear hk)
                            (try clear hi)
                            refine hK.out _ _ ⟨(blk_cell BK477.out 0).trans rfl, (blk_cell BK477.out 1).trans rfl, (blk_cell BK477.out 2).trans rfl, (blk_cell BK477.out 3).trans rfl, (blk_cell BK477.out 4).trans rfl⟩ (fun hHeld => ?_)
                            clear hK K
                            refine norm_ (a' := ?_) ?_ ?_
                            rotate_left
                            · show Act.put _ (some 73) _ = _
                              simp only [Act.put, List.setIfInBounds_toArray, List.set_cons_zero, List.set_cons_succ, i64_w, i32_w]
                              rfl
                            refine pure_ (i := 27) (N := some 79) (v := ?_) (a' := ?_) #[true, true, true, true, true, true, true, true, true, true, true, true, true, true, true, true, true, true, true, true, true, true, true, true, true, true, true, true, false] rfl rfl (any_of HT_.out (by kernel_rfl)) (fun _ _ _ h => h) (Or.inl ⟨by rfl, ?_⟩) ?_ ?_
                            rotate_left
                            · intro w'
                              go_simp
                              with_reducible rfl
                            rotate_left
                            · simp only [Act.put, List.setIfInBounds_toArray, List.set_cons_zero, List.set_cons_succ, i64_w, i32_w]
                              rfl
                            refine pure_ (i := 28) (N := some 80) (v := ?_) (a' := ?_) #[true, true, true, true, true, true, true, true, true, true, true, true, true, true, true, true, true, true, true, true, true, true, true, true, true, true, true, true, true] rfl rfl (any_of HT_.out (by kernel_rfl)) (fun _ _ _ h => h) (Or.inl ⟨by rfl, ?_⟩) ?_ ?_
                            rotate_left
                            · intro w'
                              go_simp
                              with_reducible rfl
                            rotate_left
                            · simp only [Act.put, List.setIfInBounds_toArray, List.set_cons_zero, List.set_cons_succ, i64_w, i32_w]
                              rfl
                            refine done_ (done_of HT_.out (by kernel_rfl)) ?_
                            try go_wp2
                            go_ret
                            exact ⟨q_95, q_94⟩
                          · rw [if_neg c34] at H
                            have c34b0 : (!(t507 == t485) || (!(t508 == t486))) = false := by simpa using c34
                            clear c34
                            have H' := Aside0.mk H
                            clear H
                            have p479 : 0 ≤ (x35_2 : Int) := of_decide_eq_true q_12
                            have q479 : x35_2 < (l2.length : Int) := of_decide_eq_true q_12
                            obtain ⟨ad479, e479, hx479_0, hx479_1, hx479_2, hx479_3⟩ := at_T56 HR2.out x35_2 p479 q479
                            cases e479
                            replace hx479_0 := (HB.out.cell (World.block_lt_of_cell? w _ hx479_0)).trans hx479_0
                            replace hx479_1 := (HB.out.cell (World.block_lt_of_cell? w _ hx479_1)).trans hx479_1
                            replace hx479_2 := (HB.out.cell (World.block_lt_of_cell? w _ hx479_2)).trans hx479_2
                            replace hx479_3 := (HB.out.cell (World.block_lt_of_cell? w _ hx479_3)).trans hx479_3
                            replace p479 := eq_true p479
                            replace q479 := eq_true q479
                            try go_wp2_with (first | ((with_reducible refine gate_dst (N := 10) rfl ?_); (try (refine gate_guard (by rfl) ?_; dsimp only)); refine box_event ?hg (N := 10) ?hd (cs := #[.int .i64 0, .int .i64 0, .int .i64 0, .string (⟨#[]⟩ : ByteArray)]) (t := 56) ?hr ?_; (case hd => rfl); (case hg => rfl); (case hr => first | (go_simp; done) | (go_simp; rfl)); intro gb480 hg w54 hbox hb; have n0_ := Aside0.mk (blk_below (g := gb477) (o := .cells #[.string x478000_2, .int .i64 x478001_2, .int .i64 x478002_2, .int .i64 x478003_2, .int .i64 x478004_2] 54 (0, 0)) q_80 hb); have n1_ := Aside0.mk (IsS68.below q_81 hb); have n2_ := Aside0.mk (below_step q_82 hb); have n3_ := Aside0.mk (hbox); have n4_ := Aside0.mk ((by rw [hg]; exact (below_size q_82) : w.heap.size ≤ gb480)); have n5_ := Aside0.mk ((by rw [hg]; exact (below_size q_82) : w.heap.size ≤ gb480)); have n6_ := Aside0.mk ((q_117 : gb477 ≠ gb480)); have n7_ := Aside0.mk ((q_118 : gb480 ≠ gb477)); have n8_ := Aside0.mk ((q_83 : g476 ≠ gb480)); have n9_ := Aside0.mk ((q_84 : gb480 ≠ g476)); clear BK477; clear HI476; clear HB; have BK477 := n0_; have HI476 := n1_; have HB := n2_; have BK480 := n3_; have GW480 := n4_; have GE480 := n5_; have NB477_480 := n6_; have NB480_477 := n7_; have NB476_480 := n8_; have NB480_476 := n9_; clear n0_ n1_ n2_ n3_ n4_ n5_ n6_ n7_ n8_ n9_; clear hb hbox hg; have hnb55 := NB480_477.out; have hnc55 := NB477_480.out; have hnb56 := NB480_476.out; have hnc56 := NB476_480.out; obtain ⟨hcz57_0, hcz57_1, hcz57_2, hcz57_3, hfz57_0, hfz57_1, hfz57_2, hfz57_3⟩ := cells4_ BK480.out; have hnb58 := NB477_476.out; have hnc58 := NB476_477.out; obtain ⟨hcz59_0, hcz59_1, hcz59_2, hcz59_3, hcz59_4, hfz59_0, hfz59_1, hfz59_2, hfz59_3, hfz59_4⟩ := cells5_ BK477.out) | ((with_reducible refine gate_callee (f := 34) rfl ?_); refine goesL_ (some 48) rfl rfl Try.func34 (by kernel_rfl) rfl #[.pointer (some ⟨g476, 0, none⟩), .agg #[.string x478000_2, .int .i64 x478001_2, .int .i64 x478002_2, .int .i64 x478003_2, .int .i64 x478004_2], .agg #[.int .i64 ((rd_T56 l2 x35_2).f0), .int .i64 ((rd_T56 l2 x35_2).f1), .int .i64 ((rd_T56 l2 x35_2).f2), .string ((rd_T56 l2 x35_2).f3)]] rfl q_10 ?_; (with_reducible refine (diacriticlaw01_do.calls k2 g476 x477000_2 x477001_2 x477002_2 x477003_2 x477004_2 x478000_2 x478001_2 x478002_2 x478003_2 x478004_2 ((rd_T56 l2 x35_2).f0) ((rd_T56 l2 x35_2).f1) ((rd_T56 l2 x35_2).f2) ((rd_T56 l2 x35_2).f3) t482 t483 t484 t485 t486 true t488 t489 t490 t491 t492 w _ ?side1 ?side2 A26.out).mono ?_); (case side1 => repeat (first | (with_reducible first | exact HI476.out | apply IsS68.alloc | apply IsS68.drewN | apply IsS68.drew | apply IsS68.set_0 | apply IsS68.set_1 | apply IsS68.set_2 | apply IsS68.set_3 | apply IsS68.set_4 | refine IsS68.far ?_ NB476_477.out _ | apply IsS68.far (hne := NB476_477.out) | refine IsS68.far ?_ NB476_480.out _ | apply IsS68.far (hne := NB476_480.out)) | exact HI476.out)); (case side2 => repeat (first | (with_reducible first | exact HB.out | apply below_alloc | apply pw_below_drewN | apply below_drew1 | refine below_set ?_ (IsS68.ge HI476.out) | refine below_set ?_ GE477.out | refine below_set ?_ GE480.out) | exact HB.out)); rintro e w60 ⟨rfl, hi, hb, hk⟩; refine ⟨_, rfl, ?_⟩; have n0_ := Aside0.mk (KeepBut.blk hk (g' := gb477) (o := .cells #[.string x478000_2, .int .i64 x478001_2, .int .i64 x478002_2, .int .i64 x478003_2, .int .i64 x478004_2] 54 (0, 0)) q_85 NB477_476.out (by simp)); have n1_ := Aside0.mk (KeepBut.blk hk (g' := gb480) (o := .cells #[.int .i64 ((rd_T56 l2 x35_2).f0), .int .i64 ((rd_T56 l2 x35_2).f1), .int .i64 ((rd_T56 l2 x35_2).f2), .string ((rd_T56 l2 x35_2).f3)] 56 (0, 0)) q_86 NB480_476.out (by simp)); have n2_ := Aside0.mk (hb); have n3_ := Aside0.mk (hi); clear BK477; clear BK480; clear HB; clear HI476; have BK477 := n0_; have BK480 := n1_; have HB := n2_; have HI476 := n3_; clear n0_ n1_ n2_ n3_; (try clear hb); (try clear hb2); (try clear hk); (try clear hi)) | ((with_reducible refine gate_dst (N := 11) rfl ?_); (try (refine gate_guard (by rfl) ?_; dsimp only)); refine box_event ?hg (N := 11) ?hd (cs := #[.string (⟨#[]⟩ : ByteArray), .int .i64 0, .int .i64 0, .int .i64 0, .int .i64 0]) (t := 54) ?hr ?_; (case hd => rfl); (case hg => rfl); (case hr => first | (go_simp; done) | (go_simp; rfl)); intro gb493 hg w61 hbox hb; have n0_ := Aside0.mk (blk_below (g := gb477) (o := .cells #[.string x478000_2, .int .i64 x478001_2, .int .i64 x478002_2, .int .i64 x478003_2, .int .i64 x478004_2] 54 (0, 0)) q_80 hb); have n1_ := Aside0.mk (IsS68.below q_88 hb); have n2_ := Aside0.mk (blk_below (g := gb480) (o := .cells #[.int .i64 ((rd_T56 l2 x35_2).f0), .int .i64 ((rd_T56 l2 x35_2).f1), .int .i64 ((rd_T56 l2 x35_2).f2), .string ((rd_T56 l2 x35_2).f3)] 56 (0, 0)) q_89 hb); have n3_ := Aside0.mk (below_step q_87 hb); have n4_ := Aside0.mk (hbox); have n5_ := Aside0.mk ((by rw [hg]; exact (below_size q_87) : w.heap.size ≤ gb493)); have n6_ := Aside0.mk ((by rw [hg]; exact (below_size q_87) : w.heap.size ≤ gb493)); have n7_ := Aside0.mk ((q_117 : gb477 ≠ gb493)); have n8_ := Aside0.mk ((q_118 : gb493 ≠ gb477)); have n9_ := Aside0.mk ((q_119 : gb480 ≠ gb493)); have n10_ := Aside0.mk ((q_120 : gb493 ≠ gb480)); have n11_ := Aside0.mk ((q_90 : g476 ≠ gb493)); have n12_ := Aside0.mk ((q_91 : gb493 ≠ g476)); clear BK477; clear HI476; clear BK480; clear HB; have BK477 := n0_; have HI476 := n1_; have BK480 := n2_; have HB := n3_; have BK493 := n4_; have GW493 := n5_; have GE493 := n6_; have NB477_493 := n7_; have NB493_477 := n8_; have NB480_493 := n9_; have NB493_480 := n10_; have NB476_493 := n11_; have NB493_476 := n12_; clear n0_ n1_ n2_ n3_ n4_ n5_ n6_ n7_ n8_ n9_ n10_ n11_ n12_; clear hb hbox hg; have hnb62 := NB493_477.out; have hnc62 := NB477_493.out; have hnb63 := NB493_480.out; have hnc63 := NB480_493.out; have hnb64 := NB493_476.out; have hnc64 := NB476_493.out; obtain ⟨hcz65_0, hcz65_1, hcz65_2, hcz65_3, hcz65_4, hfz65_0, hfz65_1, hfz65_2, hfz65_3, hfz65_4⟩ := cells5_ BK493.out; obtain ⟨hcz66_0, hcz66_1, hcz66_2, hcz66_3, hcz66_4, hfz66_0, hfz66_1, hfz66_2, hfz66_3, hfz66_4⟩ := cells5_ BK477.out))
                            have n0_ : Aside0 (((((((((((w61.setCell ⟨gb493, 0, none⟩ (.string t482)).setCell ⟨gb493, 1, none⟩ (.int .i64 t483)).setCell ⟨gb493, 2, none⟩ (.int .i64 t484)).setCell ⟨gb493, 3, none⟩ (.int .i64 t485)).setCell ⟨gb493, 4, none⟩ (.int .i64 t486)).setCell ⟨gb477, 0, none⟩ (.string t482)).setCell ⟨gb477, 1, none⟩ (.int .i64 t483)).setCell ⟨gb477, 2, none⟩ (.int .i64 t484)).setCell ⟨gb477, 3, none⟩ (.int .i64 t485)).setCell ⟨gb477, 4, none⟩ (.int .i64 t486)).heap[gb477]? = some (.cells #[.string t482, .int .i64 t483, .int .i64 t484, .int .i64 t485, .int .i64 t486] 54 (0, 0))) := ⟨q_96⟩
                            have n1_ : Aside0 (((((((((((w61.setCell ⟨gb493, 0, none⟩ (.string t482)).setCell ⟨gb493, 1, none⟩ (.int .i64 t483)).setCell ⟨gb493, 2, none⟩ (.int .i64 t484)).setCell ⟨gb493, 3, none⟩ (.int .i64 t485)).setCell ⟨gb493, 4, none⟩ (.int .i64 t486)).setCell ⟨gb477, 0, none⟩ (.string t482)).setCell ⟨gb477, 1, none⟩ (.int .i64 t483)).setCell ⟨gb477, 2, none⟩ (.int .i64 t484)).setCell ⟨gb477, 3, none⟩ (.int .i64 t485)).setCell ⟨gb477, 4, none⟩ (.int .i64 t486)).heap[gb480]? = some (.cells #[.int .i64 ((rd_T56 l2 x35_2).f0), .int .i64 ((rd_T56 l2 x35_2).f1), .int .i64 ((rd_T56 l2 x35_2).f2), .string ((rd_T56 l2 x35_2).f3)] 56 (0, 0))) := ⟨q_97⟩
                            have n2_ : Aside0 (((((((((((w61.setCell ⟨gb493, 0, none⟩ (.string t482)).setCell ⟨gb493, 1, none⟩ (.int .i64 t483)).setCell ⟨gb493, 2, none⟩ (.int .i64 t484)).setCell ⟨gb493, 3, none⟩ (.int .i64 t485)).setCell ⟨gb493, 4, none⟩ (.int .i64 t486)).setCell ⟨gb477, 0, none⟩ (.string t482)).setCell ⟨gb477, 1, none⟩ (.int .i64 t483)).setCell ⟨gb477, 2, none⟩ (.int .i64 t484)).setCell ⟨gb477, 3, none⟩ (.int .i64 t485)).setCell ⟨gb477, 4, none⟩ (.int .i64 t486)).heap[gb493]? = some (.cells #[.string t482, .int .i64 t483, .int .i64 t484, .int .i64 t485, .int .i64 t486] 54 (0, 0))) := ⟨q_98⟩
                            have n3_ : Aside0 (IsS68 w ((((((((((w61.setCell ⟨gb493, 0, none⟩ (.string t482)).setCell ⟨gb493, 1, none⟩ (.int .i64 t483)).setCell ⟨gb493, 2, none⟩ (.int .i64 t484)).setCell ⟨gb493, 3, none⟩ (.int .i64 t485)).setCell ⟨gb493, 4, none⟩ (.int .i64 t486)).setCell ⟨gb477, 0, none⟩ (.string t482)).setCell ⟨gb477, 1, none⟩ (.int .i64 t483)).setCell ⟨gb477, 2, none⟩ (.int .i64 t484)).setCell ⟨gb477, 3, none⟩ (.int .i64 t485)).setCell ⟨gb477, 4, none⟩ (.int .i64 t486)) g476 t488 t489 t490 t491 t492) := ⟨q_93⟩
                            have n4_ : Aside0 (Below w.heap.size w ((((((((((w61.setCell ⟨gb493, 0, none⟩ (.string t482)).setCell ⟨gb493, 1, none⟩ (.int .i64 t483)).setCell ⟨gb493, 2, none⟩ (.int .i64 t484)).setCell ⟨gb493, 3, none⟩ (.int .i64 t485)).setCell ⟨gb493, 4, none⟩ (.int .i64 t486)).setCell ⟨gb477, 0, none⟩ (.string t482)).setCell ⟨gb477, 1, none⟩ (.int .i64 t483)).setCell ⟨gb477, 2, none⟩ (.int .i64 t484)).setCell ⟨gb477, 3, none⟩ (.int .i64 t485)).setCell ⟨gb477, 4, none⟩ (.int .i64 t486))) := ⟨q_94⟩
                            (try clear BK477)
                            (try clear BK480)
                            (try clear BK493)
                            (try clear HI476)
                            (try clear HB)
                            generalize ((((((((((w61.setCell ⟨gb493, 0, none⟩ (.string t482)).setCell ⟨gb493, 1, none⟩ (.int .i64 t483)).setCell ⟨gb493, 2, none⟩ (.int .i64 t484)).setCell ⟨gb493, 3, none⟩ (.int .i64 t485)).setCell ⟨gb493, 4, none⟩ (.int .i64 t486)).setCell ⟨gb477, 0, none⟩ (.string t482)).setCell ⟨gb477, 1, none⟩ (.int .i64 t483)).setCell ⟨gb477, 2, none⟩ (.int .i64 t484)).setCell ⟨gb477, 3, none⟩ (.int .i64 t485)).setCell ⟨gb477, 4, none⟩ (.int .i64 t486)) = w67 at n0_ n1_ n2_ n3_ n4_ ⊢
                            have BK477 := n0_
                            have BK480 := n1_
                            have BK493 := n2_
                            have HI476 := n3_
                            have HB := n4_
                            clear n0_ n1_ n2_ n3_ n4_
                            have n0_ := Aside0.mk (blk_drew BK477.out)
                            have n1_ := Aside0.mk (blk_drew BK480.out)
                            have n2_ := Aside0.mk (blk_drew BK493.out)
                            have n3_ := Aside0.mk (IsS68.drew HI476.out)
                            have n4_ := Aside0.mk (below_drew1 HB.out)
                            clear BK477
                            clear BK480
                            clear BK493
                            clear HI476
                            clear HB
                            have BK477 := n0_
                            have BK480 := n1_
                            have BK493 := n2_
                            have HI476 := n3_
                            have HB := n4_
                            clear n0_ n1_ n2_ n3_ n4_
                            refine start_ (n := 29) (S := fun w' => w'.cell? ⟨gb477, 0, none⟩ = some (.string t482) ∧ w'.cell? ⟨gb477, 1, none⟩ = some (.int .i64 t483) ∧ w'.cell? ⟨gb477, 2, none⟩ = some (.int .i64 t484) ∧ w'.cell? ⟨gb477, 3, none⟩ = some (.int .i64 t485) ∧ w'.cell? ⟨gb477, 4, none⟩ = some (.int .i64 t486)) (ds := []) #[false, false, false, false, false, false, false, false, false, false, false, false, false, false, false, false, false, false, false, false, false, false, false, false, false, false, false, false, false] (by kernel_rfl) rfl rfl ⟨(blk_cell BK477.out 0).trans rfl, (blk_cell BK477.out 1).trans rfl, (blk_cell BK477.out 2).trans rfl, (blk_cell BK477.out 3).trans rfl, (blk_cell BK477.out 4).trans rfl⟩ (fun hHeld => ?_); refine with_tabW diacriticlaw01_OctetReads.tab11 diacriticlaw01_OctetReads.bits11 (fun HT_ HW_ => ?_)
                            generalize w67.drew = w68 at BK477 BK480 BK493 HI476 HB hHeld ⊢
                            refine pure_ (i := 0) (N := some 52) (v := ?_) (a' := ?_) #[true, false, false, false, false, false, false, false, false, false, false, false, false, false, false, false, false, false, false, false, false, false, false, false, false, false, false, false, false] rfl rfl (any_of HT_.out (by kernel_rfl)) (fun _ _ _ h => h) (Or.inl ⟨by rfl, ?_⟩) ?_ ?_
                            rotate_left
                            · intro w'
                              go_simp
                              with_reducible rfl
                            rotate_left
                            · simp only [Act.put, List.setIfInBounds_toArray, List.set_cons_zero, List.set_cons_succ, i64_w, i32_w]
                              rfl
                            refine pure_ (i := 1) (N := some 53) (v := ?_) (a' := ?_) #[true, true, false, false, false, false, false, false, false, false, false, false, false, false, false, false, false, false, false, false, false, false, false, false, false, false, false, false, false] rfl rfl (any_of HT_.out (by kernel_rfl)) (fun _ _ _ h => h) (Or.inl ⟨by rfl, ?_⟩) ?_ ?_
                            rotate_left
                            · intro w'
                              go_simp
                              with_reducible rfl
                            rotate_left
                            · simp only [Act.put, List.setIfInBounds_toArray, List.set_cons_zero, List.set_cons_succ, i64_w, i32_w]
                              rfl
                            refine pure_ (i := 2) (N := some 54) (v := ?_) (a' := ?_) #[true, true, true, false, false, false, false, false, false, false, false, false, false, false, false, false, false, false, false, false, false, false, false, false, false, false, false, false, false] rfl rfl (any_of HT_.out (by kernel_rfl)) (fun _ _ _ h => h) (Or.inl ⟨by rfl, ?_⟩) ?_ ?_
                            rotate_left
                            · intro w'
                              go_simp
                              with_reducible rfl
                            rotate_left
                            · simp only [Act.put, List.setIfInBounds_toArray, List.set_cons_zero, List.set_cons_succ, i64_w, i32_w]
                              rfl
                            refine pure_ (i := 3) (N := some 55) (v := ?_) (a' := ?_) #[true, true, true, true, false, false, false, false, false, false, false, false, false, false, false, false, false, false, false, false, false, false, false, false, false, false, false, false, false] rfl rfl (any_of HT_.out (by kernel_rfl)) (fun _ _ _ h => h) (Or.inl ⟨by rfl, ?_⟩) ?_ ?_
                            rotate_left
                            · intro w'
                              go_simp
                              with_reducible rfl
                            rotate_left
                            · simp only [Act.put, List.setIfInBounds_toArray, List.set_cons_zero, List.set_cons_succ, i64_w, i32_w]
                              rfl
                            refine take_ (i := 5) (N := some 57) (v := ?_) (a' := ?_) #[true, true, true, true, false, true, false, false, false, false, false, false, false, false, false, false, false, false, false, false, false, false, false, false, false, false, false, false, false] rfl rfl (take_ofW HT_.out HW_.out (by kernel_rfl)) (fun _ _ _ h => h) (Or.inl ⟨by rfl, ?_⟩) hHeld ?_ ?_
                            rotate_left
                            · rintro w' ⟨s0, s1, s2, s3, s4⟩
                              go_simp
                              with_reducible rfl
                            rotate_left
                            · simp only [Act.put, List.setIfInBounds_toArray, List.set_cons_zero, List.set_cons_succ, i64_w, i32_w]
                              rfl
                            refine one_ (i := 4) (N := some 56) #[true, true, true, true, true, true, false, false, false, false, false, false, false, false, false, false, false, false, false, false, false, false, false, false, false, false, false, false, false] rfl rfl (one_of HT_.out (by kernel_rfl)) (by decide) (fun K hK => ?_)
                            refine goes_ Try.func30 (by kernel_rfl) rfl #[.pointer (some ⟨g476, 0, none⟩)] (by rfl) rfl rfl q_10 ?_
                            with_reducible refine (octet_In_Left.calls g476 t488 t489 t490 t491 t492 t494 t495 t496 t497 t498 t499 w _ ?side1 ?side2 A28.out).mono ?_
                            (case side1 => repeat (first | (with_reducible first | exact HI476.out | apply IsS68.alloc | apply IsS68.drewN | apply IsS68.drew | apply IsS68.set_0 | apply IsS68.set_1 | apply IsS68.set_2 | apply IsS68.set_3 | apply IsS68.set_4 | refine IsS68.far ?_ NB476_477.out _ | apply IsS68.far (hne := NB476_477.out) | refine IsS68.far ?_ NB476_480.out _ | apply IsS68.far (hne := NB476_480.out) | refine IsS68.far ?_ NB476_493.out _ | apply IsS68.far (hne := NB476_493.out)) | exact HI476.out))
                            (case side2 => repeat (first | (with_reducible first | exact HB.out | apply below_alloc | apply pw_below_drewN | apply below_drew1 | refine below_set ?_ (IsS68.ge HI476.out) | refine below_set ?_ GE477.out | refine below_set ?_ GE480.out | refine below_set ?_ GE493.out) | exact HB.out))
                            rintro e w69 ⟨rfl, hi, hb, hk⟩
                            refine ⟨_, rfl, ?_⟩
                            have n0_ := Aside0.mk (KeepBut.blk hk (g' := gb477) (o := .cells #[.string t482, .int .i64 t483, .int .i64 t484, .int .i64 t485, .int .i64 t486] 54 (0, 0)) q_80 NB477_476.out (by simp))
                            have n1_ := Aside0.mk (KeepBut.blk hk (g' := gb480) (o := .cells #[.int .i64 ((rd_T56 l2 x35_2).f0), .int .i64 ((rd_T56 l2 x35_2).f1), .int .i64 ((rd_T56 l2 x35_2).f2), .string ((rd_T56 l2 x35_2).f3)] 56 (0, 0)) q_89 NB480_476.out (by simp))
                            have n2_ := Aside0.mk (KeepBut.blk hk (g' := gb493) (o := .cells #[.string t482, .int .i64 t483, .int .i64 t484, .int .i64 t485, .int .i64 t486] 54 (0, 0)) q_92 NB493_476.out (by simp))
                            have n3_ := Aside0.mk (hb)
                            have n4_ := Aside0.mk (hi)
                            clear BK477
                            clear BK480
                            clear BK493
                            clear HB
                            clear HI476
                            have BK477 := n0_
                            have BK480 := n1_
                            have BK493 := n2_
                            have HB := n3_
                            have HI476 := n4_
                            clear n0_ n1_ n2_ n3_ n4_
                            (try clear hb)
                            (try clear hb2)
                            (try clear hk)
                            (try clear hi)
                            refine hK.out _ _ ⟨(blk_cell BK477.out 0).trans rfl, (blk_cell BK477.out 1).trans rfl, (blk_cell BK477.out 2).trans rfl, (blk_cell BK477.out 3).trans rfl, (blk_cell BK477.out 4).trans rfl⟩ (fun hHeld => ?_)
                            clear hK K
                            refine norm_ (a' := ?_) ?_ ?_
                            rotate_left
                            · show Act.put _ (some 56) _ = _
                              simp only [Act.put, List.setIfInBounds_toArray, List.set_cons_zero, List.set_cons_succ, i64_w, i32_w]
                              rfl
                            refine one_ (i := 6) (N := some 58) #[true, true, true, true, true, true, true, false, false, false, false, false, false, false, false, false, false, false, false, false, false, false, false, false, false, false, false, false, false] rfl rfl (one_of HT_.out (by kernel_rfl)) (by decide) (fun K hK => ?_)
                            refine goes_ Try.func35 (by kernel_rfl) rfl #[.agg #[.string t482, .int .i64 t483, .int .i64 t484, .int .i64 t485, .int .i64 t486]] (by rfl) rfl rfl q_10 ?_
                            with_reducible refine (diacriticref01_Left.calls t482 t483 t484 t485 t486 t500 _ A29.out).mono ?_
                            rintro e w70 ⟨rfl, hb⟩
                            refine ⟨_, rfl, ?_⟩
                            have n0_ := Aside0.mk (blk_below (g := gb477) (o := .cells #[.string t482, .int .i64 t483, .int .i64 t484, .int .i64 t485, .int .i64 t486] 54 (0, 0)) q_80 hb)
                            have n1_ := Aside0.mk (IsS68.below q_93 hb)
                            have n2_ := Aside0.mk (blk_below (g := gb480) (o := .cells #[.int .i64 ((rd_T56 l2 x35_2).f0), .int .i64 ((rd_T56 l2 x35_2).f1), .int .i64 ((rd_T56 l2 x35_2).f2), .string ((rd_T56 l2 x35_2).f3)] 56 (0, 0)) q_89 hb)
                            have n3_ := Aside0.mk (blk_below (g := gb493) (o := .cells #[.string t482, .int .i64 t483, .int .i64 t484, .int .i64 t485, .int .i64 t486] 54 (0, 0)) q_92 hb)
                            have n4_ := Aside0.mk (below_step q_94 hb)
                            clear BK477
                            clear HI476
                            clear BK480
                            clear BK493
                            clear HB
                            have BK477 := n0_
                            have HI476 := n1_
                            have BK480 := n2_
                            have BK493 := n3_
                            have HB := n4_
                            clear n0_ n1_ n2_ n3_ n4_
                            (try clear hb)
                            (try clear hb2)
                            (try clear hk)
                            (try clear hi)
                            refine hK.out _ _ ⟨(blk_cell BK477.out 0).trans rfl, (blk_cell BK477.out 1).trans rfl, (blk_cell BK477.out 2).trans rfl, (blk_cell BK477.out 3).trans rfl, (blk_cell BK477.out 4).trans rfl⟩ (fun hHeld => ?_)
                            clear hK K
                            refine norm_ (a' := ?_) ?_ ?_
                            rotate_left
                            · show Act.put _ (some 58) _ = _
                              simp only [Act.put, List.setIfInBounds_toArray, List.set_cons_zero, List.set_cons_succ, i64_w, i32_w]
                              rfl
                            refine pure_ (i := 7) (N := some 59) (v := ?_) (a' := ?_) #[true, true, true, true, true, true, true, true, false, false, false, false, false, false, false, false, false, false, false, false, false, false, false, false, false, false, false, false, false] rfl rfl (any_of HT_.out (by kernel_rfl)) (fun _ _ _ h => h) (Or.inl ⟨by rfl, ?_⟩) ?_ ?_
                            rotate_left
                            · intro w'
                              go_simp
                              with_reducible rfl
                            rotate_left
                            · simp only [Act.put, List.setIfInBounds_toArray, List.set_cons_zero, List.set_cons_succ, i64_w, i32_w]
                              rfl
                            refine pure_ (i := 8) (N := some 60) (v := ?_) (a' := ?_) #[true, true, true, true, true, true, true, true, true, false, false, false, false, false, false, false, false, false, false, false, false, false, false, false, false, false, false, false, false] rfl rfl (any_of HT_.out (by kernel_rfl)) (fun _ _ _ h => h) (Or.inl ⟨by rfl, ?_⟩) ?_ ?_
                            rotate_left
                            · intro w'
                              go_simp
                              with_reducible rfl
                            rotate_left
                            · simp only [Act.put, List.setIfInBounds_toArray, List.set_cons_zero, List.set_cons_succ, i64_w, i32_w]
                              rfl
                            refine pure_ (i := 9) (N := some 61) (v := ?_) (a' := ?_) #[true, true, true, true, true, true, true, true, true, true, false, false, false, false, false, false, false, false, false, false, false, false, false, false, false, false, false, false, false] rfl rfl (any_of HT_.out (by kernel_rfl)) (fun _ _ _ h => h) (Or.inl ⟨by rfl, ?_⟩) ?_ ?_
                            rotate_left
                            · intro w'
                              go_simp
                              with_reducible rfl
                            rotate_left
                            · simp only [Act.put, List.setIfInBounds_toArray, List.set_cons_zero, List.set_cons_succ, i64_w, i32_w]
                              rfl
                            refine pure_ (i := 10) (N := some 62) (v := ?_) (a' := ?_) #[true, true, true, true, true, true, true, true, true, true, true, false, false, false, false, false, false, false, false, false, false, false, false, false, false, false, false, false, false] rfl rfl (any_of HT_.out (by kernel_rfl)) (fun _ _ _ h => h) (Or.inl ⟨by rfl, ?_⟩) ?_ ?_
                            rotate_left
                            · intro w'
                              go_simp
                              with_reducible rfl
                            rotate_left
                            · simp only [Act.put, List.setIfInBounds_toArray, List.set_cons_zero, List.set_cons_succ, i64_w, i32_w]
                              rfl
                            refine pure_ (i := 12) (N := some 64) (v := ?_) (a' := ?_) #[true, true, true, true, true, true, true, true, true, true, true, false, true, false, false, false, false, false, false, false, false, false, false, false, false, false, false, false, false] rfl rfl (any_of HT_.out (by kernel_rfl)) (fun _ _ _ h => h) (Or.inl ⟨by rfl, ?_⟩) ?_ ?_
                            rotate_left
                            · intro w'
                              go_simp
                              with_reducible rfl
                            rotate_left
                            · simp only [Act.put, List.setIfInBounds_toArray, List.set_cons_zero, List.set_cons_succ, i64_w, i32_w]
                              rfl
                            refine pure_ (i := 14) (N := some 66) (v := ?_) (a' := ?_) #[true, true, true, true, true, true, true, true, true, true, true, false, true, false, true, false, false, false, false, false, false, false, false, false, false, false, false, false, false] rfl rfl (any_of HT_.out (by kernel_rfl)) (fun _ _ _ h => h) (Or.inl ⟨by rfl, ?_⟩) ?_ ?_
                            rotate_left
                            · intro w'
                              go_simp
                              with_reducible rfl
                            rotate_left
                            · simp only [Act.put, List.setIfInBounds_toArray, List.set_cons_zero, List.set_cons_succ, i64_w, i32_w]
                              rfl
                            refine take_ (i := 13) (N := some 65) (v := ?_) (a' := ?_) #[true, true, true, true, true, true, true, true, true, true, true, false, true, true, true, false, false, false, false, false, false, false, false, false, false, false, false, false, false] rfl rfl (take_ofW HT_.out HW_.out (by kernel_rfl)) (fun _ _ _ h => h) (Or.inl ⟨by rfl, ?_⟩) hHeld ?_ ?_
                            rotate_left
                            · rintro w' ⟨s0, s1, s2, s3, s4⟩
                              go_simp
                              with_reducible rfl
                            rotate_left
                            · simp only [Act.put, List.setIfInBounds_toArray, List.set_cons_zero, List.set_cons_succ, i64_w, i32_w]
                              rfl
                            refine take_ (i := 15) (N := some 67) (v := ?_) (a' := ?_) #[true, true, true, true, true, true, true, true, true, true, true, false, true, true, true, true, false, false, false, false, false, false, false, false, false, false, false, false, false] rfl rfl (take_ofW HT_.out HW_.out (by kernel_rfl)) (fun _ _ _ h => h) (Or.inl ⟨by rfl, ?_⟩) hHeld ?_ ?_
                            rotate_left
                            · rintro w' ⟨s0, s1, s2, s3, s4⟩
                              go_simp
                              with_reducible rfl
                            rotate_left
                            · simp only [Act.put, List.setIfInBounds_toArray, List.set_cons_zero, List.set_cons_succ, i64_w, i32_w]
                              rfl
                            refine pure_ (i := 16) (N := some 68) (v := ?_) (a' := ?_) #[true, true, true, true, true, true, true, true, true, true, true, false, true, true, true, true, true, false, false, false, false, false, false, false, false, false, false, false, false] rfl rfl (any_of HT_.out (by kernel_rfl)) (fun _ _ _ h => h) (Or.inl ⟨by rfl, ?_⟩) ?_ ?_
                            rotate_left
                            · intro w'
                              go_simp
                              with_reducible rfl
                            rotate_left
                            · simp only [Act.put, List.setIfInBounds_toArray, List.set_cons_zero, List.set_cons_succ, i64_w, i32_w]
                              rfl
                            refine one_ (i := 11) (N := some 63) #[true, true, true, true, true, true, true, true, true, true, true, true, true, true, true, true, true, false, false, false, false, false, false, false, false, false, false, false, false] rfl rfl (one_of HT_.out (by kernel_rfl)) (by decide) (fun K hK => ?_)
                            refine goes_ Try.func36 (by kernel_rfl) rfl #[.pointer (some ⟨g476, 0, none⟩)] (by rfl) rfl rfl q_10 ?_
                            with_reducible refine (octet_In_At.calls g476 t495 t496 t497 t498 t499 t501 t502 t503 t504 t505 t506 w _ ?side1 ?side2 A31.out).mono ?_
                            (case side1 => repeat (first | (with_reducible first | exact HI476.out | apply IsS68.alloc | apply IsS68.drewN | apply IsS68.drew | apply IsS68.set_0 | apply IsS68.set_1 | apply IsS68.set_2 | apply IsS68.set_3 | apply IsS68.set_4 | refine IsS68.far ?_ NB476_477.out _ | apply IsS68.far (hne := NB476_477.out) | refine IsS68.far ?_ NB476_480.out _ | apply IsS68.far (hne := NB476_480.out) | refine IsS68.far ?_ NB476_493.out _ | apply IsS68.far (hne := NB476_493.out)) | exact HI476.out))
                            (case side2 => repeat (first | (with_reducible first | exact HB.out | apply below_alloc | apply pw_below_drewN | apply below_drew1 | refine below_set ?_ (IsS68.ge HI476.out) | refine below_set ?_ GE477.out | refine below_set ?_ GE480.out | refine below_set ?_ GE493.out) | exact HB.out))
                            rintro e w71 ⟨rfl, hi, hb, hk⟩
                            refine ⟨_, rfl, ?_⟩
                            have n0_ := Aside0.mk (KeepBut.blk hk (g' := gb477) (o := .cells #[.string t482, .int .i64 t483, .int .i64 t484, .int .i64 t485, .int .i64 t486] 54 (0, 0)) q_80 NB477_476.out (by simp))
                            have n1_ := Aside0.mk (KeepBut.blk hk (g' := gb480) (o := .cells #[.int .i64 ((rd_T56 l2 x35_2).f0), .int .i64 ((rd_T56 l2 x35_2).f1), .int .i64 ((rd_T56 l2 x35_2).f2), .string ((rd_T56 l2 x35_2).f3)] 56 (0, 0)) q_89 NB480_476.out (by simp))
                            have n2_ := Aside0.mk (KeepBut.blk hk (g' := gb493) (o := .cells #[.string t482, .int .i64 t483, .int .i64 t484, .int .i64 t485, .int .i64 t486] 54 (0, 0)) q_92 NB493_476.out (by simp))
                            have n3_ := Aside0.mk (hb)
                            have n4_ := Aside0.mk (hi)
                            clear BK477
                            clear BK480
                            clear BK493
                            clear HB
                            clear HI476
                            have BK477 := n0_
                            have BK480 := n1_
                            have BK493 := n2_
                            have HB := n3_
                            have HI476 := n4_
                            clear n0_ n1_ n2_ n3_ n4_
                            (try clear hb)
                            (try clear hb2)
                            (try clear hk)
                            (try clear hi)
                            refine hK.out _ _ ⟨(blk_cell BK477.out 0).trans rfl, (blk_cell BK477.out 1).trans rfl, (blk_cell BK477.out 2).trans rfl, (blk_cell BK477.out 3).trans rfl, (blk_cell BK477.out 4).trans rfl⟩ (fun hHeld => ?_)
                            clear hK K
                            refine norm_ (a' := ?_) ?_ ?_
                            rotate_left
                            · show Act.put _ (some 63) _ = _
                              simp only [Act.put, List.setIfInBounds_toArray, List.set_cons_zero, List.set_cons_succ, i64_w, i32_w]
                              rfl
                            refine pure_ (i := 17) (N := some 69) (v := ?_) (a' := ?_) #[true, true, true, true, true, true, true, true, true, true, true, true, true, true, true, true, true, true, false, false, false, false, false, false, false, false, false, false, false] rfl rfl (any_of HT_.out (by kernel_rfl)) (fun _ _ _ h => h) (Or.inl ⟨by rfl, ?_⟩) ?_ ?_
                            rotate_left
                            · intro w'
                              go_simp
                              with_reducible rfl
                            rotate_left
                            · simp only [Act.put, List.setIfInBounds_toArray, List.set_cons_zero, List.set_cons_succ, i64_w, i32_w]
                              rfl
                            refine pure_ (i := 18) (N := some 70) (v := ?_) (a' := ?_) #[true, true, true, true, true, true, true, true, true, true, true, true, true, true, true, true, true, true, true, false, false, false, false, false, false, false, false, false, false] rfl rfl (any_of HT_.out (by kernel_rfl)) (fun _ _ _ h => h) (Or.inl ⟨by rfl, ?_⟩) ?_ ?_
                            rotate_left
                            · intro w'
                              go_simp
                              with_reducible rfl
                            rotate_left
                            · simp only [Act.put, List.setIfInBounds_toArray, List.set_cons_zero, List.set_cons_succ, i64_w, i32_w]
                              rfl
                            refine pure_ (i := 19) (N := some 71) (v := ?_) (a' := ?_) #[true, true, true, true, true, true, true, true, true, true, true, true, true, true, true, true, true, true, true, true, false, false, false, false, false, false, false, false, false] rfl rfl (any_of HT_.out (by kernel_rfl)) (fun _ _ _ h => h) (Or.inl ⟨by rfl, ?_⟩) ?_ ?_
                            rotate_left
                            · intro w'
                              go_simp
                              with_reducible rfl
                            rotate_left
                            · simp only [Act.put, List.setIfInBounds_toArray, List.set_cons_zero, List.set_cons_succ, i64_w, i32_w]
                              rfl
                            refine pure_ (i := 20) (N := some 72) (v := ?_) (a' := ?_) #[true, true, true, true, true, true, true, true, true, true, true, true, true, true, true, true, true, true, true, true, true, false, false, false, false, false, false, false, false] rfl rfl (any_of HT_.out (by kernel_rfl)) (fun _ _ _ h => h) (Or.inl ⟨by rfl, ?_⟩) ?_ ?_
                            rotate_left
                            · intro w'
                              go_simp
                              with_reducible rfl
                            rotate_left
                            · simp only [Act.put, List.setIfInBounds_toArray, List.set_cons_zero, List.set_cons_succ, i64_w, i32_w]
                              rfl
                            refine pure_ (i := 22) (N := some 74) (v := ?_) (a' := ?_) #[true, true, true, true, true, true, true, true, true, true, true, true, true, true, true, true, true, true, true, true, true, false, true, false, false, false, false, false, false] rfl rfl (any_of HT_.out (by kernel_rfl)) (fun _ _ _ h => h) (Or.inl ⟨by rfl, ?_⟩) ?_ ?_
                            rotate_left
                            · intro w'
                              go_simp
                              with_reducible rfl
                            rotate_left
                            · simp only [Act.put, List.setIfInBounds_toArray, List.set_cons_zero, List.set_cons_succ, i64_w, i32_w]
                              rfl
                            refine pure_ (i := 24) (N := some 76) (v := ?_) (a' := ?_) #[true, true, true, true, true, true, true, true, true, true, true, true, true, true, true, true, true, true, true, true, true, false, true, false, true, false, false, false, false] rfl rfl (any_of HT_.out (by kernel_rfl)) (fun _ _ _ h => h) (Or.inl ⟨by rfl, ?_⟩) ?_ ?_
                            rotate_left
                            · intro w'
                              go_simp
                              with_reducible rfl
                            rotate_left
                            · simp only [Act.put, List.setIfInBounds_toArray, List.set_cons_zero, List.set_cons_succ, i64_w, i32_w]
                              rfl
                            refine take_ (i := 23) (N := some 75) (v := ?_) (a' := ?_) #[true, true, true, true, true, true, true, true, true, true, true, true, true, true, true, true, true, true, true, true, true, false, true, true, true, false, false, false, false] rfl rfl (take_ofW HT_.out HW_.out (by kernel_rfl)) (fun _ _ _ h => h) (Or.inl ⟨by rfl, ?_⟩) hHeld ?_ ?_
                            rotate_left
                            · rintro w' ⟨s0, s1, s2, s3, s4⟩
                              go_simp
                              with_reducible rfl
                            rotate_left
                            · simp only [Act.put, List.setIfInBounds_toArray, List.set_cons_zero, List.set_cons_succ, i64_w, i32_w]
                              rfl
                            refine take_ (i := 25) (N := some 77) (v := ?_) (a' := ?_) #[true, true, true, true, true, true, true, true, true, true, true, true, true, true, true, true, true, true, true, true, true, false, true, true, true, true, false, false, false] rfl rfl (take_ofW HT_.out HW_.out (by kernel_rfl)) (fun _ _ _ h => h) (Or.inl ⟨by rfl, ?_⟩) hHeld ?_ ?_
                            rotate_left
                            · rintro w' ⟨s0, s1, s2, s3, s4⟩
                              go_simp
                              with_reducible rfl
                            rotate_left
                            · simp only [Act.put, List.setIfInBounds_toArray, List.set_cons_zero, List.set_cons_succ, i64_w, i32_w]
                              rfl
                            refine pure_ (i := 26) (N := some 78) (v := ?_) (a' := ?_) #[true, true, true, true, true, true, true, true, true, true, true, true, true, true, true, true, true, true, true, true, true, false, true, true, true, true, true, false, false] rfl rfl (any_of HT_.out (by kernel_rfl)) (fun _ _ _ h => h) (Or.inl ⟨by rfl, ?_⟩) ?_ ?_
                            rotate_left
                            · intro w'
                              go_simp
                              with_reducible rfl
                            rotate_left
                            · simp only [Act.put, List.setIfInBounds_toArray, List.set_cons_zero, List.set_cons_succ, i64_w, i32_w]
                              rfl
                            refine one_ (i := 21) (N := some 73) #[true, true, true, true, true, true, true, true, true, true, true, true, true, true, true, true, true, true, true, true, true, true, true, true, true, true, true, false, false] rfl rfl (one_of HT_.out (by kernel_rfl)) (by decide) (fun K hK => ?_)
                            refine goes_ Try.func16 (by kernel_rfl) rfl #[.pointer (some ⟨g476, 0, none⟩)] (by rfl) rfl rfl q_10 ?_
                            with_reducible refine (octet_In_Fault.calls g476 t502 t503 t504 t505 t506 t507 t508 t509 t510 t511 t512 t513 w _ ?side1 ?side2 A33.out).mono ?_
                            (case side1 => repeat (first | (with_reducible first | exact HI476.out | apply IsS68.alloc | apply IsS68.drewN | apply IsS68.drew | apply IsS68.set_0 | apply IsS68.set_1 | apply IsS68.set_2 | apply IsS68.set_3 | apply IsS68.set_4 | refine IsS68.far ?_ NB476_477.out _ | apply IsS68.far (hne := NB476_477.out) | refine IsS68.far ?_ NB476_480.out _ | apply IsS68.far (hne := NB476_480.out) | refine IsS68.far ?_ NB476_493.out _ | apply IsS68.far (hne := NB476_493.out)) | exact HI476.out))
                            (case side2 => repeat (first | (with_reducible first | exact HB.out | apply below_alloc | apply pw_below_drewN | apply below_drew1 | refine below_set ?_ (IsS68.ge HI476.out) | refine below_set ?_ GE477.out | refine below_set ?_ GE480.out | refine below_set ?_ GE493.out) | exact HB.out))
                            rintro e w72 ⟨rfl, hi, hb, hk⟩
                            refine ⟨_, rfl, ?_⟩
                            have n0_ := Aside0.mk (KeepBut.blk hk (g' := gb477) (o := .cells #[.string t482, .int .i64 t483, .int .i64 t484, .int .i64 t485, .int .i64 t486] 54 (0, 0)) q_80 NB477_476.out (by simp))
                            have n1_ := Aside0.mk (KeepBut.blk hk (g' := gb480) (o := .cells #[.int .i64 ((rd_T56 l2 x35_2).f0), .int .i64 ((rd_T56 l2 x35_2).f1), .int .i64 ((rd_T56 l2 x35_2).f2), .string ((rd_T56 l2 x35_2).f3)] 56 (0, 0)) q_89 NB480_476.out (by simp))
                            have n2_ := Aside0.mk (KeepBut.blk hk (g' := gb493) (o := .cells #[.string t482, .int .i64 t483, .int .i64 t484, .int .i64 t485, .int .i64 t486] 54 (0, 0)) q_92 NB493_476.out (by simp))
                            have n3_ := Aside0.mk (hb)
                            have n4_ := Aside0.mk (hi)
                            clear BK477
                            clear BK480
                            clear BK493
                            clear HB
                            clear HI476
                            have BK477 := n0_
                            have BK480 := n1_
                            have BK493 := n2_
                            have HB := n3_
                            have HI476 := n4_
                            clear n0_ n1_ n2_ n3_ n4_
                            (try clear hb)
                            (try clear hb2)
                            (try clear hk)
                            (try clear hi)
                            refine hK.out _ _ ⟨(blk_cell BK477.out 0).trans rfl, (blk_cell BK477.out 1).trans rfl, (blk_cell BK477.out 2).trans rfl, (blk_cell BK477.out 3).trans rfl, (blk_cell BK477.out 4).trans rfl⟩ (fun hHeld => ?_)
                            clear hK K
                            refine norm_ (a' := ?_) ?_ ?_
                            rotate_left
                            · show Act.put _ (some 73) _ = _
                              simp only [Act.put, List.setIfInBounds_toArray, List.set_cons_zero, List.set_cons_succ, i64_w, i32_w]
                              rfl
                            refine pure_ (i := 27) (N := some 79) (v := ?_) (a' := ?_) #[true, true, true, true, true, true, true, true, true, true, true, true, true, true, true, true, true, true, true, true, true, true, true, true, true, true, true, true, false] rfl rfl (any_of HT_.out (by kernel_rfl)) (fun _ _ _ h => h) (Or.inl ⟨by rfl, ?_⟩) ?_ ?_
                            rotate_left
                            · intro w'
                              go_simp
                              with_reducible rfl
                            rotate_left
                            · simp only [Act.put, List.setIfInBounds_toArray, List.set_cons_zero, List.set_cons_succ, i64_w, i32_w]
                              rfl
                            refine pure_ (i := 28) (N := some 80) (v := ?_) (a' := ?_) #[true, true, true, true, true, true, true, true, true, true, true, true, true, true, true, true, true, true, true, true, true, true, true, true, true, true, true, true, true] rfl rfl (any_of HT_.out (by kernel_rfl)) (fun _ _ _ h => h) (Or.inl ⟨by rfl, ?_⟩) ?_ ?_
                            rotate_left
                            · intro w'
                              go_simp
                              with_reducible rfl
                            rotate_left
                            · simp only [Act.put, List.setIfInBounds_toArray, List.set_cons_zero, List.set_cons_succ, i64_w, i32_w]
                              rfl
                            refine done_ (done_of HT_.out (by kernel_rfl)) ?_
                            try go_wp2
                            go_roundg k2
                            case measure => have := HJ3.out; have := HK2.out; omega
                            case rel => exact ⟨(wrap64 (x35_2 + 1)), (t509), (t510), (t511), (t512), (t513), (t482), (t483), (t484), (t485), (t486), q_7, H', ⟨by have := HJ3.out; have := HK2.out; omega⟩, ⟨q_80⟩, ⟨q_93⟩, ⟨q_94⟩⟩
                        · rw [if_neg c32] at H
                          have c32b0 : (t501 == (wrap64 (t484 + t483))) = false := beq_eq_false_iff_ne.mpr c32
                          have c32b1 : (t501 != (wrap64 (t484 + t483))) = true := bne_iff_ne.mpr c32
                          obtain rfl := Option.some.inj H
                          have p479 : 0 ≤ (x35_2 : Int) := of_decide_eq_true q_12
                          have q479 : x35_2 < (l2.length : Int) := of_decide_eq_true q_12
                          obtain ⟨ad479, e479, hx479_0, hx479_1, hx479_2, hx479_3⟩ := at_T56 HR2.out x35_2 p479 q479
                          cases e479
                          replace hx479_0 := (HB.out.cell (World.block_lt_of_cell? w _ hx479_0)).trans hx479_0
                          replace hx479_1 := (HB.out.cell (World.block_lt_of_cell? w _ hx479_1)).trans hx479_1
                          replace hx479_2 := (HB.out.cell (World.block_lt_of_cell? w _ hx479_2)).trans hx479_2
                          replace hx479_3 := (HB.out.cell (World.block_lt_of_cell? w _ hx479_3)).trans hx479_3
                          replace p479 := eq_true p479
                          replace q479 := eq_true q479
                          try go_wp2_with (first | ((with_reducible refine gate_dst (N := 10) rfl ?_); (try (refine gate_guard (by rfl) ?_; dsimp only)); refine box_event ?hg (N := 10) ?hd (cs := #[.int .i64 0, .int .i64 0, .int .i64 0, .string (⟨#[]⟩ : ByteArray)]) (t := 56) ?hr ?_; (case hd => rfl); (case hg => rfl); (case hr => first | (go_simp; done) | (go_simp; rfl)); intro gb480 hg w73 hbox hb; have n0_ := Aside0.mk (blk_below (g := gb477) (o := .cells #[.string x478000_2, .int .i64 x478001_2, .int .i64 x478002_2, .int .i64 x478003_2, .int .i64 x478004_2] 54 (0, 0)) q_80 hb); have n1_ := Aside0.mk (IsS68.below q_81 hb); have n2_ := Aside0.mk (below_step q_82 hb); have n3_ := Aside0.mk (hbox); have n4_ := Aside0.mk ((by rw [hg]; exact (below_size q_82) : w.heap.size ≤ gb480)); have n5_ := Aside0.mk ((by rw [hg]; exact (below_size q_82) : w.heap.size ≤ gb480)); have n6_ := Aside0.mk ((q_117 : gb477 ≠ gb480)); have n7_ := Aside0.mk ((q_118 : gb480 ≠ gb477)); have n8_ := Aside0.mk ((q_83 : g476 ≠ gb480)); have n9_ := Aside0.mk ((q_84 : gb480 ≠ g476)); clear BK477; clear HI476; clear HB; have BK477 := n0_; have HI476 := n1_; have HB := n2_; have BK480 := n3_; have GW480 := n4_; have GE480 := n5_; have NB477_480 := n6_; have NB480_477 := n7_; have NB476_480 := n8_; have NB480_476 := n9_; clear n0_ n1_ n2_ n3_ n4_ n5_ n6_ n7_ n8_ n9_; clear hb hbox hg; have hnb74 := NB480_477.out; have hnc74 := NB477_480.out; have hnb75 := NB480_476.out; have hnc75 := NB476_480.out; obtain ⟨hcz76_0, hcz76_1, hcz76_2, hcz76_3, hfz76_0, hfz76_1, hfz76_2, hfz76_3⟩ := cells4_ BK480.out; have hnb77 := NB477_476.out; have hnc77 := NB476_477.out; obtain ⟨hcz78_0, hcz78_1, hcz78_2, hcz78_3, hcz78_4, hfz78_0, hfz78_1, hfz78_2, hfz78_3, hfz78_4⟩ := cells5_ BK477.out) | ((with_reducible refine gate_callee (f := 34) rfl ?_); refine goesL_ (some 48) rfl rfl Try.func34 (by kernel_rfl) rfl #[.pointer (some ⟨g476, 0, none⟩), .agg #[.string x478000_2, .int .i64 x478001_2, .int .i64 x478002_2, .int .i64 x478003_2, .int .i64 x478004_2], .agg #[.int .i64 ((rd_T56 l2 x35_2).f0), .int .i64 ((rd_T56 l2 x35_2).f1), .int .i64 ((rd_T56 l2 x35_2).f2), .string ((rd_T56 l2 x35_2).f3)]] rfl q_10 ?_; (with_reducible refine (diacriticlaw01_do.calls k2 g476 x477000_2 x477001_2 x477002_2 x477003_2 x477004_2 x478000_2 x478001_2 x478002_2 x478003_2 x478004_2 ((rd_T56 l2 x35_2).f0) ((rd_T56 l2 x35_2).f1) ((rd_T56 l2 x35_2).f2) ((rd_T56 l2 x35_2).f3) t482 t483 t484 t485 t486 true t488 t489 t490 t491 t492 w _ ?side1 ?side2 A26.out).mono ?_); (case side1 => repeat (first | (with_reducible first | exact HI476.out | apply IsS68.alloc | apply IsS68.drewN | apply IsS68.drew | apply IsS68.set_0 | apply IsS68.set_1 | apply IsS68.set_2 | apply IsS68.set_3 | apply IsS68.set_4 | refine IsS68.far ?_ NB476_477.out _ | apply IsS68.far (hne := NB476_477.out) | refine IsS68.far ?_ NB476_480.out _ | apply IsS68.far (hne := NB476_480.out)) | exact HI476.out)); (case side2 => repeat (first | (with_reducible first | exact HB.out | apply below_alloc | apply pw_below_drewN | apply below_drew1 | refine below_set ?_ (IsS68.ge HI476.out) | refine below_set ?_ GE477.out | refine below_set ?_ GE480.out) | exact HB.out)); rintro e w79 ⟨rfl, hi, hb, hk⟩; refine ⟨_, rfl, ?_⟩; have n0_ := Aside0.mk (KeepBut.blk hk (g' := gb477) (o := .cells #[.string x478000_2, .int .i64 x478001_2, .int .i64 x478002_2, .int .i64 x478003_2, .int .i64 x478004_2] 54 (0, 0)) q_85 NB477_476.out (by simp)); have n1_ := Aside0.mk (KeepBut.blk hk (g' := gb480) (o := .cells #[.int .i64 ((rd_T56 l2 x35_2).f0), .int .i64 ((rd_T56 l2 x35_2).f1), .int .i64 ((rd_T56 l2 x35_2).f2), .string ((rd_T56 l2 x35_2).f3)] 56 (0, 0)) q_86 NB480_476.out (by simp)); have n2_ := Aside0.mk (hb); have n3_ := Aside0.mk (hi); clear BK477; clear BK480; clear HB; clear HI476; have BK477 := n0_; have BK480 := n1_; have HB := n2_; have HI476 := n3_; clear n0_ n1_ n2_ n3_; (try clear hb); (try clear hb2); (try clear hk); (try clear hi)) | ((with_reducible refine gate_dst (N := 11) rfl ?_); (try (refine gate_guard (by rfl) ?_; dsimp only)); refine box_event ?hg (N := 11) ?hd (cs := #[.string (⟨#[]⟩ : ByteArray), .int .i64 0, .int .i64 0, .int .i64 0, .int .i64 0]) (t := 54) ?hr ?_; (case hd => rfl); (case hg => rfl); (case hr => first | (go_simp; done) | (go_simp; rfl)); intro gb493 hg w80 hbox hb; have n0_ := Aside0.mk (blk_below (g := gb477) (o := .cells #[.string x478000_2, .int .i64 x478001_2, .int .i64 x478002_2, .int .i64 x478003_2, .int .i64 x478004_2] 54 (0, 0)) q_80 hb); have n1_ := Aside0.mk (IsS68.below q_88 hb); have n2_ := Aside0.mk (blk_below (g := gb480) (o := .cells #[.int .i64 ((rd_T56 l2 x35_2).f0), .int .i64 ((rd_T56 l2 x35_2).f1), .int .i64 ((rd_T56 l2 x35_2).f2), .string ((rd_T56 l2 x35_2).f3)] 56 (0, 0)) q_89 hb); have n3_ := Aside0.mk (below_step q_87 hb); have n4_ := Aside0.mk (hbox); have n5_ := Aside0.mk ((by rw [hg]; exact (below_size q_87) : w.heap.size ≤ gb493)); have n6_ := Aside0.mk ((by rw [hg]; exact (below_size q_87) : w.heap.size ≤ gb493)); have n7_ := Aside0.mk ((q_117 : gb477 ≠ gb493)); have n8_ := Aside0.mk ((q_118 : gb493 ≠ gb477)); have n9_ := Aside0.mk ((q_119 : gb480 ≠ gb493)); have n10_ := Aside0.mk ((q_120 : gb493 ≠ gb480)); have n11_ := Aside0.mk ((q_90 : g476 ≠ gb493)); have n12_ := Aside0.mk ((q_91 : gb493 ≠ g476)); clear BK477; clear HI476; clear BK480; clear HB; have BK477 := n0_; have HI476 := n1_; have BK480 := n2_; have HB := n3_; have BK493 := n4_; have GW493 := n5_; have GE493 := n6_; have NB477_493 := n7_; have NB493_477 := n8_; have NB480_493 := n9_; have NB493_480 := n10_; have NB476_493 := n11_; have NB493_476 := n12_; clear n0_ n1_ n2_ n3_ n4_ n5_ n6_ n7_ n8_ n9_ n10_ n11_ n12_; clear hb hbox hg; have hnb81 := NB493_477.out; have hnc81 := NB477_493.out; have hnb82 := NB493_480.out; have hnc82 := NB480_493.out; have hnb83 := NB493_476.out; have hnc83 := NB476_493.out; obtain ⟨hcz84_0, hcz84_1, hcz84_2, hcz84_3, hcz84_4, hfz84_0, hfz84_1, hfz84_2, hfz84_3, hfz84_4⟩ := cells5_ BK493.out; obtain ⟨hcz85_0, hcz85_1, hcz85_2, hcz85_3, hcz85_4, hfz85_0, hfz85_1, hfz85_2, hfz85_3, hfz85_4⟩ := cells5_ BK477.out))
                          have n0_ : Aside0 (((((((((((w80.setCell ⟨gb493, 0, none⟩ (.string t482)).setCell ⟨gb493, 1, none⟩ (.int .i64 t483)).setCell ⟨gb493, 2, none⟩ (.int .i64 t484)).setCell ⟨gb493, 3, none⟩ (.int .i64 t485)).setCell ⟨gb493, 4, none⟩ (.int .i64 t486)).setCell ⟨gb477, 0, none⟩ (.string t482)).setCell ⟨gb477, 1, none⟩ (.int .i64 t483)).setCell ⟨gb477, 2, none⟩ (.int .i64 t484)).setCell ⟨gb477, 3, none⟩ (.int .i64 t485)).setCell ⟨gb477, 4, none⟩ (.int .i64 t486)).heap[gb477]? = some (.cells #[.string t482, .int .i64 t483, .int .i64 t484, .int .i64 t485, .int .i64 t486] 54 (0, 0))) := ⟨q_96⟩
                          have n1_ : Aside0 (((((((((((w80.setCell ⟨gb493, 0, none⟩ (.string t482)).setCell ⟨gb493, 1, none⟩ (.int .i64 t483)).setCell ⟨gb493, 2, none⟩ (.int .i64 t484)).setCell ⟨gb493, 3, none⟩ (.int .i64 t485)).setCell ⟨gb493, 4, none⟩ (.int .i64 t486)).setCell ⟨gb477, 0, none⟩ (.string t482)).setCell ⟨gb477, 1, none⟩ (.int .i64 t483)).setCell ⟨gb477, 2, none⟩ (.int .i64 t484)).setCell ⟨gb477, 3, none⟩ (.int .i64 t485)).setCell ⟨gb477, 4, none⟩ (.int .i64 t486)).heap[gb480]? = some (.cells #[.int .i64 ((rd_T56 l2 x35_2).f0), .int .i64 ((rd_T56 l2 x35_2).f1), .int .i64 ((rd_T56 l2 x35_2).f2), .string ((rd_T56 l2 x35_2).f3)] 56 (0, 0))) := ⟨q_97⟩
                          have n2_ : Aside0 (((((((((((w80.setCell ⟨gb493, 0, none⟩ (.string t482)).setCell ⟨gb493, 1, none⟩ (.int .i64 t483)).setCell ⟨gb493, 2, none⟩ (.int .i64 t484)).setCell ⟨gb493, 3, none⟩ (.int .i64 t485)).setCell ⟨gb493, 4, none⟩ (.int .i64 t486)).setCell ⟨gb477, 0, none⟩ (.string t482)).setCell ⟨gb477, 1, none⟩ (.int .i64 t483)).setCell ⟨gb477, 2, none⟩ (.int .i64 t484)).setCell ⟨gb477, 3, none⟩ (.int .i64 t485)).setCell ⟨gb477, 4, none⟩ (.int .i64 t486)).heap[gb493]? = some (.cells #[.string t482, .int .i64 t483, .int .i64 t484, .int .i64 t485, .int .i64 t486] 54 (0, 0))) := ⟨q_98⟩
                          have n3_ : Aside0 (IsS68 w ((((((((((w80.setCell ⟨gb493, 0, none⟩ (.string t482)).setCell ⟨gb493, 1, none⟩ (.int .i64 t483)).setCell ⟨gb493, 2, none⟩ (.int .i64 t484)).setCell ⟨gb493, 3, none⟩ (.int .i64 t485)).setCell ⟨gb493, 4, none⟩ (.int .i64 t486)).setCell ⟨gb477, 0, none⟩ (.string t482)).setCell ⟨gb477, 1, none⟩ (.int .i64 t483)).setCell ⟨gb477, 2, none⟩ (.int .i64 t484)).setCell ⟨gb477, 3, none⟩ (.int .i64 t485)).setCell ⟨gb477, 4, none⟩ (.int .i64 t486)) g476 t488 t489 t490 t491 t492) := ⟨q_93⟩
                          have n4_ : Aside0 (Below w.heap.size w ((((((((((w80.setCell ⟨gb493, 0, none⟩ (.string t482)).setCell ⟨gb493, 1, none⟩ (.int .i64 t483)).setCell ⟨gb493, 2, none⟩ (.int .i64 t484)).setCell ⟨gb493, 3, none⟩ (.int .i64 t485)).setCell ⟨gb493, 4, none⟩ (.int .i64 t486)).setCell ⟨gb477, 0, none⟩ (.string t482)).setCell ⟨gb477, 1, none⟩ (.int .i64 t483)).setCell ⟨gb477, 2, none⟩ (.int .i64 t484)).setCell ⟨gb477, 3, none⟩ (.int .i64 t485)).setCell ⟨gb477, 4, none⟩ (.int .i64 t486))) := ⟨q_94⟩
                          (try clear BK477)
                          (try clear BK480)
                          (try clear BK493)
                          (try clear HI476)
                          (try clear HB)
                          generalize ((((((((((w80.setCell ⟨gb493, 0, none⟩ (.string t482)).setCell ⟨gb493, 1, none⟩ (.int .i64 t483)).setCell ⟨gb493, 2, none⟩ (.int .i64 t484)).setCell ⟨gb493, 3, none⟩ (.int .i64 t485)).setCell ⟨gb493, 4, none⟩ (.int .i64 t486)).setCell ⟨gb477, 0, none⟩ (.string t482)).setCell ⟨gb477, 1, none⟩ (.int .i64 t483)).setCell ⟨gb477, 2, none⟩ (.int .i64 t484)).setCell ⟨gb477, 3, none⟩ (.int .i64 t485)).setCell ⟨gb477, 4, none⟩ (.int .i64 t486)) = w86 at n0_ n1_ n2_ n3_ n4_ ⊢
                          have BK477 := n0_
                          have BK480 := n1_
                          have BK493 := n2_
                          have HI476 := n3_
                          have HB := n4_
                          clear n0_ n1_ n2_ n3_ n4_
                          have n0_ := Aside0.mk (blk_drew BK477.out)
                          have n1_ := Aside0.mk (blk_drew BK480.out)
                          have n2_ := Aside0.mk (blk_drew BK493.out)
                          have n3_ := Aside0.mk (IsS68.drew HI476.out)
                          have n4_ := Aside0.mk (below_drew1 HB.out)
                          clear BK477
                          clear BK480
                          clear BK493
                          clear HI476
                          clear HB
                          have BK477 := n0_
                          have BK480 := n1_
                          have BK493 := n2_
                          have HI476 := n3_
                          have HB := n4_
                          clear n0_ n1_ n2_ n3_ n4_
                          refine start_ (n := 29) (S := fun w' => w'.cell? ⟨gb477, 0, none⟩ = some (.string t482) ∧ w'.cell? ⟨gb477, 1, none⟩ = some (.int .i64 t483) ∧ w'.cell? ⟨gb477, 2, none⟩ = some (.int .i64 t484) ∧ w'.cell? ⟨gb477, 3, none⟩ = some (.int .i64 t485) ∧ w'.cell? ⟨gb477, 4, none⟩ = some (.int .i64 t486)) (ds := []) #[false, false, false, false, false, false, false, false, false, false, false, false, false, false, false, false, false, false, false, false, false, false, false, false, false, false, false, false, false] (by kernel_rfl) rfl rfl ⟨(blk_cell BK477.out 0).trans rfl, (blk_cell BK477.out 1).trans rfl, (blk_cell BK477.out 2).trans rfl, (blk_cell BK477.out 3).trans rfl, (blk_cell BK477.out 4).trans rfl⟩ (fun hHeld => ?_); refine with_tabW diacriticlaw01_OctetReads.tab11 diacriticlaw01_OctetReads.bits11 (fun HT_ HW_ => ?_)
                          generalize w86.drew = w87 at BK477 BK480 BK493 HI476 HB hHeld ⊢
                          refine pure_ (i := 0) (N := some 52) (v := ?_) (a' := ?_) #[true, false, false, false, false, false, false, false, false, false, false, false, false, false, false, false, false, false, false, false, false, false, false, false, false, false, false, false, false] rfl rfl (any_of HT_.out (by kernel_rfl)) (fun _ _ _ h => h) (Or.inl ⟨by rfl, ?_⟩) ?_ ?_
                          rotate_left
                          · intro w'
                            go_simp
                            with_reducible rfl
                          rotate_left
                          · simp only [Act.put, List.setIfInBounds_toArray, List.set_cons_zero, List.set_cons_succ, i64_w, i32_w]
                            rfl
                          refine pure_ (i := 1) (N := some 53) (v := ?_) (a' := ?_) #[true, true, false, false, false, false, false, false, false, false, false, false, false, false, false, false, false, false, false, false, false, false, false, false, false, false, false, false, false] rfl rfl (any_of HT_.out (by kernel_rfl)) (fun _ _ _ h => h) (Or.inl ⟨by rfl, ?_⟩) ?_ ?_
                          rotate_left
                          · intro w'
                            go_simp
                            with_reducible rfl
                          rotate_left
                          · simp only [Act.put, List.setIfInBounds_toArray, List.set_cons_zero, List.set_cons_succ, i64_w, i32_w]
                            rfl
                          refine pure_ (i := 2) (N := some 54) (v := ?_) (a' := ?_) #[true, true, true, false, false, false, false, false, false, false, false, false, false, false, false, false, false, false, false, false, false, false, false, false, false, false, false, false, false] rfl rfl (any_of HT_.out (by kernel_rfl)) (fun _ _ _ h => h) (Or.inl ⟨by rfl, ?_⟩) ?_ ?_
                          rotate_left
                          · intro w'
                            go_simp
                            with_reducible rfl
                          rotate_left
                          · simp only [Act.put, List.setIfInBounds_toArray, List.set_cons_zero, List.set_cons_succ, i64_w, i32_w]
                            rfl
                          refine pure_ (i := 3) (N := some 55) (v := ?_) (a' := ?_) #[true, true, true, true, false, false, false, false, false, false, false, false, false, false, false, false, false, false, false, false, false, false, false, false, false, false, false, false, false] rfl rfl (any_of HT_.out (by kernel_rfl)) (fun _ _ _ h => h) (Or.inl ⟨by rfl, ?_⟩) ?_ ?_
                          rotate_left
                          · intro w'
                            go_simp
                            with_reducible rfl
                          rotate_left
                          · simp only [Act.put, List.setIfInBounds_toArray, List.set_cons_zero, List.set_cons_succ, i64_w, i32_w]
                            rfl
                          refine take_ (i := 5) (N := some 57) (v := ?_) (a' := ?_) #[true, true, true, true, false, true, false, false, false, false, false, false, false, false, false, false, false, false, false, false, false, false, false, false, false, false, false, false, false] rfl rfl (take_ofW HT_.out HW_.out (by kernel_rfl)) (fun _ _ _ h => h) (Or.inl ⟨by rfl, ?_⟩) hHeld ?_ ?_
                          rotate_left
                          · rintro w' ⟨s0, s1, s2, s3, s4⟩
                            go_simp
                            with_reducible rfl
                          rotate_left
                          · simp only [Act.put, List.setIfInBounds_toArray, List.set_cons_zero, List.set_cons_succ, i64_w, i32_w]
                            rfl
                          refine one_ (i := 4) (N := some 56) #[true, true, true, true, true, true, false, false, false, false, false, false, false, false, false, false, false, false, false, false, false, false, false, false, false, false, false, false, false] rfl rfl (one_of HT_.out (by kernel_rfl)) (by decide) (fun K hK => ?_)
                          refine goes_ Try.func30 (by kernel_rfl) rfl #[.pointer (some ⟨g476, 0, none⟩)] (by rfl) rfl rfl q_10 ?_
                          with_reducible refine (octet_In_Left.calls g476 t488 t489 t490 t491 t492 t494 t495 t496 t497 t498 t499 w _ ?side1 ?side2 A28.out).mono ?_
                          (case side1 => repeat (first | (with_reducible first | exact HI476.out | apply IsS68.alloc | apply IsS68.drewN | apply IsS68.drew | apply IsS68.set_0 | apply IsS68.set_1 | apply IsS68.set_2 | apply IsS68.set_3 | apply IsS68.set_4 | refine IsS68.far ?_ NB476_477.out _ | apply IsS68.far (hne := NB476_477.out) | refine IsS68.far ?_ NB476_480.out _ | apply IsS68.far (hne := NB476_480.out) | refine IsS68.far ?_ NB476_493.out _ | apply IsS68.far (hne := NB476_493.out)) | exact HI476.out))
                          (case side2 => repeat (first | (with_reducible first | exact HB.out | apply below_alloc | apply pw_below_drewN | apply below_drew1 | refine below_set ?_ (IsS68.ge HI476.out) | refine below_set ?_ GE477.out | refine below_set ?_ GE480.out | refine below_set ?_ GE493.out) | exact HB.out))
                          rintro e w88 ⟨rfl, hi, hb, hk⟩
                          refine ⟨_, rfl, ?_⟩
                          have n0_ := Aside0.mk (KeepBut.blk hk (g' := gb477) (o := .cells #[.string t482, .int .i64 t483, .int .i64 t484, .int .i64 t485, .int .i64 t486] 54 (0, 0)) q_80 NB477_476.out (by simp))
                          have n1_ := Aside0.mk (KeepBut.blk hk (g' := gb480) (o := .cells #[.int .i64 ((rd_T56 l2 x35_2).f0), .int .i64 ((rd_T56 l2 x35_2).f1), .int .i64 ((rd_T56 l2 x35_2).f2), .string ((rd_T56 l2 x35_2).f3)] 56 (0, 0)) q_89 NB480_476.out (by simp))
                          have n2_ := Aside0.mk (KeepBut.blk hk (g' := gb493) (o := .cells #[.string t482, .int .i64 t483, .int .i64 t484, .int .i64 t485, .int .i64 t486] 54 (0, 0)) q_92 NB493_476.out (by simp))
                          have n3_ := Aside0.mk (hb)
                          have n4_ := Aside0.mk (hi)
                          clear BK477
                          clear BK480
                          clear BK493
                          clear HB
                          clear HI476
                          have BK477 := n0_
                          have BK480 := n1_
                          have BK493 := n2_
                          have HB := n3_
                          have HI476 := n4_
                          clear n0_ n1_ n2_ n3_ n4_
                          (try clear hb)
                          (try clear hb2)
                          (try clear hk)
                          (try clear hi)
                          refine hK.out _ _ ⟨(blk_cell BK477.out 0).trans rfl, (blk_cell BK477.out 1).trans rfl, (blk_cell BK477.out 2).trans rfl, (blk_cell BK477.out 3).trans rfl, (blk_cell BK477.out 4).trans rfl⟩ (fun hHeld => ?_)
                          clear hK K
                          refine norm_ (a' := ?_) ?_ ?_
                          rotate_left
                          · show Act.put _ (some 56) _ = _
                            simp only [Act.put, List.setIfInBounds_toArray, List.set_cons_zero, List.set_cons_succ, i64_w, i32_w]
                            rfl
                          refine one_ (i := 6) (N := some 58) #[true, true, true, true, true, true, true, false, false, false, false, false, false, false, false, false, false, false, false, false, false, false, false, false, false, false, false, false, false] rfl rfl (one_of HT_.out (by kernel_rfl)) (by decide) (fun K hK => ?_)
                          refine goes_ Try.func35 (by kernel_rfl) rfl #[.agg #[.string t482, .int .i64 t483, .int .i64 t484, .int .i64 t485, .int .i64 t486]] (by rfl) rfl rfl q_10 ?_
                          with_reducible refine (diacriticref01_Left.calls t482 t483 t484 t485 t486 t500 _ A29.out).mono ?_
                          rintro e w89 ⟨rfl, hb⟩
                          refine ⟨_, rfl, ?_⟩
                          have n0_ := Aside0.mk (blk_below (g := gb477) (o := .cells #[.string t482, .int .i64 t483, .int .i64 t484, .int .i64 t485, .int .i64 t486] 54 (0, 0)) q_80 hb)
                          have n1_ := Aside0.mk (IsS68.below q_93 hb)
                          have n2_ := Aside0.mk (blk_below (g := gb480) (o := .cells #[.int .i64 ((rd_T56 l2 x35_2).f0), .int .i64 ((rd_T56 l2 x35_2).f1), .int .i64 ((rd_T56 l2 x35_2).f2), .string ((rd_T56 l2 x35_2).f3)] 56 (0, 0)) q_89 hb)
                          have n3_ := Aside0.mk (blk_below (g := gb493) (o := .cells #[.string t482, .int .i64 t483, .int .i64 t484, .int .i64 t485, .int .i64 t486] 54 (0, 0)) q_92 hb)
                          have n4_ := Aside0.mk (below_step q_94 hb)
                          clear BK477
                          clear HI476
                          clear BK480
                          clear BK493
                          clear HB
                          have BK477 := n0_
                          have HI476 := n1_
                          have BK480 := n2_
                          have BK493 := n3_
                          have HB := n4_
                          clear n0_ n1_ n2_ n3_ n4_
                          (try clear hb)
                          (try clear hb2)
                          (try clear hk)
                          (try clear hi)
                          refine hK.out _ _ ⟨(blk_cell BK477.out 0).trans rfl, (blk_cell BK477.out 1).trans rfl, (blk_cell BK477.out 2).trans rfl, (blk_cell BK477.out 3).trans rfl, (blk_cell BK477.out 4).trans rfl⟩ (fun hHeld => ?_)
                          clear hK K
                          refine norm_ (a' := ?_) ?_ ?_
                          rotate_left
                          · show Act.put _ (some 58) _ = _
                            simp only [Act.put, List.setIfInBounds_toArray, List.set_cons_zero, List.set_cons_succ, i64_w, i32_w]
                            rfl
                          refine pure_ (i := 7) (N := some 59) (v := ?_) (a' := ?_) #[true, true, true, true, true, true, true, true, false, false, false, false, false, false, false, false, false, false, false, false, false, false, false, false, false, false, false, false, false] rfl rfl (any_of HT_.out (by kernel_rfl)) (fun _ _ _ h => h) (Or.inl ⟨by rfl, ?_⟩) ?_ ?_
                          rotate_left
                          · intro w'
                            go_simp
                            with_reducible rfl
                          rotate_left
                          · simp only [Act.put, List.setIfInBounds_toArray, List.set_cons_zero, List.set_cons_succ, i64_w, i32_w]
                            rfl
                          refine pure_ (i := 8) (N := some 60) (v := ?_) (a' := ?_) #[true, true, true, true, true, true, true, true, true, false, false, false, false, false, false, false, false, false, false, false, false, false, false, false, false, false, false, false, false] rfl rfl (any_of HT_.out (by kernel_rfl)) (fun _ _ _ h => h) (Or.inl ⟨by rfl, ?_⟩) ?_ ?_
                          rotate_left
                          · intro w'
                            go_simp
                            with_reducible rfl
                          rotate_left
                          · simp only [Act.put, List.setIfInBounds_toArray, List.set_cons_zero, List.set_cons_succ, i64_w, i32_w]
                            rfl
                          refine pure_ (i := 9) (N := some 61) (v := ?_) (a' := ?_) #[true, true, true, true, true, true, true, true, true, true, false, false, false, false, false, false, false, false, false, false, false, false, false, false, false, false, false, false, false] rfl rfl (any_of HT_.out (by kernel_rfl)) (fun _ _ _ h => h) (Or.inl ⟨by rfl, ?_⟩) ?_ ?_
                          rotate_left
                          · intro w'
                            go_simp
                            with_reducible rfl
                          rotate_left
                          · simp only [Act.put, List.setIfInBounds_toArray, List.set_cons_zero, List.set_cons_succ, i64_w, i32_w]
                            rfl
                          refine pure_ (i := 10) (N := some 62) (v := ?_) (a' := ?_) #[true, true, true, true, true, true, true, true, true, true, true, false, false, false, false, false, false, false, false, false, false, false, false, false, false, false, false, false, false] rfl rfl (any_of HT_.out (by kernel_rfl)) (fun _ _ _ h => h) (Or.inl ⟨by rfl, ?_⟩) ?_ ?_
                          rotate_left
                          · intro w'
                            go_simp
                            with_reducible rfl
                          rotate_left
                          · simp only [Act.put, List.setIfInBounds_toArray, List.set_cons_zero, List.set_cons_succ, i64_w, i32_w]
                            rfl
                          refine pure_ (i := 12) (N := some 64) (v := ?_) (a' := ?_) #[true, true, true, true, true, true, true, true, true, true, true, false, true, false, false, false, false, false, false, false, false, false, false, false, false, false, false, false, false] rfl rfl (any_of HT_.out (by kernel_rfl)) (fun _ _ _ h => h) (Or.inl ⟨by rfl, ?_⟩) ?_ ?_
                          rotate_left
                          · intro w'
                            go_simp
                            with_reducible rfl
                          rotate_left
                          · simp only [Act.put, List.setIfInBounds_toArray, List.set_cons_zero, List.set_cons_succ, i64_w, i32_w]
                            rfl
                          refine pure_ (i := 14) (N := some 66) (v := ?_) (a' := ?_) #[true, true, true, true, true, true, true, true, true, true, true, false, true, false, true, false, false, false, false, false, false, false, false, false, false, false, false, false, false] rfl rfl (any_of HT_.out (by kernel_rfl)) (fun _ _ _ h => h) (Or.inl ⟨by rfl, ?_⟩) ?_ ?_
                          rotate_left
                          · intro w'
                            go_simp
                            with_reducible rfl
                          rotate_left
                          · simp only [Act.put, List.setIfInBounds_toArray, List.set_cons_zero, List.set_cons_succ, i64_w, i32_w]
                            rfl
                          refine take_ (i := 13) (N := some 65) (v := ?_) (a' := ?_) #[true, true, true, true, true, true, true, true, true, true, true, false, true, true, true, false, false, false, false, false, false, false, false, false, false, false, false, false, false] rfl rfl (take_ofW HT_.out HW_.out (by kernel_rfl)) (fun _ _ _ h => h) (Or.inl ⟨by rfl, ?_⟩) hHeld ?_ ?_
                          rotate_left
                          · rintro w' ⟨s0, s1, s2, s3, s4⟩
                            go_simp
                            with_reducible rfl
                          rotate_left
                          · simp only [Act.put, List.setIfInBounds_toArray, List.set_cons_zero, List.set_cons_succ, i64_w, i32_w]
                            rfl
                          refine take_ (i := 15) (N := some 67) (v := ?_) (a' := ?_) #[true, true, true, true, true, true, true, true, true, true, true, false, true, true, true, true, false, false, false, false, false, false, false, false, false, false, false, false, false] rfl rfl (take_ofW HT_.out HW_.out (by kernel_rfl)) (fun _ _ _ h => h) (Or.inl ⟨by rfl, ?_⟩) hHeld ?_ ?_
                          rotate_left
                          · rintro w' ⟨s0, s1, s2, s3, s4⟩
                            go_simp
                            with_reducible rfl
                          rotate_left
                          · simp only [Act.put, List.setIfInBounds_toArray, List.set_cons_zero, List.set_cons_succ, i64_w, i32_w]
                            rfl
                          refine pure_ (i := 16) (N := some 68) (v := ?_) (a' := ?_) #[true, true, true, true, true, true, true, true, true, true, true, false, true, true, true, true, true, false, false, false, false, false, false, false, false, false, false, false, false] rfl rfl (any_of HT_.out (by kernel_rfl)) (fun _ _ _ h => h) (Or.inl ⟨by rfl, ?_⟩) ?_ ?_
                          rotate_left
                          · intro w'
                            go_simp
                            with_reducible rfl
                          rotate_left
                          · simp only [Act.put, List.setIfInBounds_toArray, List.set_cons_zero, List.set_cons_succ, i64_w, i32_w]
                            rfl
                          refine one_ (i := 11) (N := some 63) #[true, true, true, true, true, true, true, true, true, true, true, true, true, true, true, true, true, false, false, false, false, false, false, false, false, false, false, false, false] rfl rfl (one_of HT_.out (by kernel_rfl)) (by decide) (fun K hK => ?_)
                          refine goes_ Try.func36 (by kernel_rfl) rfl #[.pointer (some ⟨g476, 0, none⟩)] (by rfl) rfl rfl q_10 ?_
                          with_reducible refine (octet_In_At.calls g476 t495 t496 t497 t498 t499 t501 t502 t503 t504 t505 t506 w _ ?side1 ?side2 A31.out).mono ?_
                          (case side1 => repeat (first | (with_reducible first | exact HI476.out | apply IsS68.alloc | apply IsS68.drewN | apply IsS68.drew | apply IsS68.set_0 | apply IsS68.set_1 | apply IsS68.set_2 | apply IsS68.set_3 | apply IsS68.set_4 | refine IsS68.far ?_ NB476_477.out _ | apply IsS68.far (hne := NB476_477.out) | refine IsS68.far ?_ NB476_480.out _ | apply IsS68.far (hne := NB476_480.out) | refine IsS68.far ?_ NB476_493.out _ | apply IsS68.far (hne := NB476_493.out)) | exact HI476.out))
                          (case side2 => repeat (first | (with_reducible first | exact HB.out | apply below_alloc | apply pw_below_drewN | apply below_drew1 | refine below_set ?_ (IsS68.ge HI476.out) | refine below_set ?_ GE477.out | refine below_set ?_ GE480.out | refine below_set ?_ GE493.out) | exact HB.out))
                          rintro e w90 ⟨rfl, hi, hb, hk⟩
                          refine ⟨_, rfl, ?_⟩
                          have n0_ := Aside0.mk (KeepBut.blk hk (g' := gb477) (o := .cells #[.string t482, .int .i64 t483, .int .i64 t484, .int .i64 t485, .int .i64 t486] 54 (0, 0)) q_80 NB477_476.out (by simp))
                          have n1_ := Aside0.mk (KeepBut.blk hk (g' := gb480) (o := .cells #[.int .i64 ((rd_T56 l2 x35_2).f0), .int .i64 ((rd_T56 l2 x35_2).f1), .int .i64 ((rd_T56 l2 x35_2).f2), .string ((rd_T56 l2 x35_2).f3)] 56 (0, 0)) q_89 NB480_476.out (by simp))
                          have n2_ := Aside0.mk (KeepBut.blk hk (g' := gb493) (o := .cells #[.string t482, .int .i64 t483, .int .i64 t484, .int .i64 t485, .int .i64 t486] 54 (0, 0)) q_92 NB493_476.out (by simp))
                          have n3_ := Aside0.mk (hb)
                          have n4_ := Aside0.mk (hi)
                          clear BK477
                          clear BK480
                          clear BK493
                          clear HB
                          clear HI476
                          have BK477 := n0_
                          have BK480 := n1_
                          have BK493 := n2_
                          have HB := n3_
                          have HI476 := n4_
                          clear n0_ n1_ n2_ n3_ n4_
                          (try clear hb)
                          (try clear hb2)
                          (try clear hk)
                          (try clear hi)
                          refine hK.out _ _ ⟨(blk_cell BK477.out 0).trans rfl, (blk_cell BK477.out 1).trans rfl, (blk_cell BK477.out 2).trans rfl, (blk_cell BK477.out 3).trans rfl, (blk_cell BK477.out 4).trans rfl⟩ (fun hHeld => ?_)
                          clear hK K
                          refine norm_ (a' := ?_) ?_ ?_
                          rotate_left
                          · show Act.put _ (some 63) _ = _
                            simp only [Act.put, List.setIfInBounds_toArray, List.set_cons_zero, List.set_cons_succ, i64_w, i32_w]
                            rfl
                          refine pure_ (i := 17) (N := some 69) (v := ?_) (a' := ?_) #[true, true, true, true, true, true, true, true, true, true, true, true, true, true, true, true, true, true, false, false, false, false, false, false, false, false, false, false, false] rfl rfl (any_of HT_.out (by kernel_rfl)) (fun _ _ _ h => h) (Or.inl ⟨by rfl, ?_⟩) ?_ ?_
                          rotate_left
                          · intro w'
                            go_simp
                            with_reducible rfl
                          rotate_left
                          · simp only [Act.put, List.setIfInBounds_toArray, List.set_cons_zero, List.set_cons_succ, i64_w, i32_w]
                            rfl
                          refine pure_ (i := 18) (N := some 70) (v := ?_) (a' := ?_) #[true, true, true, true, true, true, true, true, true, true, true, true, true, true, true, true, true, true, true, false, false, false, false, false, false, false, false, false, false] rfl rfl (any_of HT_.out (by kernel_rfl)) (fun _ _ _ h => h) (Or.inl ⟨by rfl, ?_⟩) ?_ ?_
                          rotate_left
                          · intro w'
                            go_simp
                            with_reducible rfl
                          rotate_left
                          · simp only [Act.put, List.setIfInBounds_toArray, List.set_cons_zero, List.set_cons_succ, i64_w, i32_w]
                            rfl
                          refine pure_ (i := 19) (N := some 71) (v := ?_) (a' := ?_) #[true, true, true, true, true, true, true, true, true, true, true, true, true, true, true, true, true, true, true, true, false, false, false, false, false, false, false, false, false] rfl rfl (any_of HT_.out (by kernel_rfl)) (fun _ _ _ h => h) (Or.inl ⟨by rfl, ?_⟩) ?_ ?_
                          rotate_left
                          · intro w'
                            go_simp
                            with_reducible rfl
                          rotate_left
                          · simp only [Act.put, List.setIfInBounds_toArray, List.set_cons_zero, List.set_cons_succ, i64_w, i32_w]
                            rfl
                          refine pure_ (i := 20) (N := some 72) (v := undef) (a' := ?_) #[true, true, true, true, true, true, true, true, true, true, true, true, true, true, true, true, true, true, true, true, true, false, false, false, false, false, false, false, false] rfl rfl (any_of HT_.out (by kernel_rfl)) (fun _ _ _ h => h) (Or.inr ⟨by rfl, rfl⟩) ?_ ?_
                          rotate_left
                          · simp only [Act.put, List.setIfInBounds_toArray, List.set_cons_zero, List.set_cons_succ, i64_w, i32_w]
                            rfl
                          refine pure_ (i := 21) (N := some 73) (v := undef) (a' := ?_) #[true, true, true, true, true, true, true, true, true, true, true, true, true, true, true, true, true, true, true, true, true, true, false, false, false, false, false, false, false] rfl rfl (any_of HT_.out (by kernel_rfl)) (fun _ _ _ h => h) (Or.inr ⟨by rfl, rfl⟩) ?_ ?_
                          rotate_left
                          · simp only [Act.put, List.setIfInBounds_toArray, List.set_cons_zero, List.set_cons_succ, i64_w, i32_w]
                            rfl
                          refine pure_ (i := 22) (N := some 74) (v := undef) (a' := ?_) #[true, true, true, true, true, true, true, true, true, true, true, true, true, true, true, true, true, true, true, true, true, true, true, false, false, false, false, false, false] rfl rfl (any_of HT_.out (by kernel_rfl)) (fun _ _ _ h => h) (Or.inr ⟨by rfl, rfl⟩) ?_ ?_
                          rotate_left
                          · simp only [Act.put, List.setIfInBounds_toArray, List.set_cons_zero, List.set_cons_succ, i64_w, i32_w]
                            rfl
                          refine pure_ (i := 23) (N := some 75) (v := undef) (a' := ?_) #[true, true, true, true, true, true, true, true, true, true, true, true, true, true, true, true, true, true, true, true, true, true, true, true, false, false, false, false, false] rfl rfl (any_of HT_.out (by kernel_rfl)) (fun _ _ _ h => h) (Or.inr ⟨by rfl, rfl⟩) ?_ ?_
                          rotate_left
                          · simp only [Act.put, List.setIfInBounds_toArray, List.set_cons_zero, List.set_cons_succ, i64_w, i32_w]
                            rfl
                          refine pure_ (i := 24) (N := some 76) (v := undef) (a' := ?_) #[true, true, true, true, true, true, true, true, true, true, true, true, true, true, true, true, true, true, true, true, true, true, true, true, true, false, false, false, false] rfl rfl (any_of HT_.out (by kernel_rfl)) (fun _ _ _ h => h) (Or.inr ⟨by rfl, rfl⟩) ?_ ?_
                          rotate_left
                          · simp only [Act.put, List.setIfInBounds_toArray, List.set_cons_zero, List.set_cons_succ, i64_w, i32_w]
                            rfl
                          refine pure_ (i := 25) (N := some 77) (v := undef) (a' := ?_) #[true, true, true, true, true, true, true, true, true, true, true, true, true, true, true, true, true, true, true, true, true, true, true, true, true, true, false, false, false] rfl rfl (any_of HT_.out (by kernel_rfl)) (fun _ _ _ h => h) (Or.inr ⟨by rfl, rfl⟩) ?_ ?_
                          rotate_left
                          · simp only [Act.put, List.setIfInBounds_toArray, List.set_cons_zero, List.set_cons_succ, i64_w, i32_w]
                            rfl
                          refine pure_ (i := 26) (N := some 78) (v := undef) (a' := ?_) #[true, true, true, true, true, true, true, true, true, true, true, true, true, true, true, true, true, true, true, true, true, true, true, true, true, true, true, false, false] rfl rfl (any_of HT_.out (by kernel_rfl)) (fun _ _ _ h => h) (Or.inr ⟨by rfl, rfl⟩) ?_ ?_
                          rotate_left
                          · simp only [Act.put, List.setIfInBounds_toArray, List.set_cons_zero, List.set_cons_succ, i64_w, i32_w]
                            rfl
                          refine pure_ (i := 27) (N := some 79) (v := undef) (a' := ?_) #[true, true, true, true, true, true, true, true, true, true, true, true, true, true, true, true, true, true, true, true, true, true, true, true, true, true, true, true, false] rfl rfl (any_of HT_.out (by kernel_rfl)) (fun _ _ _ h => h) (Or.inr ⟨by rfl, rfl⟩) ?_ ?_
                          rotate_left
                          · simp only [Act.put, List.setIfInBounds_toArray, List.set_cons_zero, List.set_cons_succ, i64_w, i32_w]
                            rfl
                          refine pure_ (i := 28) (N := some 80) (v := ?_) (a' := ?_) #[true, true, true, true, true, true, true, true, true, true, true, true, true, true, true, true, true, true, true, true, true, true, true, true, true, true, true, true, true] rfl rfl (any_of HT_.out (by kernel_rfl)) (fun _ _ _ h => h) (Or.inl ⟨by rfl, ?_⟩) ?_ ?_
                          rotate_left
                          · intro w'
                            go_simp
                            with_reducible rfl
                          rotate_left
                          · simp only [Act.put, List.setIfInBounds_toArray, List.set_cons_zero, List.set_cons_succ, i64_w, i32_w]
                            rfl
                          refine done_ (done_of HT_.out (by kernel_rfl)) ?_
                          try go_wp2
                          go_ret
                          exact ⟨q_95, q_94⟩
                      · rw [if_neg c30] at H
                        have c30b0 : (t494 == t500) = false := beq_eq_false_iff_ne.mpr c30
                        have c30b1 : (t494 != t500) = true := bne_iff_ne.mpr c30
                        obtain rfl := Option.some.inj H
                        have p479 : 0 ≤ (x35_2 : Int) := of_decide_eq_true q_12
                        have q479 : x35_2 < (l2.length : Int) := of_decide_eq_true q_12
                        obtain ⟨ad479, e479, hx479_0, hx479_1, hx479_2, hx479_3⟩ := at_T56 HR2.out x35_2 p479 q479
                        cases e479
                        replace hx479_0 := (HB.out.cell (World.block_lt_of_cell? w _ hx479_0)).trans hx479_0
                        replace hx479_1 := (HB.out.cell (World.block_lt_of_cell? w _ hx479_1)).trans hx479_1
                        replace hx479_2 := (HB.out.cell (World.block_lt_of_cell? w _ hx479_2)).trans hx479_2
                        replace hx479_3 := (HB.out.cell (World.block_lt_of_cell? w _ hx479_3)).trans hx479_3
                        replace p479 := eq_true p479
                        replace q479 := eq_true q479
                        try go_wp2_with (first | ((with_reducible refine gate_dst (N := 10) rfl ?_); (try (refine gate_guard (by rfl) ?_; dsimp only)); refine box_event ?hg (N := 10) ?hd (cs := #[.int .i64 0, .int .i64 0, .int .i64 0, .string (⟨#[]⟩ : ByteArray)]) (t := 56) ?hr ?_; (case hd => rfl); (case hg => rfl); (case hr => first | (go_simp; done) | (go_simp; rfl)); intro gb480 hg w91 hbox hb; have n0_ := Aside0.mk (blk_below (g := gb477) (o := .cells #[.string x478000_2, .int .i64 x478001_2, .int .i64 x478002_2, .int .i64 x478003_2, .int .i64 x478004_2] 54 (0, 0)) q_80 hb); have n1_ := Aside0.mk (IsS68.below q_81 hb); have n2_ := Aside0.mk (below_step q_82 hb); have n3_ := Aside0.mk (hbox); have n4_ := Aside0.mk ((by rw [hg]; exact (below_size q_82) : w.heap.size ≤ gb480)); have n5_ := Aside0.mk ((by rw [hg]; exact (below_size q_82) : w.heap.size ≤ gb480)); have n6_ := Aside0.mk ((q_117 : gb477 ≠ gb480)); have n7_ := Aside0.mk ((q_118 : gb480 ≠ gb477)); have n8_ := Aside0.mk ((q_83 : g476 ≠ gb480)); have n9_ := Aside0.mk ((q_84 : gb480 ≠ g476)); clear BK477; clear HI476; clear HB; have BK477 := n0_; have HI476 := n1_; have HB := n2_; have BK480 := n3_; have GW480 := n4_; have GE480 := n5_; have NB477_480 := n6_; have NB480_477 := n7_; have NB476_480 := n8_; have NB480_476 := n9_; clear n0_ n1_ n2_ n3_ n4_ n5_ n6_ n7_ n8_ n9_; clear hb hbox hg; have hnb92 := NB480_477.out; have hnc92 := NB477_480.out; have hnb93 := NB480_476.out; have hnc93 := NB476_480.out; obtain ⟨hcz94_0, hcz94_1, hcz94_2, hcz94_3, hfz94_0, hfz94_1, hfz94_2, hfz94_3⟩ := cells4_ BK480.out; have hnb95 := NB477_476.out; have hnc95 := NB476_477.out; obtain ⟨hcz96_0, hcz96_1, hcz96_2, hcz96_3, hcz96_4, hfz96_0, hfz96_1, hfz96_2, hfz96_3, hfz96_4⟩ := cells5_ BK477.out) | ((with_reducible refine gate_callee (f := 34) rfl ?_); refine goesL_ (some 48) rfl rfl Try.func34 (by kernel_rfl) rfl #[.pointer (some ⟨g476, 0, none⟩), .agg #[.string x478000_2, .int .i64 x478001_2, .int .i64 x478002_2, .int .i64 x478003_2, .int .i64 x478004_2], .agg #[.int .i64 ((rd_T56 l2 x35_2).f0), .int .i64 ((rd_T56 l2 x35_2).f1), .int .i64 ((rd_T56 l2 x35_2).f2), .string ((rd_T56 l2 x35_2).f3)]] rfl q_10 ?_; (with_reducible refine (diacriticlaw01_do.calls k2 g476 x477000_2 x477001_2 x477002_2 x477003_2 x477004_2 x478000_2 x478001_2 x478002_2 x478003_2 x478004_2 ((rd_T56 l2 x35_2).f0) ((rd_T56 l2 x35_2).f1) ((rd_T56 l2 x35_2).f2) ((rd_T56 l2 x35_2).f3) t482 t483 t484 t485 t486 true t488 t489 t490 t491 t492 w _ ?side1 ?side2 A26.out).mono ?_); (case side1 => repeat (first | (with_reducible first | exact HI476.out | apply IsS68.alloc | apply IsS68.drewN | apply IsS68.drew | apply IsS68.set_0 | apply IsS68.set_1 | apply IsS68.set_2 | apply IsS68.set_3 | apply IsS68.set_4 | refine IsS68.far ?_ NB476_477.out _ | apply IsS68.far (hne := NB476_477.out) | refine IsS68.far ?_ NB476_480.out _ | apply IsS68.far (hne := NB476_480.out)) | exact HI476.out)); (case side2 => repeat (first | (with_reducible first | exact HB.out | apply below_alloc | apply pw_below_drewN | apply below_drew1 | refine below_set ?_ (IsS68.ge HI476.out) | refine below_set ?_ GE477.out | refine below_set ?_ GE480.out) | exact HB.out)); rintro e w97 ⟨rfl, hi, hb, hk⟩; refine ⟨_, rfl, ?_⟩; have n0_ := Aside0.mk (KeepBut.blk hk (g' := gb477) (o := .cells #[.string x478000_2, .int .i64 x478001_2, .int .i64 x478002_2, .int .i64 x478003_2, .int .i64 x478004_2] 54 (0, 0)) q_85 NB477_476.out (by simp)); have n1_ := Aside0.mk (KeepBut.blk hk (g' := gb480) (o := .cells #[.int .i64 ((rd_T56 l2 x35_2).f0), .int .i64 ((rd_T56 l2 x35_2).f1), .int .i64 ((rd_T56 l2 x35_2).f2), .string ((rd_T56 l2 x35_2).f3)] 56 (0, 0)) q_86 NB480_476.out (by simp)); have n2_ := Aside0.mk (hb); have n3_ := Aside0.mk (hi); clear BK477; clear BK480; clear HB; clear HI476; have BK477 := n0_; have BK480 := n1_; have HB := n2_; have HI476 := n3_; clear n0_ n1_ n2_ n3_; (try clear hb); (try clear hb2); (try clear hk); (try clear hi)) | ((with_reducible refine gate_dst (N := 11) rfl ?_); (try (refine gate_guard (by rfl) ?_; dsimp only)); refine box_event ?hg (N := 11) ?hd (cs := #[.string (⟨#[]⟩ : ByteArray), .int .i64 0, .int .i64 0, .int .i64 0, .int .i64 0]) (t := 54) ?hr ?_; (case hd => rfl); (case hg => rfl); (case hr => first | (go_simp; done) | (go_simp; rfl)); intro gb493 hg w98 hbox hb; have n0_ := Aside0.mk (blk_below (g := gb477) (o := .cells #[.string x478000_2, .int .i64 x478001_2, .int .i64 x478002_2, .int .i64 x478003_2, .int .i64 x478004_2] 54 (0, 0)) q_80 hb); have n1_ := Aside0.mk (IsS68.below q_88 hb); have n2_ := Aside0.mk (blk_below (g := gb480) (o := .cells #[.int .i64 ((rd_T56 l2 x35_2).f0), .int .i64 ((rd_T56 l2 x35_2).f1), .int .i64 ((rd_T56 l2 x35_2).f2), .string ((rd_T56 l2 x35_2).f3)] 56 (0, 0)) q_89 hb); have n3_ := Aside0.mk (below_step q_87 hb); have n4_ := Aside0.mk (hbox); have n5_ := Aside0.mk ((by rw [hg]; exact (below_size q_87) : w.heap.size ≤ gb493)); have n6_ := Aside0.mk ((by rw [hg]; exact (below_size q_87) : w.heap.size ≤ gb493)); have n7_ := Aside0.mk ((q_117 : gb477 ≠ gb493)); have n8_ := Aside0.mk ((q_118 : gb493 ≠ gb477)); have n9_ := Aside0.mk ((q_119 : gb480 ≠ gb493)); have n10_ := Aside0.mk ((q_120 : gb493 ≠ gb480)); have n11_ := Aside0.mk ((q_90 : g476 ≠ gb493)); have n12_ := Aside0.mk ((q_91 : gb493 ≠ g476)); clear BK477; clear HI476; clear BK480; clear HB; have BK477 := n0_; have HI476 := n1_; have BK480 := n2_; have HB := n3_; have BK493 := n4_; have GW493 := n5_; have GE493 := n6_; have NB477_493 := n7_; have NB493_477 := n8_; have NB480_493 := n9_; have NB493_480 := n10_; have NB476_493 := n11_; have NB493_476 := n12_; clear n0_ n1_ n2_ n3_ n4_ n5_ n6_ n7_ n8_ n9_ n10_ n11_ n12_; clear hb hbox hg; have hnb99 := NB493_477.out; have hnc99 := NB477_493.out; have hnb100 := NB493_480.out; have hnc100 := NB480_493.out; have hnb101 := NB493_476.out; have hnc101 := NB476_493.out; obtain ⟨hcz102_0, hcz102_1, hcz102_2, hcz102_3, hcz102_4, hfz102_0, hfz102_1, hfz102_2, hfz102_3, hfz102_4⟩ := cells5_ BK493.out; obtain ⟨hcz103_0, hcz103_1, hcz103_2, hcz103_3, hcz103_4, hfz103_0, hfz103_1, hfz103_2, hfz103_3, hfz103_4⟩ := cells5_ BK477.out))
                        have n0_ : Aside0 (((((((((((w98.setCell ⟨gb493, 0, none⟩ (.string t482)).setCell ⟨gb493, 1, none⟩ (.int .i64 t483)).setCell ⟨gb493, 2, none⟩ (.int .i64 t484)).setCell ⟨gb493, 3, none⟩ (.int .i64 t485)).setCell ⟨gb493, 4, none⟩ (.int .i64 t486)).setCell ⟨gb477, 0, none⟩ (.string t482)).setCell ⟨gb477, 1, none⟩ (.int .i64 t483)).setCell ⟨gb477, 2, none⟩ (.int .i64 t484)).setCell ⟨gb477, 3, none⟩ (.int .i64 t485)).setCell ⟨gb477, 4, none⟩ (.int .i64 t486)).heap[gb477]? = some (.cells #[.string t482, .int .i64 t483, .int .i64 t484, .int .i64 t485, .int .i64 t486] 54 (0, 0))) := ⟨q_96⟩
                        have n1_ : Aside0 (((((((((((w98.setCell ⟨gb493, 0, none⟩ (.string t482)).setCell ⟨gb493, 1, none⟩ (.int .i64 t483)).setCell ⟨gb493, 2, none⟩ (.int .i64 t484)).setCell ⟨gb493, 3, none⟩ (.int .i64 t485)).setCell ⟨gb493, 4, none⟩ (.int .i64 t486)).setCell ⟨gb477, 0, none⟩ (.string t482)).setCell ⟨gb477, 1, none⟩ (.int .i64 t483)).setCell ⟨gb477, 2, none⟩ (.int .i64 t484)).setCell ⟨gb477, 3, none⟩ (.int .i64 t485)).setCell ⟨gb477, 4, none⟩ (.int .i64 t486)).heap[gb480]? = some (.cells #[.int .i64 ((rd_T56 l2 x35_2).f0), .int .i64 ((rd_T56 l2 x35_2).f1), .int .i64 ((rd_T56 l2 x35_2).f2), .string ((rd_T56 l2 x35_2).f3)] 56 (0, 0))) := ⟨q_97⟩
                        have n2_ : Aside0 (((((((((((w98.setCell ⟨gb493, 0, none⟩ (.string t482)).setCell ⟨gb493, 1, none⟩ (.int .i64 t483)).setCell ⟨gb493, 2, none⟩ (.int .i64 t484)).setCell ⟨gb493, 3, none⟩ (.int .i64 t485)).setCell ⟨gb493, 4, none⟩ (.int .i64 t486)).setCell ⟨gb477, 0, none⟩ (.string t482)).setCell ⟨gb477, 1, none⟩ (.int .i64 t483)).setCell ⟨gb477, 2, none⟩ (.int .i64 t484)).setCell ⟨gb477, 3, none⟩ (.int .i64 t485)).setCell ⟨gb477, 4, none⟩ (.int .i64 t486)).heap[gb493]? = some (.cells #[.string t482, .int .i64 t483, .int .i64 t484, .int .i64 t485, .int .i64 t486] 54 (0, 0))) := ⟨q_98⟩
                        have n3_ : Aside0 (IsS68 w ((((((((((w98.setCell ⟨gb493, 0, none⟩ (.string t482)).setCell ⟨gb493, 1, none⟩ (.int .i64 t483)).setCell ⟨gb493, 2, none⟩ (.int .i64 t484)).setCell ⟨gb493, 3, none⟩ (.int .i64 t485)).setCell ⟨gb493, 4, none⟩ (.int .i64 t486)).setCell ⟨gb477, 0, none⟩ (.string t482)).setCell ⟨gb477, 1, none⟩ (.int .i64 t483)).setCell ⟨gb477, 2, none⟩ (.int .i64 t484)).setCell ⟨gb477, 3, none⟩ (.int .i64 t485)).setCell ⟨gb477, 4, none⟩ (.int .i64 t486)) g476 t488 t489 t490 t491 t492) := ⟨q_93⟩
                        have n4_ : Aside0 (Below w.heap.size w ((((((((((w98.setCell ⟨gb493, 0, none⟩ (.string t482)).setCell ⟨gb493, 1, none⟩ (.int .i64 t483)).setCell ⟨gb493, 2, none⟩ (.int .i64 t484)).setCell ⟨gb493, 3, none⟩ (.int .i64 t485)).setCell ⟨gb493, 4, none⟩ (.int .i64 t486)).setCell ⟨gb477, 0, none⟩ (.string t482)).setCell ⟨gb477, 1, none⟩ (.int .i64 t483)).setCell ⟨gb477, 2, none⟩ (.int .i64 t484)).setCell ⟨gb477, 3, none⟩ (.int .i64 t485)).setCell ⟨gb477, 4, none⟩ (.int .i64 t486))) := ⟨q_94⟩
                        (try clear BK477)
                        (try clear BK480)
                        (try clear BK493)
                        (try clear HI476)
                        (try clear HB)
                        generalize ((((((((((w98.setCell ⟨gb493, 0, none⟩ (.string t482)).setCell ⟨gb493, 1, none⟩ (.int .i64 t483)).setCell ⟨gb493, 2, none⟩ (.int .i64 t484)).setCell ⟨gb493, 3, none⟩ (.int .i64 t485)).setCell ⟨gb493, 4, none⟩ (.int .i64 t486)).setCell ⟨gb477, 0, none⟩ (.string t482)).setCell ⟨gb477, 1, none⟩ (.int .i64 t483)).setCell ⟨gb477, 2, none⟩ (.int .i64 t484)).setCell ⟨gb477, 3, none⟩ (.int .i64 t485)).setCell ⟨gb477, 4, none⟩ (.int .i64 t486)) = w104 at n0_ n1_ n2_ n3_ n4_ ⊢
                        have BK477 := n0_
                        have BK480 := n1_
                        have BK493 := n2_
                        have HI476 := n3_
                        have HB := n4_
                        clear n0_ n1_ n2_ n3_ n4_
                        have n0_ := Aside0.mk (blk_drew BK477.out)
                        have n1_ := Aside0.mk (blk_drew BK480.out)
                        have n2_ := Aside0.mk (blk_drew BK493.out)
                        have n3_ := Aside0.mk (IsS68.drew HI476.out)
                        have n4_ := Aside0.mk (below_drew1 HB.out)
                        clear BK477
                        clear BK480
                        clear BK493
                        clear HI476
                        clear HB
                        have BK477 := n0_
                        have BK480 := n1_
                        have BK493 := n2_
                        have HI476 := n3_
                        have HB := n4_
                        clear n0_ n1_ n2_ n3_ n4_
                        refine start_ (n := 29) (S := fun w' => w'.cell? ⟨gb477, 0, none⟩ = some (.string t482) ∧ w'.cell? ⟨gb477, 1, none⟩ = some (.int .i64 t483) ∧ w'.cell? ⟨gb477, 2, none⟩ = some (.int .i64 t484) ∧ w'.cell? ⟨gb477, 3, none⟩ = some (.int .i64 t485) ∧ w'.cell? ⟨gb477, 4, none⟩ = some (.int .i64 t486)) (ds := []) #[false, false, false, false, false, false, false, false, false, false, false, false, false, false, false, false, false, false, false, false, false, false, false, false, false, false, false, false, false] (by kernel_rfl) rfl rfl ⟨(blk_cell BK477.out 0).trans rfl, (blk_cell BK477.out 1).trans rfl, (blk_cell BK477.out 2).trans rfl, (blk_cell BK477.out 3).trans rfl, (blk_cell BK477.out 4).trans rfl⟩ (fun hHeld => ?_); refine with_tabW diacriticlaw01_OctetReads.tab11 diacriticlaw01_OctetReads.bits11 (fun HT_ HW_ => ?_)
                        generalize w104.drew = w105 at BK477 BK480 BK493 HI476 HB hHeld ⊢
                        refine pure_ (i := 0) (N := some 52) (v := ?_) (a' := ?_) #[true, false, false, false, false, false, false, false, false, false, false, false, false, false, false, false, false, false, false, false, false, false, false, false, false, false, false, false, false] rfl rfl (any_of HT_.out (by kernel_rfl)) (fun _ _ _ h => h) (Or.inl ⟨by rfl, ?_⟩) ?_ ?_
                        rotate_left
                        · intro w'
                          go_simp
                          with_reducible rfl
                        rotate_left
                        · simp only [Act.put, List.setIfInBounds_toArray, List.set_cons_zero, List.set_cons_succ, i64_w, i32_w]
                          rfl
                        refine pure_ (i := 1) (N := some 53) (v := ?_) (a' := ?_) #[true, true, false, false, false, false, false, false, false, false, false, false, false, false, false, false, false, false, false, false, false, false, false, false, false, false, false, false, false] rfl rfl (any_of HT_.out (by kernel_rfl)) (fun _ _ _ h => h) (Or.inl ⟨by rfl, ?_⟩) ?_ ?_
                        rotate_left
                        · intro w'
                          go_simp
                          with_reducible rfl
                        rotate_left
                        · simp only [Act.put, List.setIfInBounds_toArray, List.set_cons_zero, List.set_cons_succ, i64_w, i32_w]
                          rfl
                        refine pure_ (i := 2) (N := some 54) (v := ?_) (a' := ?_) #[true, true, true, false, false, false, false, false, false, false, false, false, false, false, false, false, false, false, false, false, false, false, false, false, false, false, false, false, false] rfl rfl (any_of HT_.out (by kernel_rfl)) (fun _ _ _ h => h) (Or.inl ⟨by rfl, ?_⟩) ?_ ?_
                        rotate_left
                        · intro w'
                          go_simp
                          with_reducible rfl
                        rotate_left
                        · simp only [Act.put, List.setIfInBounds_toArray, List.set_cons_zero, List.set_cons_succ, i64_w, i32_w]
                          rfl
                        refine pure_ (i := 3) (N := some 55) (v := ?_) (a' := ?_) #[true, true, true, true, false, false, false, false, false, false, false, false, false, false, false, false, false, false, false, false, false, false, false, false, false, false, false, false, false] rfl rfl (any_of HT_.out (by kernel_rfl)) (fun _ _ _ h => h) (Or.inl ⟨by rfl, ?_⟩) ?_ ?_
                        rotate_left
                        · intro w'
                          go_simp
                          with_reducible rfl
                        rotate_left
                        · simp only [Act.put, List.setIfInBounds_toArray, List.set_cons_zero, List.set_cons_succ, i64_w, i32_w]
                          rfl
                        refine take_ (i := 5) (N := some 57) (v := ?_) (a' := ?_) #[true, true, true, true, false, true, false, false, false, false, false, false, false, false, false, false, false, false, false, false, false, false, false, false, false, false, false, false, false] rfl rfl (take_ofW HT_.out HW_.out (by kernel_rfl)) (fun _ _ _ h => h) (Or.inl ⟨by rfl, ?_⟩) hHeld ?_ ?_
                        rotate_left
                        · rintro w' ⟨s0, s1, s2, s3, s4⟩
                          go_simp
                          with_reducible rfl
                        rotate_left
                        · simp only [Act.put, List.setIfInBounds_toArray, List.set_cons_zero, List.set_cons_succ, i64_w, i32_w]
                          rfl
                        refine one_ (i := 4) (N := some 56) #[true, true, true, true, true, true, false, false, false, false, false, false, false, false, false, false, false, false, false, false, false, false, false, false, false, false, false, false, false] rfl rfl (one_of HT_.out (by kernel_rfl)) (by decide) (fun K hK => ?_)
                        refine goes_ Try.func30 (by kernel_rfl) rfl #[.pointer (some ⟨g476, 0, none⟩)] (by rfl) rfl rfl q_10 ?_
                        with_reducible refine (octet_In_Left.calls g476 t488 t489 t490 t491 t492 t494 t495 t496 t497 t498 t499 w _ ?side1 ?side2 A28.out).mono ?_
                        (case side1 => repeat (first | (with_reducible first | exact HI476.out | apply IsS68.alloc | apply IsS68.drewN | apply IsS68.drew | apply IsS68.set_0 | apply IsS68.set_1 | apply IsS68.set_2 | apply IsS68.set_3 | apply IsS68.set_4 | refine IsS68.far ?_ NB476_477.out _ | apply IsS68.far (hne := NB476_477.out) | refine IsS68.far ?_ NB476_480.out _ | apply IsS68.far (hne := NB476_480.out) | refine IsS68.far ?_ NB476_493.out _ | apply IsS68.far (hne := NB476_493.out)) | exact HI476.out))
                        (case side2 => repeat (first | (with_reducible first | exact HB.out | apply below_alloc | apply pw_below_drewN | apply below_drew1 | refine below_set ?_ (IsS68.ge HI476.out) | refine below_set ?_ GE477.out | refine below_set ?_ GE480.out | refine below_set ?_ GE493.out) | exact HB.out))
                        rintro e w106 ⟨rfl, hi, hb, hk⟩
                        refine ⟨_, rfl, ?_⟩
                        have n0_ := Aside0.mk (KeepBut.blk hk (g' := gb477) (o := .cells #[.string t482, .int .i64 t483, .int .i64 t484, .int .i64 t485, .int .i64 t486] 54 (0, 0)) q_80 NB477_476.out (by simp))
                        have n1_ := Aside0.mk (KeepBut.blk hk (g' := gb480) (o := .cells #[.int .i64 ((rd_T56 l2 x35_2).f0), .int .i64 ((rd_T56 l2 x35_2).f1), .int .i64 ((rd_T56 l2 x35_2).f2), .string ((rd_T56 l2 x35_2).f3)] 56 (0, 0)) q_89 NB480_476.out (by simp))
                        have n2_ := Aside0.mk (KeepBut.blk hk (g' := gb493) (o := .cells #[.string t482, .int .i64 t483, .int .i64 t484, .int .i64 t485, .int .i64 t486] 54 (0, 0)) q_92 NB493_476.out (by simp))
                        have n3_ := Aside0.mk (hb)
                        have n4_ := Aside0.mk (hi)
                        clear BK477
                        clear BK480
                        clear BK493
                        clear HB
                        clear HI476
                        have BK477 := n0_
                        have BK480 := n1_
                        have BK493 := n2_
                        have HB := n3_
                        have HI476 := n4_
                        clear n0_ n1_ n2_ n3_ n4_
                        (try clear hb)
                        (try clear hb2)
                        (try clear hk)
                        (try clear hi)
                        refine hK.out _ _ ⟨(blk_cell BK477.out 0).trans rfl, (blk_cell BK477.out 1).trans rfl, (blk_cell BK477.out 2).trans rfl, (blk_cell BK477.out 3).trans rfl, (blk_cell BK477.out 4).trans rfl⟩ (fun hHeld => ?_)
                        clear hK K
                        refine norm_ (a' := ?_) ?_ ?_
                        rotate_left
                        · show Act.put _ (some 56) _ = _
                          simp only [Act.put, List.setIfInBounds_toArray, List.set_cons_zero, List.set_cons_succ, i64_w, i32_w]
                          rfl
                        refine one_ (i := 6) (N := some 58) #[true, true, true, true, true, true, true, false, false, false, false, false, false, false, false, false, false, false, false, false, false, false, false, false, false, false, false, false, false] rfl rfl (one_of HT_.out (by kernel_rfl)) (by decide) (fun K hK => ?_)
                        refine goes_ Try.func35 (by kernel_rfl) rfl #[.agg #[.string t482, .int .i64 t483, .int .i64 t484, .int .i64 t485, .int .i64 t486]] (by rfl) rfl rfl q_10 ?_
                        with_reducible refine (diacriticref01_Left.calls t482 t483 t484 t485 t486 t500 _ A29.out).mono ?_
                        rintro e w107 ⟨rfl, hb⟩
                        refine ⟨_, rfl, ?_⟩
                        have n0_ := Aside0.mk (blk_below (g := gb477) (o := .cells #[.string t482, .int .i64 t483, .int .i64 t484, .int .i64 t485, .int .i64 t486] 54 (0, 0)) q_80 hb)
                        have n1_ := Aside0.mk (IsS68.below q_93 hb)
                        have n2_ := Aside0.mk (blk_below (g := gb480) (o := .cells #[.int .i64 ((rd_T56 l2 x35_2).f0), .int .i64 ((rd_T56 l2 x35_2).f1), .int .i64 ((rd_T56 l2 x35_2).f2), .string ((rd_T56 l2 x35_2).f3)] 56 (0, 0)) q_89 hb)
                        have n3_ := Aside0.mk (blk_below (g := gb493) (o := .cells #[.string t482, .int .i64 t483, .int .i64 t484, .int .i64 t485, .int .i64 t486] 54 (0, 0)) q_92 hb)
                        have n4_ := Aside0.mk (below_step q_94 hb)
                        clear BK477
                        clear HI476
                        clear BK480
                        clear BK493
                        clear HB
                        have BK477 := n0_
                        have HI476 := n1_
                        have BK480 := n2_
                        have BK493 := n3_
                        have HB := n4_
                        clear n0_ n1_ n2_ n3_ n4_
                        (try clear hb)
                        (try clear hb2)
                        (try clear hk)
                        (try clear hi)
                        refine hK.out _ _ ⟨(blk_cell BK477.out 0).trans rfl, (blk_cell BK477.out 1).trans rfl, (blk_cell BK477.out 2).trans rfl, (blk_cell BK477.out 3).trans rfl, (blk_cell BK477.out 4).trans rfl⟩ (fun hHeld => ?_)
                        clear hK K
                        refine norm_ (a' := ?_) ?_ ?_
                        rotate_left
                        · show Act.put _ (some 58) _ = _
                          simp only [Act.put, List.setIfInBounds_toArray, List.set_cons_zero, List.set_cons_succ, i64_w, i32_w]
                          rfl
                        refine pure_ (i := 7) (N := some 59) (v := ?_) (a' := ?_) #[true, true, true, true, true, true, true, true, false, false, false, false, false, false, false, false, false, false, false, false, false, false, false, false, false, false, false, false, false] rfl rfl (any_of HT_.out (by kernel_rfl)) (fun _ _ _ h => h) (Or.inl ⟨by rfl, ?_⟩) ?_ ?_
                        rotate_left
                        · intro w'
                          go_simp
                          with_reducible rfl
                        rotate_left
                        · simp only [Act.put, List.setIfInBounds_toArray, List.set_cons_zero, List.set_cons_succ, i64_w, i32_w]
                          rfl
                        refine pure_ (i := 8) (N := some 60) (v := ?_) (a' := ?_) #[true, true, true, true, true, true, true, true, true, false, false, false, false, false, false, false, false, false, false, false, false, false, false, false, false, false, false, false, false] rfl rfl (any_of HT_.out (by kernel_rfl)) (fun _ _ _ h => h) (Or.inl ⟨by rfl, ?_⟩) ?_ ?_
                        rotate_left
                        · intro w'
                          go_simp
                          with_reducible rfl
                        rotate_left
                        · simp only [Act.put, List.setIfInBounds_toArray, List.set_cons_zero, List.set_cons_succ, i64_w, i32_w]
                          rfl
                        refine pure_ (i := 9) (N := some 61) (v := ?_) (a' := ?_) #[true, true, true, true, true, true, true, true, true, true, false, false, false, false, false, false, false, false, false, false, false, false, false, false, false, false, false, false, false] rfl rfl (any_of HT_.out (by kernel_rfl)) (fun _ _ _ h => h) (Or.inl ⟨by rfl, ?_⟩) ?_ ?_
                        rotate_left
                        · intro w'
                          go_simp
                          with_reducible rfl
                        rotate_left
                        · simp only [Act.put, List.setIfInBounds_toArray, List.set_cons_zero, List.set_cons_succ, i64_w, i32_w]
                          rfl
                        refine pure_ (i := 10) (N := some 62) (v := undef) (a' := ?_) #[true, true, true, true, true, true, true, true, true, true, true, false, false, false, false, false, false, false, false, false, false, false, false, false, false, false, false, false, false] rfl rfl (any_of HT_.out (by kernel_rfl)) (fun _ _ _ h => h) (Or.inr ⟨by rfl, rfl⟩) ?_ ?_
                        rotate_left
                        · simp only [Act.put, List.setIfInBounds_toArray, List.set_cons_zero, List.set_cons_succ, i64_w, i32_w]
                          rfl
                        refine pure_ (i := 11) (N := some 63) (v := undef) (a' := ?_) #[true, true, true, true, true, true, true, true, true, true, true, true, false, false, false, false, false, false, false, false, false, false, false, false, false, false, false, false, false] rfl rfl (any_of HT_.out (by kernel_rfl)) (fun _ _ _ h => h) (Or.inr ⟨by rfl, rfl⟩) ?_ ?_
                        rotate_left
                        · simp only [Act.put, List.setIfInBounds_toArray, List.set_cons_zero, List.set_cons_succ, i64_w, i32_w]
                          rfl
                        refine pure_ (i := 12) (N := some 64) (v := undef) (a' := ?_) #[true, true, true, true, true, true, true, true, true, true, true, true, true, false, false, false, false, false, false, false, false, false, false, false, false, false, false, false, false] rfl rfl (any_of HT_.out (by kernel_rfl)) (fun _ _ _ h => h) (Or.inr ⟨by rfl, rfl⟩) ?_ ?_
                        rotate_left
                        · simp only [Act.put, List.setIfInBounds_toArray, List.set_cons_zero, List.set_cons_succ, i64_w, i32_w]
                          rfl
                        refine pure_ (i := 13) (N := some 65) (v := undef) (a' := ?_) #[true, true, true, true, true, true, true, true, true, true, true, true, true, true, false, false, false, false, false, false, false, false, false, false, false, false, false, false, false] rfl rfl (any_of HT_.out (by kernel_rfl)) (fun _ _ _ h => h) (Or.inr ⟨by rfl, rfl⟩) ?_ ?_
                        rotate_left
                        · simp only [Act.put, List.setIfInBounds_toArray, List.set_cons_zero, List.set_cons_succ, i64_w, i32_w]
                          rfl
                        refine pure_ (i := 14) (N := some 66) (v := undef) (a' := ?_) #[true, true, true, true, true, true, true, true, true, true, true, true, true, true, true, false, false, false, false, false, false, false, false, false, false, false, false, false, false] rfl rfl (any_of HT_.out (by kernel_rfl)) (fun _ _ _ h => h) (Or.inr ⟨by rfl, rfl⟩) ?_ ?_
                        rotate_left
                        · simp only [Act.put, List.setIfInBounds_toArray, List.set_cons_zero, List.set_cons_succ, i64_w, i32_w]
                          rfl
                        refine pure_ (i := 15) (N := some 67) (v := undef) (a' := ?_) #[true, true, true, true, true, true, true, true, true, true, true, true, true, true, true, true, false, false, false, false, false, false, false, false, false, false, false, false, false] rfl rfl (any_of HT_.out (by kernel_rfl)) (fun _ _ _ h => h) (Or.inr ⟨by rfl, rfl⟩) ?_ ?_
                        rotate_left
                        · simp only [Act.put, List.setIfInBounds_toArray, List.set_cons_zero, List.set_cons_succ, i64_w, i32_w]
                          rfl
                        refine pure_ (i := 16) (N := some 68) (v := undef) (a' := ?_) #[true, true, true, true, true, true, true, true, true, true, true, true, true, true, true, true, true, false, false, false, false, false, false, false, false, false, false, false, false] rfl rfl (any_of HT_.out (by kernel_rfl)) (fun _ _ _ h => h) (Or.inr ⟨by rfl, rfl⟩) ?_ ?_
                        rotate_left
                        · simp only [Act.put, List.setIfInBounds_toArray, List.set_cons_zero, List.set_cons_succ, i64_w, i32_w]
                          rfl
                        refine pure_ (i := 17) (N := some 69) (v := undef) (a' := ?_) #[true, true, true, true, true, true, true, true, true, true, true, true, true, true, true, true, true, true, false, false, false, false, false, false, false, false, false, false, false] rfl rfl (any_of HT_.out (by kernel_rfl)) (fun _ _ _ h => h) (Or.inr ⟨by rfl, rfl⟩) ?_ ?_
                        rotate_left
                        · simp only [Act.put, List.setIfInBounds_toArray, List.set_cons_zero, List.set_cons_succ, i64_w, i32_w]
                          rfl
                        refine pure_ (i := 18) (N := some 70) (v := ?_) (a' := ?_) #[true, true, true, true, true, true, true, true, true, true, true, true, true, true, true, true, true, true, true, false, false, false, false, false, false, false, false, false, false] rfl rfl (any_of HT_.out (by kernel_rfl)) (fun _ _ _ h => h) (Or.inl ⟨by rfl, ?_⟩) ?_ ?_
                        rotate_left
                        · intro w'
                          go_simp
                          with_reducible rfl
                        rotate_left
                        · simp only [Act.put, List.setIfInBounds_toArray, List.set_cons_zero, List.set_cons_succ, i64_w, i32_w]
                          rfl
                        refine pure_ (i := 19) (N := some 71) (v := ?_) (a' := ?_) #[true, true, true, true, true, true, true, true, true, true, true, true, true, true, true, true, true, true, true, true, false, false, false, false, false, false, false, false, false] rfl rfl (any_of HT_.out (by kernel_rfl)) (fun _ _ _ h => h) (Or.inl ⟨by rfl, ?_⟩) ?_ ?_
                        rotate_left
                        · intro w'
                          go_simp
                          with_reducible rfl
                        rotate_left
                        · simp only [Act.put, List.setIfInBounds_toArray, List.set_cons_zero, List.set_cons_succ, i64_w, i32_w]
                          rfl
                        refine pure_ (i := 20) (N := some 72) (v := undef) (a' := ?_) #[true, true, true, true, true, true, true, true, true, true, true, true, true, true, true, true, true, true, true, true, true, false, false, false, false, false, false, false, false] rfl rfl (any_of HT_.out (by kernel_rfl)) (fun _ _ _ h => h) (Or.inr ⟨by rfl, rfl⟩) ?_ ?_
                        rotate_left
                        · simp only [Act.put, List.setIfInBounds_toArray, List.set_cons_zero, List.set_cons_succ, i64_w, i32_w]
                          rfl
                        refine pure_ (i := 21) (N := some 73) (v := undef) (a' := ?_) #[true, true, true, true, true, true, true, true, true, true, true, true, true, true, true, true, true, true, true, true, true, true, false, false, false, false, false, false, false] rfl rfl (any_of HT_.out (by kernel_rfl)) (fun _ _ _ h => h) (Or.inr ⟨by rfl, rfl⟩) ?_ ?_
                        rotate_left
                        · simp only [Act.put, List.setIfInBounds_toArray, List.set_cons_zero, List.set_cons_succ, i64_w, i32_w]
                          rfl
                        refine pure_ (i := 22) (N := some 74) (v := undef) (a' := ?_) #[true, true, true, true, true, true, true, true, true, true, true, true, true, true, true, true, true, true, true, true, true, true, true, false, false, false, false, false, false] rfl rfl (any_of HT_.out (by kernel_rfl)) (fun _ _ _ h => h) (Or.inr ⟨by rfl, rfl⟩) ?_ ?_
                        rotate_left
                        · simp only [Act.put, List.setIfInBounds_toArray, List.set_cons_zero, List.set_cons_succ, i64_w, i32_w]
                          rfl
                        refine pure_ (i := 23) (N := some 75) (v := undef) (a' := ?_) #[true, true, true, true, true, true, true, true, true, true, true, true, true, true, true, true, true, true, true, true, true, true, true, true, false, false, false, false, false] rfl rfl (any_of HT_.out (by kernel_rfl)) (fun _ _ _ h => h) (Or.inr ⟨by rfl, rfl⟩) ?_ ?_
                        rotate_left
                        · simp only [Act.put, List.setIfInBounds_toArray, List.set_cons_zero, List.set_cons_succ, i64_w, i32_w]
                          rfl
                        refine pure_ (i := 24) (N := some 76) (v := undef) (a' := ?_) #[true, true, true, true, true, true, true, true, true, true, true, true, true, true, true, true, true, true, true, true, true, true, true, true, true, false, false, false, false] rfl rfl (any_of HT_.out (by kernel_rfl)) (fun _ _ _ h => h) (Or.inr ⟨by rfl, rfl⟩) ?_ ?_
                        rotate_left
                        · simp only [Act.put, List.setIfInBounds_toArray, List.set_cons_zero, List.set_cons_succ, i64_w, i32_w]
                          rfl
                        refine pure_ (i := 25) (N := some 77) (v := undef) (a' := ?_) #[true, true, true, true, true, true, true, true, true, true, true, true, true, true, true, true, true, true, true, true, true, true, true, true, true, true, false, false, false] rfl rfl (any_of HT_.out (by kernel_rfl)) (fun _ _ _ h => h) (Or.inr ⟨by rfl, rfl⟩) ?_ ?_
                        rotate_left
                        · simp only [Act.put, List.setIfInBounds_toArray, List.set_cons_zero, List.set_cons_succ, i64_w, i32_w]
                          rfl
                        refine pure_ (i := 26) (N := some 78) (v := undef) (a' := ?_) #[true, true, true, true, true, true, true, true, true, true, true, true, true, true, true, true, true, true, true, true, true, true, true, true, true, true, true, false, false] rfl rfl (any_of HT_.out (by kernel_rfl)) (fun _ _ _ h => h) (Or.inr ⟨by rfl, rfl⟩) ?_ ?_
                        rotate_left
                        · simp only [Act.put, List.setIfInBounds_toArray, List.set_cons_zero, List.set_cons_succ, i64_w, i32_w]
                          rfl
                        refine pure_ (i := 27) (N := some 79) (v := undef) (a' := ?_) #[true, true, true, true, true, true, true, true, true, true, true, true, true, true, true, true, true, true, true, true, true, true, true, true, true, true, true, true, false] rfl rfl (any_of HT_.out (by kernel_rfl)) (fun _ _ _ h => h) (Or.inr ⟨by rfl, rfl⟩) ?_ ?_
                        rotate_left
                        · simp only [Act.put, List.setIfInBounds_toArray, List.set_cons_zero, List.set_cons_succ, i64_w, i32_w]
                          rfl
                        refine pure_ (i := 28) (N := some 80) (v := ?_) (a' := ?_) #[true, true, true, true, true, true, true, true, true, true, true, true, true, true, true, true, true, true, true, true, true, true, true, true, true, true, true, true, true] rfl rfl (any_of HT_.out (by kernel_rfl)) (fun _ _ _ h => h) (Or.inl ⟨by rfl, ?_⟩) ?_ ?_
                        rotate_left
                        · intro w'
                          go_simp
                          with_reducible rfl
                        rotate_left
                        · simp only [Act.put, List.setIfInBounds_toArray, List.set_cons_zero, List.set_cons_succ, i64_w, i32_w]
                          rfl
                        refine done_ (done_of HT_.out (by kernel_rfl)) ?_
                        try go_wp2
                        go_ret
                        exact ⟨q_95, q_94⟩
                    · replace c27 := Bool.eq_false_iff.mpr c27
                      subst c27
                      have H1 : (some false) = some r := by rw [if_neg (show ¬ (false = true) by decide)] at H; exact H
                      clear H
                      have H := H1
                      clear H1
                      obtain rfl := Option.some.inj H
                      have p479 : 0 ≤ (x35_2 : Int) := of_decide_eq_true q_12
                      have q479 : x35_2 < (l2.length : Int) := of_decide_eq_true q_12
                      obtain ⟨ad479, e479, hx479_0, hx479_1, hx479_2, hx479_3⟩ := at_T56 HR2.out x35_2 p479 q479
                      cases e479
                      replace hx479_0 := (HB.out.cell (World.block_lt_of_cell? w _ hx479_0)).trans hx479_0
                      replace hx479_1 := (HB.out.cell (World.block_lt_of_cell? w _ hx479_1)).trans hx479_1
                      replace hx479_2 := (HB.out.cell (World.block_lt_of_cell? w _ hx479_2)).trans hx479_2
                      replace hx479_3 := (HB.out.cell (World.block_lt_of_cell? w _ hx479_3)).trans hx479_3
                      replace p479 := eq_true p479
                      replace q479 := eq_true q479
                      try go_wp2_with (first | ((with_reducible refine gate_dst (N := 10) rfl ?_); (try (refine gate_guard (by rfl) ?_; dsimp only)); refine box_event ?hg (N := 10) ?hd (cs := #[.int .i64 0, .int .i64 0, .int .i64 0, .string (⟨#[]⟩ : ByteArray)]) (t := 56) ?hr ?_; (case hd => rfl); (case hg => rfl); (case hr => first | (go_simp; done) | (go_simp; rfl)); intro gb480 hg w108 hbox hb; have n0_ := Aside0.mk (blk_below (g := gb477) (o := .cells #[.string x478000_2, .int .i64 x478001_2, .int .i64 x478002_2, .int .i64 x478003_2, .int .i64 x478004_2] 54 (0, 0)) q_80 hb); have n1_ := Aside0.mk (IsS68.below q_81 hb); have n2_ := Aside0.mk (below_step q_82 hb); have n3_ := Aside0.mk (hbox); have n4_ := Aside0.mk ((by rw [hg]; exact (below_size q_82) : w.heap.size ≤ gb480)); have n5_ := Aside0.mk ((by rw [hg]; exact (below_size q_82) : w.heap.size ≤ gb480)); have n6_ := Aside0.mk ((q_117 : gb477 ≠ gb480)); have n7_ := Aside0.mk ((q_118 : gb480 ≠ gb477)); have n8_ := Aside0.mk ((q_83 : g476 ≠ gb480)); have n9_ := Aside0.mk ((q_84 : gb480 ≠ g476)); clear BK477; clear HI476; clear HB; have BK477 := n0_; have HI476 := n1_; have HB := n2_; have BK480 := n3_; have GW480 := n4_; have GE480 := n5_; have NB477_480 := n6_; have NB480_477 := n7_; have NB476_480 := n8_; have NB480_476 := n9_; clear n0_ n1_ n2_ n3_ n4_ n5_ n6_ n7_ n8_ n9_; clear hb hbox hg; have hnb109 := NB480_477.out; have hnc109 := NB477_480.out; have hnb110 := NB480_476.out; have hnc110 := NB476_480.out; obtain ⟨hcz111_0, hcz111_1, hcz111_2, hcz111_3, hfz111_0, hfz111_1, hfz111_2, hfz111_3⟩ := cells4_ BK480.out; have hnb112 := NB477_476.out; have hnc112 := NB476_477.out; obtain ⟨hcz113_0, hcz113_1, hcz113_2, hcz113_3, hcz113_4, hfz113_0, hfz113_1, hfz113_2, hfz113_3, hfz113_4⟩ := cells5_ BK477.out) | ((with_reducible refine gate_callee (f := 34) rfl ?_); refine goesL_ (some 48) rfl rfl Try.func34 (by kernel_rfl) rfl #[.pointer (some ⟨g476, 0, none⟩), .agg #[.string x478000_2, .int .i64 x478001_2, .int .i64 x478002_2, .int .i64 x478003_2, .int .i64 x478004_2], .agg #[.int .i64 ((rd_T56 l2 x35_2).f0), .int .i64 ((rd_T56 l2 x35_2).f1), .int .i64 ((rd_T56 l2 x35_2).f2), .string ((rd_T56 l2 x35_2).f3)]] rfl q_10 ?_; (with_reducible refine (diacriticlaw01_do.calls k2 g476 x477000_2 x477001_2 x477002_2 x477003_2 x477004_2 x478000_2 x478001_2 x478002_2 x478003_2 x478004_2 ((rd_T56 l2 x35_2).f0) ((rd_T56 l2 x35_2).f1) ((rd_T56 l2 x35_2).f2) ((rd_T56 l2 x35_2).f3) t482 t483 t484 t485 t486 false t488 t489 t490 t491 t492 w _ ?side1 ?side2 A26.out).mono ?_); (case side1 => repeat (first | (with_reducible first | exact HI476.out | apply IsS68.alloc | apply IsS68.drewN | apply IsS68.drew | apply IsS68.set_0 | apply IsS68.set_1 | apply IsS68.set_2 | apply IsS68.set_3 | apply IsS68.set_4 | refine IsS68.far ?_ NB476_477.out _ | apply IsS68.far (hne := NB476_477.out) | refine IsS68.far ?_ NB476_480.out _ | apply IsS68.far (hne := NB476_480.out)) | exact HI476.out)); (case side2 => repeat (first | (with_reducible first | exact HB.out | apply below_alloc | apply pw_below_drewN | apply below_drew1 | refine below_set ?_ (IsS68.ge HI476.out) | refine below_set ?_ GE477.out | refine below_set ?_ GE480.out) | exact HB.out)); rintro e w114 ⟨rfl, hi, hb, hk⟩; refine ⟨_, rfl, ?_⟩; have n0_ := Aside0.mk (KeepBut.blk hk (g' := gb477) (o := .cells #[.string x478000_2, .int .i64 x478001_2, .int .i64 x478002_2, .int .i64 x478003_2, .int .i64 x478004_2] 54 (0, 0)) q_85 NB477_476.out (by simp)); have n1_ := Aside0.mk (KeepBut.blk hk (g' := gb480) (o := .cells #[.int .i64 ((rd_T56 l2 x35_2).f0), .int .i64 ((rd_T56 l2 x35_2).f1), .int .i64 ((rd_T56 l2 x35_2).f2), .string ((rd_T56 l2 x35_2).f3)] 56 (0, 0)) q_86 NB480_476.out (by simp)); have n2_ := Aside0.mk (hb); have n3_ := Aside0.mk (hi); clear BK477; clear BK480; clear HB; clear HI476; have BK477 := n0_; have BK480 := n1_; have HB := n2_; have HI476 := n3_; clear n0_ n1_ n2_ n3_; (try clear hb); (try clear hb2); (try clear hk); (try clear hi)) | ((with_reducible refine gate_dst (N := 11) rfl ?_); (try (refine gate_guard (by rfl) ?_; dsimp only)); refine box_event ?hg (N := 11) ?hd (cs := #[.string (⟨#[]⟩ : ByteArray), .int .i64 0, .int .i64 0, .int .i64 0, .int .i64 0]) (t := 54) ?hr ?_; (case hd => rfl); (case hg => rfl); (case hr => first | (go_simp; done) | (go_simp; rfl)); intro gb493 hg w115 hbox hb; have n0_ := Aside0.mk (blk_below (g := gb477) (o := .cells #[.string x478000_2, .int .i64 x478001_2, .int .i64 x478002_2, .int .i64 x478003_2, .int .i64 x478004_2] 54 (0, 0)) q_80 hb); have n1_ := Aside0.mk (IsS68.below q_88 hb); have n2_ := Aside0.mk (blk_below (g := gb480) (o := .cells #[.int .i64 ((rd_T56 l2 x35_2).f0), .int .i64 ((rd_T56 l2 x35_2).f1), .int .i64 ((rd_T56 l2 x35_2).f2), .string ((rd_T56 l2 x35_2).f3)] 56 (0, 0)) q_89 hb); have n3_ := Aside0.mk (below_step q_87 hb); have n4_ := Aside0.mk (hbox); have n5_ := Aside0.mk ((by rw [hg]; exact (below_size q_87) : w.heap.size ≤ gb493)); have n6_ := Aside0.mk ((by rw [hg]; exact (below_size q_87) : w.heap.size ≤ gb493)); have n7_ := Aside0.mk ((q_117 : gb477 ≠ gb493)); have n8_ := Aside0.mk ((q_118 : gb493 ≠ gb477)); have n9_ := Aside0.mk ((q_119 : gb480 ≠ gb493)); have n10_ := Aside0.mk ((q_120 : gb493 ≠ gb480)); have n11_ := Aside0.mk ((q_90 : g476 ≠ gb493)); have n12_ := Aside0.mk ((q_91 : gb493 ≠ g476)); clear BK477; clear HI476; clear BK480; clear HB; have BK477 := n0_; have HI476 := n1_; have BK480 := n2_; have HB := n3_; have BK493 := n4_; have GW493 := n5_; have GE493 := n6_; have NB477_493 := n7_; have NB493_477 := n8_; have NB480_493 := n9_; have NB493_480 := n10_; have NB476_493 := n11_; have NB493_476 := n12_; clear n0_ n1_ n2_ n3_ n4_ n5_ n6_ n7_ n8_ n9_ n10_ n11_ n12_; clear hb hbox hg; have hnb116 := NB493_477.out; have hnc116 := NB477_493.out; have hnb117 := NB493_480.out; have hnc117 := NB480_493.out; have hnb118 := NB493_476.out; have hnc118 := NB476_493.out; obtain ⟨hcz119_0, hcz119_1, hcz119_2, hcz119_3, hcz119_4, hfz119_0, hfz119_1, hfz119_2, hfz119_3, hfz119_4⟩ := cells5_ BK493.out; obtain ⟨hcz120_0, hcz120_1, hcz120_2, hcz120_3, hcz120_4, hfz120_0, hfz120_1, hfz120_2, hfz120_3, hfz120_4⟩ := cells5_ BK477.out))
                      have n0_ : Aside0 (((((((((((w115.setCell ⟨gb493, 0, none⟩ (.string t482)).setCell ⟨gb493, 1, none⟩ (.int .i64 t483)).setCell ⟨gb493, 2, none⟩ (.int .i64 t484)).setCell ⟨gb493, 3, none⟩ (.int .i64 t485)).setCell ⟨gb493, 4, none⟩ (.int .i64 t486)).setCell ⟨gb477, 0, none⟩ (.string t482)).setCell ⟨gb477, 1, none⟩ (.int .i64 t483)).setCell ⟨gb477, 2, none⟩ (.int .i64 t484)).setCell ⟨gb477, 3, none⟩ (.int .i64 t485)).setCell ⟨gb477, 4, none⟩ (.int .i64 t486)).heap[gb477]? = some (.cells #[.string t482, .int .i64 t483, .int .i64 t484, .int .i64 t485, .int .i64 t486] 54 (0, 0))) := ⟨q_96⟩
                      have n1_ : Aside0 (((((((((((w115.setCell ⟨gb493, 0, none⟩ (.string t482)).setCell ⟨gb493, 1, none⟩ (.int .i64 t483)).setCell ⟨gb493, 2, none⟩ (.int .i64 t484)).setCell ⟨gb493, 3, none⟩ (.int .i64 t485)).setCell ⟨gb493, 4, none⟩ (.int .i64 t486)).setCell ⟨gb477, 0, none⟩ (.string t482)).setCell ⟨gb477, 1, none⟩ (.int .i64 t483)).setCell ⟨gb477, 2, none⟩ (.int .i64 t484)).setCell ⟨gb477, 3, none⟩ (.int .i64 t485)).setCell ⟨gb477, 4, none⟩ (.int .i64 t486)).heap[gb480]? = some (.cells #[.int .i64 ((rd_T56 l2 x35_2).f0), .int .i64 ((rd_T56 l2 x35_2).f1), .int .i64 ((rd_T56 l2 x35_2).f2), .string ((rd_T56 l2 x35_2).f3)] 56 (0, 0))) := ⟨q_97⟩
                      have n2_ : Aside0 (((((((((((w115.setCell ⟨gb493, 0, none⟩ (.string t482)).setCell ⟨gb493, 1, none⟩ (.int .i64 t483)).setCell ⟨gb493, 2, none⟩ (.int .i64 t484)).setCell ⟨gb493, 3, none⟩ (.int .i64 t485)).setCell ⟨gb493, 4, none⟩ (.int .i64 t486)).setCell ⟨gb477, 0, none⟩ (.string t482)).setCell ⟨gb477, 1, none⟩ (.int .i64 t483)).setCell ⟨gb477, 2, none⟩ (.int .i64 t484)).setCell ⟨gb477, 3, none⟩ (.int .i64 t485)).setCell ⟨gb477, 4, none⟩ (.int .i64 t486)).heap[gb493]? = some (.cells #[.string t482, .int .i64 t483, .int .i64 t484, .int .i64 t485, .int .i64 t486] 54 (0, 0))) := ⟨q_98⟩
                      have n3_ : Aside0 (IsS68 w ((((((((((w115.setCell ⟨gb493, 0, none⟩ (.string t482)).setCell ⟨gb493, 1, none⟩ (.int .i64 t483)).setCell ⟨gb493, 2, none⟩ (.int .i64 t484)).setCell ⟨gb493, 3, none⟩ (.int .i64 t485)).setCell ⟨gb493, 4, none⟩ (.int .i64 t486)).setCell ⟨gb477, 0, none⟩ (.string t482)).setCell ⟨gb477, 1, none⟩ (.int .i64 t483)).setCell ⟨gb477, 2, none⟩ (.int .i64 t484)).setCell ⟨gb477, 3, none⟩ (.int .i64 t485)).setCell ⟨gb477, 4, none⟩ (.int .i64 t486)) g476 t488 t489 t490 t491 t492) := ⟨q_93⟩
                      have n4_ : Aside0 (Below w.heap.size w ((((((((((w115.setCell ⟨gb493, 0, none⟩ (.string t482)).setCell ⟨gb493, 1, none⟩ (.int .i64 t483)).setCell ⟨gb493, 2, none⟩ (.int .i64 t484)).setCell ⟨gb493, 3, none⟩ (.int .i64 t485)).setCell ⟨gb493, 4, none⟩ (.int .i64 t486)).setCell ⟨gb477, 0, none⟩ (.string t482)).setCell ⟨gb477, 1, none⟩ (.int .i64 t483)).setCell ⟨gb477, 2, none⟩ (.int .i64 t484)).setCell ⟨gb477, 3, none⟩ (.int .i64 t485)).setCell ⟨gb477, 4, none⟩ (.int .i64 t486))) := ⟨q_94⟩
                      (try clear BK477)
                      (try clear BK480)
                      (try clear BK493)
                      (try clear HI476)
                      (try clear HB)
                      generalize ((((((((((w115.setCell ⟨gb493, 0, none⟩ (.string t482)).setCell ⟨gb493, 1, none⟩ (.int .i64 t483)).setCell ⟨gb493, 2, none⟩ (.int .i64 t484)).setCell ⟨gb493, 3, none⟩ (.int .i64 t485)).setCell ⟨gb493, 4, none⟩ (.int .i64 t486)).setCell ⟨gb477, 0, none⟩ (.string t482)).setCell ⟨gb477, 1, none⟩ (.int .i64 t483)).setCell ⟨gb477, 2, none⟩ (.int .i64 t484)).setCell ⟨gb477, 3, none⟩ (.int .i64 t485)).setCell ⟨gb477, 4, none⟩ (.int .i64 t486)) = w121 at n0_ n1_ n2_ n3_ n4_ ⊢
                      have BK477 := n0_
                      have BK480 := n1_
                      have BK493 := n2_
                      have HI476 := n3_
                      have HB := n4_
                      clear n0_ n1_ n2_ n3_ n4_
                      have n0_ := Aside0.mk (blk_drew BK477.out)
                      have n1_ := Aside0.mk (blk_drew BK480.out)
                      have n2_ := Aside0.mk (blk_drew BK493.out)
                      have n3_ := Aside0.mk (IsS68.drew HI476.out)
                      have n4_ := Aside0.mk (below_drew1 HB.out)
                      clear BK477
                      clear BK480
                      clear BK493
                      clear HI476
                      clear HB
                      have BK477 := n0_
                      have BK480 := n1_
                      have BK493 := n2_
                      have HI476 := n3_
                      have HB := n4_
                      clear n0_ n1_ n2_ n3_ n4_
                      refine start_ (n := 29) (S := fun w' => True) (ds := []) #[false, false, false, false, false, false, false, false, false, false, false, false, false, false, false, false, false, false, false, false, false, false, false, false, false, false, false, false, false] (by kernel_rfl) rfl rfl trivial (fun hHeld => ?_); refine with_tabW diacriticlaw01_OctetReads.tab11 diacriticlaw01_OctetReads.bits11 (fun HT_ HW_ => ?_)
                      generalize w121.drew = w122 at BK477 BK480 BK493 HI476 HB hHeld ⊢
                      refine pure_ (i := 0) (N := some 52) (v := ?_) (a' := ?_) #[true, false, false, false, false, false, false, false, false, false, false, false, false, false, false, false, false, false, false, false, false, false, false, false, false, false, false, false, false] rfl rfl (any_of HT_.out (by kernel_rfl)) (fun _ _ _ h => h) (Or.inl ⟨by rfl, ?_⟩) ?_ ?_
                      rotate_left
                      · intro w'
                        go_simp
                        with_reducible rfl
                      rotate_left
                      · simp only [Act.put, List.setIfInBounds_toArray, List.set_cons_zero, List.set_cons_succ, i64_w, i32_w]
                        rfl
                      refine pure_ (i := 1) (N := some 53) (v := ?_) (a' := ?_) #[true, true, false, false, false, false, false, false, false, false, false, false, false, false, false, false, false, false, false, false, false, false, false, false, false, false, false, false, false] rfl rfl (any_of HT_.out (by kernel_rfl)) (fun _ _ _ h => h) (Or.inl ⟨by rfl, ?_⟩) ?_ ?_
                      rotate_left
                      · intro w'
                        go_simp
                        with_reducible rfl
                      rotate_left
                      · simp only [Act.put, List.setIfInBounds_toArray, List.set_cons_zero, List.set_cons_succ, i64_w, i32_w]
                        rfl
                      refine pure_ (i := 2) (N := some 54) (v := ?_) (a' := ?_) #[true, true, true, false, false, false, false, false, false, false, false, false, false, false, false, false, false, false, false, false, false, false, false, false, false, false, false, false, false] rfl rfl (any_of HT_.out (by kernel_rfl)) (fun _ _ _ h => h) (Or.inl ⟨by rfl, ?_⟩) ?_ ?_
                      rotate_left
                      · intro w'
                        go_simp
                        with_reducible rfl
                      rotate_left
                      · simp only [Act.put, List.setIfInBounds_toArray, List.set_cons_zero, List.set_cons_succ, i64_w, i32_w]
                        rfl
                      refine pure_ (i := 3) (N := some 55) (v := undef) (a' := ?_) #[true, true, true, true, false, false, false, false, false, false, false, false, false, false, false, false, false, false, false, false, false, false, false, false, false, false, false, false, false] rfl rfl (any_of HT_.out (by kernel_rfl)) (fun _ _ _ h => h) (Or.inr ⟨by rfl, rfl⟩) ?_ ?_
                      rotate_left
                      · simp only [Act.put, List.setIfInBounds_toArray, List.set_cons_zero, List.set_cons_succ, i64_w, i32_w]
                        rfl
                      refine pure_ (i := 4) (N := some 56) (v := undef) (a' := ?_) #[true, true, true, true, true, false, false, false, false, false, false, false, false, false, false, false, false, false, false, false, false, false, false, false, false, false, false, false, false] rfl rfl (any_of HT_.out (by kernel_rfl)) (fun _ _ _ h => h) (Or.inr ⟨by rfl, rfl⟩) ?_ ?_
                      rotate_left
                      · simp only [Act.put, List.setIfInBounds_toArray, List.set_cons_zero, List.set_cons_succ, i64_w, i32_w]
                        rfl
                      refine pure_ (i := 5) (N := some 57) (v := undef) (a' := ?_) #[true, true, true, true, true, true, false, false, false, false, false, false, false, false, false, false, false, false, false, false, false, false, false, false, false, false, false, false, false] rfl rfl (any_of HT_.out (by kernel_rfl)) (fun _ _ _ h => h) (Or.inr ⟨by rfl, rfl⟩) ?_ ?_
                      rotate_left
                      · simp only [Act.put, List.setIfInBounds_toArray, List.set_cons_zero, List.set_cons_succ, i64_w, i32_w]
                        rfl
                      refine pure_ (i := 6) (N := some 58) (v := undef) (a' := ?_) #[true, true, true, true, true, true, true, false, false, false, false, false, false, false, false, false, false, false, false, false, false, false, false, false, false, false, false, false, false] rfl rfl (any_of HT_.out (by kernel_rfl)) (fun _ _ _ h => h) (Or.inr ⟨by rfl, rfl⟩) ?_ ?_
                      rotate_left
                      · simp only [Act.put, List.setIfInBounds_toArray, List.set_cons_zero, List.set_cons_succ, i64_w, i32_w]
                        rfl
                      refine pure_ (i := 7) (N := some 59) (v := undef) (a' := ?_) #[true, true, true, true, true, true, true, true, false, false, false, false, false, false, false, false, false, false, false, false, false, false, false, false, false, false, false, false, false] rfl rfl (any_of HT_.out (by kernel_rfl)) (fun _ _ _ h => h) (Or.inr ⟨by rfl, rfl⟩) ?_ ?_
                      rotate_left
                      · simp only [Act.put, List.setIfInBounds_toArray, List.set_cons_zero, List.set_cons_succ, i64_w, i32_w]
                        rfl
                      refine pure_ (i := 8) (N := some 60) (v := ?_) (a' := ?_) #[true, true, true, true, true, true, true, true, true, false, false, false, false, false, false, false, false, false, false, false, false, false, false, false, false, false, false, false, false] rfl rfl (any_of HT_.out (by kernel_rfl)) (fun _ _ _ h => h) (Or.inl ⟨by rfl, ?_⟩) ?_ ?_
                      rotate_left
                      · intro w'
                        go_simp
                        with_reducible rfl
                      rotate_left
                      · simp only [Act.put, List.setIfInBounds_toArray, List.set_cons_zero, List.set_cons_succ, i64_w, i32_w]
                        rfl
                      refine pure_ (i := 9) (N := some 61) (v := ?_) (a' := ?_) #[true, true, true, true, true, true, true, true, true, true, false, false, false, false, false, false, false, false, false, false, false, false, false, false, false, false, false, false, false] rfl rfl (any_of HT_.out (by kernel_rfl)) (fun _ _ _ h => h) (Or.inl ⟨by rfl, ?_⟩) ?_ ?_
                      rotate_left
                      · intro w'
                        go_simp
                        with_reducible rfl
                      rotate_left
                      · simp only [Act.put, List.setIfInBounds_toArray, List.set_cons_zero, List.set_cons_succ, i64_w, i32_w]
                        rfl
                      refine pure_ (i := 10) (N := some 62) (v := undef) (a' := ?_) #[true, true, true, true, true, true, true, true, true, true, true, false, false, false, false, false, false, false, false, false, false, false, false, false, false, false, false, false, false] rfl rfl (any_of HT_.out (by kernel_rfl)) (fun _ _ _ h => h) (Or.inr ⟨by rfl, rfl⟩) ?_ ?_
                      rotate_left
                      · simp only [Act.put, List.setIfInBounds_toArray, List.set_cons_zero, List.set_cons_succ, i64_w, i32_w]
                        rfl
                      refine pure_ (i := 11) (N := some 63) (v := undef) (a' := ?_) #[true, true, true, true, true, true, true, true, true, true, true, true, false, false, false, false, false, false, false, false, false, false, false, false, false, false, false, false, false] rfl rfl (any_of HT_.out (by kernel_rfl)) (fun _ _ _ h => h) (Or.inr ⟨by rfl, rfl⟩) ?_ ?_
                      rotate_left
                      · simp only [Act.put, List.setIfInBounds_toArray, List.set_cons_zero, List.set_cons_succ, i64_w, i32_w]
                        rfl
                      refine pure_ (i := 12) (N := some 64) (v := undef) (a' := ?_) #[true, true, true, true, true, true, true, true, true, true, true, true, true, false, false, false, false, false, false, false, false, false, false, false, false, false, false, false, false] rfl rfl (any_of HT_.out (by kernel_rfl)) (fun _ _ _ h => h) (Or.inr ⟨by rfl, rfl⟩) ?_ ?_
                      rotate_left
                      · simp only [Act.put, List.setIfInBounds_toArray, List.set_cons_zero, List.set_cons_succ, i64_w, i32_w]
                        rfl
                      refine pure_ (i := 13) (N := some 65) (v := undef) (a' := ?_) #[true, true, true, true, true, true, true, true, true, true, true, true, true, true, false, false, false, false, false, false, false, false, false, false, false, false, false, false, false] rfl rfl (any_of HT_.out (by kernel_rfl)) (fun _ _ _ h => h) (Or.inr ⟨by rfl, rfl⟩) ?_ ?_
                      rotate_left
                      · simp only [Act.put, List.setIfInBounds_toArray, List.set_cons_zero, List.set_cons_succ, i64_w, i32_w]
                        rfl
                      refine pure_ (i := 14) (N := some 66) (v := undef) (a' := ?_) #[true, true, true, true, true, true, true, true, true, true, true, true, true, true, true, false, false, false, false, false, false, false, false, false, false, false, false, false, false] rfl rfl (any_of HT_.out (by kernel_rfl)) (fun _ _ _ h => h) (Or.inr ⟨by rfl, rfl⟩) ?_ ?_
                      rotate_left
                      · simp only [Act.put, List.setIfInBounds_toArray, List.set_cons_zero, List.set_cons_succ, i64_w, i32_w]
                        rfl
                      refine pure_ (i := 15) (N := some 67) (v := undef) (a' := ?_) #[true, true, true, true, true, true, true, true, true, true, true, true, true, true, true, true, false, false, false, false, false, false, false, false, false, false, false, false, false] rfl rfl (any_of HT_.out (by kernel_rfl)) (fun _ _ _ h => h) (Or.inr ⟨by rfl, rfl⟩) ?_ ?_
                      rotate_left
                      · simp only [Act.put, List.setIfInBounds_toArray, List.set_cons_zero, List.set_cons_succ, i64_w, i32_w]
                        rfl
                      refine pure_ (i := 16) (N := some 68) (v := undef) (a' := ?_) #[true, true, true, true, true, true, true, true, true, true, true, true, true, true, true, true, true, false, false, false, false, false, false, false, false, false, false, false, false] rfl rfl (any_of HT_.out (by kernel_rfl)) (fun _ _ _ h => h) (Or.inr ⟨by rfl, rfl⟩) ?_ ?_
                      rotate_left
                      · simp only [Act.put, List.setIfInBounds_toArray, List.set_cons_zero, List.set_cons_succ, i64_w, i32_w]
                        rfl
                      refine pure_ (i := 17) (N := some 69) (v := undef) (a' := ?_) #[true, true, true, true, true, true, true, true, true, true, true, true, true, true, true, true, true, true, false, false, false, false, false, false, false, false, false, false, false] rfl rfl (any_of HT_.out (by kernel_rfl)) (fun _ _ _ h => h) (Or.inr ⟨by rfl, rfl⟩) ?_ ?_
                      rotate_left
                      · simp only [Act.put, List.setIfInBounds_toArray, List.set_cons_zero, List.set_cons_succ, i64_w, i32_w]
                        rfl
                      refine pure_ (i := 18) (N := some 70) (v := ?_) (a' := ?_) #[true, true, true, true, true, true, true, true, true, true, true, true, true, true, true, true, true, true, true, false, false, false, false, false, false, false, false, false, false] rfl rfl (any_of HT_.out (by kernel_rfl)) (fun _ _ _ h => h) (Or.inl ⟨by rfl, ?_⟩) ?_ ?_
                      rotate_left
                      · intro w'
                        go_simp
                        with_reducible rfl
                      rotate_left
                      · simp only [Act.put, List.setIfInBounds_toArray, List.set_cons_zero, List.set_cons_succ, i64_w, i32_w]
                        rfl
                      refine pure_ (i := 19) (N := some 71) (v := ?_) (a' := ?_) #[true, true, true, true, true, true, true, true, true, true, true, true, true, true, true, true, true, true, true, true, false, false, false, false, false, false, false, false, false] rfl rfl (any_of HT_.out (by kernel_rfl)) (fun _ _ _ h => h) (Or.inl ⟨by rfl, ?_⟩) ?_ ?_
                      rotate_left
                      · intro w'
                        go_simp
                        with_reducible rfl
                      rotate_left
                      · simp only [Act.put, List.setIfInBounds_toArray, List.set_cons_zero, List.set_cons_succ, i64_w, i32_w]
                        rfl
                      refine pure_ (i := 20) (N := some 72) (v := undef) (a' := ?_) #[true, true, true, true, true, true, true, true, true, true, true, true, true, true, true, true, true, true, true, true, true, false, false, false, false, false, false, false, false] rfl rfl (any_of HT_.out (by kernel_rfl)) (fun _ _ _ h => h) (Or.inr ⟨by rfl, rfl⟩) ?_ ?_
                      rotate_left
                      · simp only [Act.put, List.setIfInBounds_toArray, List.set_cons_zero, List.set_cons_succ, i64_w, i32_w]
                        rfl
                      refine pure_ (i := 21) (N := some 73) (v := undef) (a' := ?_) #[true, true, true, true, true, true, true, true, true, true, true, true, true, true, true, true, true, true, true, true, true, true, false, false, false, false, false, false, false] rfl rfl (any_of HT_.out (by kernel_rfl)) (fun _ _ _ h => h) (Or.inr ⟨by rfl, rfl⟩) ?_ ?_
                      rotate_left
                      · simp only [Act.put, List.setIfInBounds_toArray, List.set_cons_zero, List.set_cons_succ, i64_w, i32_w]
                        rfl
                      refine pure_ (i := 22) (N := some 74) (v := undef) (a' := ?_) #[true, true, true, true, true, true, true, true, true, true, true, true, true, true, true, true, true, true, true, true, true, true, true, false, false, false, false, false, false] rfl rfl (any_of HT_.out (by kernel_rfl)) (fun _ _ _ h => h) (Or.inr ⟨by rfl, rfl⟩) ?_ ?_
                      rotate_left
                      · simp only [Act.put, List.setIfInBounds_toArray, List.set_cons_zero, List.set_cons_succ, i64_w, i32_w]
                        rfl
                      refine pure_ (i := 23) (N := some 75) (v := undef) (a' := ?_) #[true, true, true, true, true, true, true, true, true, true, true, true, true, true, true, true, true, true, true, true, true, true, true, true, false, false, false, false, false] rfl rfl (any_of HT_.out (by kernel_rfl)) (fun _ _ _ h => h) (Or.inr ⟨by rfl, rfl⟩) ?_ ?_
                      rotate_left
                      · simp only [Act.put, List.setIfInBounds_toArray, List.set_cons_zero, List.set_cons_succ, i64_w, i32_w]
                        rfl
                      refine pure_ (i := 24) (N := some 76) (v := undef) (a' := ?_) #[true, true, true, true, true, true, true, true, true, true, true, true, true, true, true, true, true, true, true, true, true, true, true, true, true, false, false, false, false] rfl rfl (any_of HT_.out (by kernel_rfl)) (fun _ _ _ h => h) (Or.inr ⟨by rfl, rfl⟩) ?_ ?_
                      rotate_left
                      · simp only [Act.put, List.setIfInBounds_toArray, List.set_cons_zero, List.set_cons_succ, i64_w, i32_w]
                        rfl
                      refine pure_ (i := 25) (N := some 77) (v := undef) (a' := ?_) #[true, true, true, true, true, true, true, true, true, true, true, true, true, true, true, true, true, true, true, true, true, true, true, true, true, true, false, false, false] rfl rfl (any_of HT_.out (by kernel_rfl)) (fun _ _ _ h => h) (Or.inr ⟨by rfl, rfl⟩) ?_ ?_
                      rotate_left
                      · simp only [Act.put, List.setIfInBounds_toArray, List.set_cons_zero, List.set_cons_succ, i64_w, i32_w]
                        rfl
                      refine pure_ (i := 26) (N := some 78) (v := undef) (a' := ?_) #[true, true, true, true, true, true, true, true, true, true, true, true, true, true, true, true, true, true, true, true, true, true, true, true, true, true, true, false, false] rfl rfl (any_of HT_.out (by kernel_rfl)) (fun _ _ _ h => h) (Or.inr ⟨by rfl, rfl⟩) ?_ ?_
                      rotate_left
                      · simp only [Act.put, List.setIfInBounds_toArray, List.set_cons_zero, List.set_cons_succ, i64_w, i32_w]
                        rfl
                      refine pure_ (i := 27) (N := some 79) (v := undef) (a' := ?_) #[true, true, true, true, true, true, true, true, true, true, true, true, true, true, true, true, true, true, true, true, true, true, true, true, true, true, true, true, false] rfl rfl (any_of HT_.out (by kernel_rfl)) (fun _ _ _ h => h) (Or.inr ⟨by rfl, rfl⟩) ?_ ?_
                      rotate_left
                      · simp only [Act.put, List.setIfInBounds_toArray, List.set_cons_zero, List.set_cons_succ, i64_w, i32_w]
                        rfl
                      refine pure_ (i := 28) (N := some 80) (v := ?_) (a' := ?_) #[true, true, true, true, true, true, true, true, true, true, true, true, true, true, true, true, true, true, true, true, true, true, true, true, true, true, true, true, true] rfl rfl (any_of HT_.out (by kernel_rfl)) (fun _ _ _ h => h) (Or.inl ⟨by rfl, ?_⟩) ?_ ?_
                      rotate_left
                      · intro w'
                        go_simp
                        with_reducible rfl
                      rotate_left
                      · simp only [Act.put, List.setIfInBounds_toArray, List.set_cons_zero, List.set_cons_succ, i64_w, i32_w]
                        rfl
                      refine done_ (done_of HT_.out (by kernel_rfl)) ?_
                      try go_wp2
                      go_ret
                      exact ⟨q_95, q_94⟩
                · rw [if_neg c18] at H
                  exact absurd H (by simp)
              · rw [if_neg c17] at H
                exact absurd H (by simp)
            · rw [if_neg c16] at H
              have c16b0 : decide (x35_2 < (l2.length : Int)) = false := decide_eq_false c16
              clear c16
              replace H := Option.bind_eq_some_iff.mp H
              obtain ⟨t478, A1230, H⟩ := H
              replace H : (some t478) = some r := H
              have A123 := Aside0.mk A1230
              clear A1230
              obtain rfl := Option.some.inj H
              go_wp2_with (first | ((with_reducible refine gate_callee (f := 12) rfl ?_); refine goesL_ (some 82) rfl rfl Try.func12 (by kernel_rfl) rfl #[] rfl q_10 ?_; (with_reducible refine (diacriticlaw01_awake.calls k2  t478 _ A123.out).mono ?_); rintro e w124 ⟨rfl, hb⟩; refine ⟨_, rfl, ?_⟩; have n0_ := Aside0.mk (blk_below (g := gb477) (o := .cells #[.string x478000_2, .int .i64 x478001_2, .int .i64 x478002_2, .int .i64 x478003_2, .int .i64 x478004_2] 54 (0, 0)) q_80 hb); have n1_ := Aside0.mk (IsS68.below q_81 hb); have n2_ := Aside0.mk (below_step q_82 hb); clear BK477; clear HI476; clear HB; have BK477 := n0_; have HI476 := n1_; have HB := n2_; clear n0_ n1_ n2_; (try clear hb); (try clear hb2); (try clear hk); (try clear hi)))
              go_ret
              exact ⟨q_95, q_82⟩

/-- THE ONE PURE STATEMENT of diacriticlaw01_OctetReads: yours. -/
def diacriticlaw01_OctetReads.Pure : Prop := ∀ (a0 : ByteArray) (a1 : Int) (l2 : List (S56)), a0.size ≤ 140737488351232 → (Lit.int .i64 a1).wf = true → l2.length ≤ 9223372036854775807 → (∀ x_ ∈ l2, okS56 x_) → ∃ k, diacriticlaw01_OctetReads.f k a0 a1 l2 = some true
theorem diacriticlaw01_OctetReads.walk (P : diacriticlaw01_OctetReads.Pure) (a0 : ByteArray) (a1 : Int) (A2 : Option Addr) (c2 : Nat) (l2 : List (S56)) (w : World) (w0 : a0.size ≤ 140737488351232) (w1 : (Lit.int .i64 a1).wf = true) (w2_0 : l2.length ≤ 9223372036854775807) (w2_1 : (∀ x_ ∈ l2, okS56 x_)) (hr2 : Kd.C k56 w A2 l2.length l2) (hc2 : l2.length ≤ c2) :
    Calls Try.prog 8 #[.string a0, .int .i64 a1, .slice A2 l2.length c2] w fun e w' => e = .returned (.bool true) ∧ Below w.heap.size w w' := by
  obtain ⟨k, h⟩ := P a0 a1 l2 w0 w1 w2_0 w2_1
  refine (diacriticlaw01_OctetReads.calls k a0 a1 _ _ l2 true w hr2 hc2 h).mono ?_
  rintro e w' ⟨rfl, hd⟩
  exact ⟨rfl, hd⟩

end Go.Proofs.Ytkcckhlkaknggaa.PAll
