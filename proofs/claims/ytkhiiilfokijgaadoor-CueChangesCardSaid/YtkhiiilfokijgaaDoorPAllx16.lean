/- Written by a program of this session: functions of the Go program as Lean functions, and the walks that tie them to it. -/
import Derived.Test.YtkhiiilfokijgaaDoorPAllx0
import Derived.Test.YtkhiiilfokijgaaDoorPAllx1
import Derived.Test.YtkhiiilfokijgaaDoorPAllx3
import Derived.Test.YtkhiiilfokijgaaDoorPAllx6
import Derived.Test.YtkhiiilfokijgaaDoorPAllx10
import Derived.Test.YtkhiiilfokijgaaDoorPAllx13
import Derived.Test.YtkhiiilfokijgaaDoorPAllx14
import Derived.Test.YtkhiiilfokijgaaDoorPAllx15
namespace Go.Proofs.YtkhiiilfokijgaaDoor.PAll
open Go.RowKit Go.Proofs.YtkhiiilfokijgaaDoorW.PrintWords Go.Proofs.YtkhiiilfokijgaaDoorW.PrintLast Go.Proofs.YtkhiiilfokijgaaDoorW.PrintMore
attribute [local go_sem] max2_int min2_int max_two min_two max_three min_three max_four min_four   -- for this text's walks alone
set_option linter.unusedVariables false
set_option linter.unusedSimpArgs false

attribute [local go_sem high] eqA26 eqA53
/-! ### octet_Big: function 79 -/
def octet_Big.l0 : Nat → Int → List Int → Int → Option (ByteArray)
  | 0, _, _, _ => none
  | k + 1, x0, x5, x6 => if x6 ≥ 0 then (if 0 ≤ (wrap64 (8 * x6)) then (if x5.length < 140737488355328 then (octet_Big.l0 k x0 (x5 ++ [(shr .u64 x0 (wrap64 (8 * x6))) % 256]) (wrap64 (x6 - 1))) else (none)) else (none)) else (some (strOfNums x5))
def octet_Big.f (k : Nat) (a0 : Int) (a1 : Int) : Option (ByteArray) := octet_Big.l0 k a0 ([] : List Int) ((mn (mx a1 0) 8) - 1)
theorem octet_Big.mono_l : ∀ k, (∀ y0 y1 y2, LeO (octet_Big.l0 k y0 y1 y2) (octet_Big.l0 (k + 1) y0 y1 y2))
  | 0 => fun _ _ _ r h => by simp [octet_Big.l0] at h
  | k + 1 => by
    have ih0 := octet_Big.mono_l k
    · intro y0 y1 y2
      unfold octet_Big.l0
      repeat' first
      | (with_reducible exact ih0 _ _ _)
      | (with_reducible exact LeO.refl _)
      | (with_reducible exact LeO.none _)
      | (with_reducible refine LeO.ite ?_ ?_)
      | (with_reducible refine LeO.bind ?_ (fun _ => ?_))
      | exact ih0 _ _ _
      | exact LeO.none _
      | refine LeO.ite ?_ ?_
      | refine LeO.bind ?_ (fun _ => ?_)
theorem octet_Big.mono : ∀ a0 a1 k, LeO (octet_Big.f k a0 a1) (octet_Big.f (k + 1) a0 a1) := by
  intro a0 a1 k
  have ih0 := octet_Big.mono_l k
  unfold octet_Big.f
  repeat' first
      | (with_reducible exact ih0 _ _ _)
      | (with_reducible exact LeO.refl _)
      | (with_reducible exact LeO.none _)
      | (with_reducible refine LeO.ite ?_ ?_)
      | (with_reducible refine LeO.bind ?_ (fun _ => ?_))
      | exact ih0 _ _ _
      | exact LeO.none _
      | refine LeO.ite ?_ ?_
      | refine LeO.bind ?_ (fun _ => ?_)
set_option maxHeartbeats 8000000 in
set_option maxRecDepth 100000 in
theorem octet_Big.calls (k : Nat) (a0 : Int) (a1 : Int) (r : ByteArray) (w : World) (h : octet_Big.f k a0 a1 = some r) :
    Calls Tryd.prog 79 #[.int .u64 a0, .int .i64 a1] w fun e w' => e = .returned (.string r) ∧ Below w.heap.size w w' := by
  have HB := Aside0.mk (Below.refl w.heap.size w)
  have H : (octet_Big.l0 k a0 ([] : List Int) ((mn (mx a1 0) 8) - 1)) = some r := h
  clear h
  obtain ⟨ji3, hji3⟩ : ∃ j_ : Int, (mx a1 0) = j_ := ⟨_, rfl⟩
  replace H : (octet_Big.l0 k a0 ([] : List Int) ((mn (ji3) 8) - 1)) = some r := by first | (rw [hji3] at H; exact H) | (simp only [hji3] at H ⊢; exact H)
  (try (have hji3l : 0 ≤ ji3 := by (rw [← hji3]; unfold mx; (repeat' split) <;> omega)))
  (try (have hji3m : 0 ≤ ji3 := by omega))
  have hji3_ : (if a1 < 0 then 0 else a1) = ji3 := hji3
  obtain ⟨ji4, hji4⟩ : ∃ j_ : Int, (mn (ji3) 8) = j_ := ⟨_, rfl⟩
  replace H : (octet_Big.l0 k a0 ([] : List Int) ((ji4) - 1)) = some r := by first | (rw [hji4] at H; exact H) | (simp only [hji4] at H ⊢; exact H)
  have hji4_ : (if 8 < (ji3) then 8 else (ji3)) = ji4 := hji4
  have H' := Aside0.mk H
  clear H
  go_enter Tryd.func79, Tryd.ntmps79
  go_wp2
  go_loopg [5, 6] k (fun kq v5 v6 w' => ∃ (x5_1 : List Int) (x6_1 : Int), v6 = .int .i64 x6_1 ∧ Aside0 (octet_Big.l0 kq a0 x5_1 x6_1 = some r) ∧ Aside0 (kq ≤ k) ∧ Aside0 (Kd.R (Kd.int .u8) 5 w' w.heap.size (fun _ => True) v5 x5_1) ∧ Aside0 (Below w.heap.size w w'))
  case atStart => exact ⟨(([] : List Int)), ((ji4) - 1), (by first | rfl | (simp; done) | (simp only [← hji4] <;> (first | rfl | simp)) | (simp [*]; done)), H', ⟨Nat.le_refl _⟩, ⟨q_11⟩, ⟨q_1⟩⟩
  case round =>
    clear H'
    try clear p2
    obtain ⟨x5_1, x6_1, rfl, HA, HK1, HO_5, HB⟩ := hrel
    cases gk with
    | zero => exact absurd HA.out (by simp [octet_Big.l0])
    | succ k1 =>
      have H := HA.out
      clear HA
      simp only [octet_Big.l0] at H
      by_cases c5 : x6_1 ≥ 0
      · rw [if_pos c5] at H
        have c5b0 : decide (0 ≤ x6_1) = true := decide_eq_true c5
        clear c5
        obtain ⟨ji6, hji6⟩ : ∃ j_ : Int, (wrap64 (8 * x6_1)) = j_ := ⟨_, rfl⟩
        replace H : (if 0 ≤ (ji6) then (if x5_1.length < 140737488355328 then (octet_Big.l0 k1 a0 (x5_1 ++ [(shr .u64 a0 (ji6)) % 256]) (wrap64 (x6_1 - 1))) else (none)) else (none)) = some r := by first | (rw [hji6] at H; exact H) | (simp only [hji6] at H ⊢; exact H)
        have hji6w : (IntKind.i64.wrap (8 * x6_1)) = ji6 := (i64_w _).trans hji6
        by_cases c7 : 0 ≤ (ji6)
        · rw [if_pos c7] at H
          have c7b0 := eq_true c7
          have c7b1 : decide (0 ≤ (ji6)) = true := decide_eq_true c7
          clear c7
          obtain ⟨ji8, hji8⟩ : ∃ j_ : Int, (shr .u64 a0 (ji6)) = j_ := ⟨_, rfl⟩
          replace H : (if x5_1.length < 140737488355328 then (octet_Big.l0 k1 a0 (x5_1 ++ [(ji8) % 256]) (wrap64 (x6_1 - 1))) else (none)) = some r := by first | (rw [hji8] at H; exact H) | (simp only [hji8] at H ⊢; exact H)
          have hji8_ : (a0 / 2 ^ min (ji6).toNat 64) = ji8 := hji8
          have hji8z : (ji6) ≤ 64 → (a0 / 2 ^ (ji6).toNat) = ji8 := shr_small hji8
          by_cases c9 : x5_1.length < 140737488355328
          · rw [if_pos c9] at H
            have LMc9 := Aside0.mk c9
            clear c9
            obtain ⟨y261, hy261⟩ : ∃ y_ : List Int, y_ = (x5_1 ++ [(ji8) % 256]) := ⟨_, rfl⟩
            replace H : (octet_Big.l0 k1 a0 y261 (wrap64 (x6_1 - 1))) = some r := by first | (rw [hy261]; with_reducible exact H) | (have H2_ := (Option.bind_some _ _).symm.trans H; rw [hy261]; with_reducible exact H2_) | (have H2_ := (Option.bind_some _ _).symm.trans H; with_reducible exact H2_) | with_reducible exact H | (rw [hy261]; exact H) | exact H
            have Ny261 := Aside0.mk hy261
            clear hy261
            have H' := Aside0.mk H
            clear H
            go_wp2_with (first | ((with_reducible refine gate_builtin (b := .append) (xs := #[.tmp 15, .tmp 21]) rfl ?_); at_builtin; refine Kd.R_append (Kd.int .u8) (w0 := w) w.heap.size rfl (.tmp 15) (.tmp 21) 81 5 (.int .u8 0) 1 rfl Tryd.underlying81 info5 rfl (by decide) (by omega) u5 x5_1 ((ji8) % 256) [.int .u8 ((ji8) % 256)] (fun _ => True) (fun _ => False) rfl rfl ?aP (fun _ hk => hk.elim) ?aF ?aO ?aB ?aS ?aL ?_; (case aP => exact rfl); (case aB => exact q_1); (case aF => exact (fun _ _ => trivial)); (case aO => exact q_49); (case aS => exact (below_size q_1)); (case aL => have := LMc9.out; omega); intro v262 w10 ho hb hg hat; rw [← Ny261.out] at ho; have n0_ := Aside0.mk (hb); have n1_ := Aside0.mk (ho); clear HB; clear HO_5; have HB := n0_; have HO263 := n1_; clear n0_ n1_; clear ho hb hg hat))
            go_roundg k1
            case measure => have := HK1.out; omega
            case rel => exact ⟨(y261), (wrap64 (x6_1 - 1)), q_5, H', ⟨by have := HK1.out; omega⟩, ⟨by (with_reducible repeat (first | apply Kd.R_alloc | apply Kd.R_drewN | apply Kd.R_drew)); exact HO263.out⟩, ⟨q_1⟩⟩
          · rw [if_neg c9] at H
            exact absurd H (by simp)
        · rw [if_neg c7] at H
          exact absurd H (by simp)
      · rw [if_neg c5] at H
        have c5b0 : decide (0 ≤ x6_1) = false := decide_eq_false c5
        clear c5
        obtain rfl := Option.some.inj H
        have hcv11 := own_string (P := Tryd.prog) Tryd.underlying81 Tryd.underlying5 Tryd.underlying9 (Kd.own_of_R HO_5.out)
        go_wp2
        go_ret
        exact ⟨by first | rfl | (simp [errW_none, errW_some] <;> rfl) | (simp only [← hji3, ← hji4]; first | rfl | (simp [errW_none, errW_some] <;> rfl)) | (simp [*, errW_none, errW_some] <;> rfl), q_1⟩

/-! ### octet_In_Fault: function 80 -/
def octet_In_Fault.f (s0_0 : ByteArray) (s0_1 : Int) (s0_2 : Int) (s0_3 : Int) (s0_4 : Int) : Option (Int × Int × ByteArray × Int × Int × Int × Int) := some (s0_3, s0_4, s0_0, s0_1, s0_2, s0_3, s0_4)
set_option maxHeartbeats 8000000 in
set_option maxRecDepth 100000 in
theorem octet_In_Fault.calls (g : Nat) (s0_0 : ByteArray) (s0_1 : Int) (s0_2 : Int) (s0_3 : Int) (s0_4 : Int) (r1 : Int) (r2 : Int) (r3 : ByteArray) (r4 : Int) (r5 : Int) (r6 : Int) (r7 : Int) (w0 w : World) (hI : IsS115 w0 w g s0_0 s0_1 s0_2 s0_3 s0_4) (hB : Below w0.heap.size w0 w) (h : octet_In_Fault.f s0_0 s0_1 s0_2 s0_3 s0_4 = some (r1, r2, r3, r4, r5, r6, r7)) :
    Calls Tryd.prog 80 #[.pointer (some ⟨g, 0, none⟩)] w fun e w' => e = .returned (.agg #[.int .i64 r1, .int .i64 r2]) ∧ IsS115 w0 w' g r3 r4 r5 r6 r7 ∧ Below w0.heap.size w0 w' ∧ KeepBut w w' g none := by
  have hu26 := Tryd.underlying26
  have HI0 := Aside0.mk hI
  have HK := Aside0.mk (KeepBut.refl w g none)
  have HL := Aside0.mk hB.size
  clear hI
  have HW0 := Aside0.mk hB.size
  have HB := Aside0.mk hB
  clear hB
  have H : (some (s0_3, s0_4, s0_0, s0_1, s0_2, s0_3, s0_4)) = some (r1, r2, r3, r4, r5, r6, r7) := h
  clear h
  simp only [Option.some.injEq, Prod.mk.injEq] at H
  obtain ⟨rfl, rfl, rfl, rfl, rfl, rfl, rfl⟩ := H
  go_enter Tryd.func80, Tryd.ntmps80
  go_wp2_with (first | ((with_reducible refine gate_dst (N := 2) rfl ?_); refine box_event ?hg (N := 2) ?hd (cs := #[.int .i64 0, .int .i64 0]) (t := 26) ?hr ?_; (case hd => rfl); (case hg => rfl); (case hr => first | (go_simp; done) | (go_simp; rfl)); intro gb264 hg w2 hbox hb; have n0_ := Aside0.mk (IsS115.below q_46 hb); have n1_ := Aside0.mk (KeepBut.trans q_47 (KeepBut.of_below hb g none) (.inl rfl)); have n2_ := Aside0.mk (below_step q_48 hb); have n3_ := Aside0.mk (hbox); have n4_ := Aside0.mk ((by rw [hg]; exact (keep_size (w := w) (g := g) (row := none) q_47) : w.heap.size ≤ gb264)); have n5_ := Aside0.mk ((Nat.le_trans HW0.out (by rw [hg]; exact (keep_size (w := w) (g := g) (row := none) q_47) : w.heap.size ≤ gb264) : w0.heap.size ≤ gb264)); have n6_ := Aside0.mk ((by rw [hg]; exact Nat.ne_of_lt (IsS115.lt (show IsS115 w0 _ g s0_0 s0_1 s0_2 s0_3 s0_4 from by repeat (first | (with_reducible first | exact HI0.out | apply IsS115.alloc | apply IsS115.drewN | apply IsS115.drew | apply IsS115.set_0 | apply IsS115.set_1 | apply IsS115.set_2 | apply IsS115.set_3 | apply IsS115.set_4) | exact HI0.out))) : g ≠ gb264)); have n7_ := Aside0.mk ((by rw [hg]; exact Nat.ne_of_gt (IsS115.lt (show IsS115 w0 _ g s0_0 s0_1 s0_2 s0_3 s0_4 from by repeat (first | (with_reducible first | exact HI0.out | apply IsS115.alloc | apply IsS115.drewN | apply IsS115.drew | apply IsS115.set_0 | apply IsS115.set_1 | apply IsS115.set_2 | apply IsS115.set_3 | apply IsS115.set_4) | exact HI0.out))) : gb264 ≠ g)); clear HI0; clear HK; clear HB; have HI0 := n0_; have HK := n1_; have HB := n2_; have BK264 := n3_; have GW264 := n4_; have GE264 := n5_; have NB0_264 := n6_; have NB264_0 := n7_; clear n0_ n1_ n2_ n3_ n4_ n5_ n6_ n7_; clear hb hbox hg; obtain ⟨HGz3, hgz3⟩ := HI0.out; have hcz3_0 := cellS115_0 HGz3; have hcz3_1 := cellS115_1 HGz3; have hcz3_2 := cellS115_2 HGz3; have hcz3_3 := cellS115_3 HGz3; have hcz3_4 := cellS115_4 HGz3; have hfz3_0 := blk_frozen HGz3 0; have hfz3_1 := blk_frozen HGz3 1; have hfz3_2 := blk_frozen HGz3 2; have hfz3_3 := blk_frozen HGz3 3; have hfz3_4 := blk_frozen HGz3 4; clear HGz3 hgz3; have hnb4 := NB264_0.out; have hnc4 := NB0_264.out; obtain ⟨hcz5_0, hcz5_1, hfz5_0, hfz5_1⟩ := cells2_ BK264.out))
  refine bodyPost_ret (results_cell_row rfl _ _ gb264 26 #[.int .i64 s0_3, .int .i64 s0_4] (0, 0) _ rfl (by (with_reducible repeat (first | refine blk_drewN ?_ _ | refine blk_drew ?_ | refine blk_alloc ?_ _)); refine blk_put (cs := #[.int .i64 s0_3, .int .i64 0]) ?_ 1 _ rfl; (with_reducible repeat (first | refine blk_drewN ?_ _ | refine blk_drew ?_ | refine blk_alloc ?_ _)); refine blk_put (cs := #[.int .i64 0, .int .i64 0]) ?_ 0 _ rfl; (with_reducible repeat (first | refine blk_drewN ?_ _ | refine blk_drew ?_ | refine blk_alloc ?_ _)); exact BK264.out) Tryd.underlying26 rfl (by kernel_rfl)) rfl ?_
  exact ⟨q_10, by repeat (first | (with_reducible first | exact HI0.out | apply IsS115.alloc | apply IsS115.drewN | apply IsS115.drew | apply IsS115.set_0 | apply IsS115.set_1 | apply IsS115.set_2 | apply IsS115.set_3 | apply IsS115.set_4 | refine IsS115.far ?_ NB0_264.out _ | apply IsS115.far (hne := NB0_264.out)) | exact HI0.out), by repeat (first | (with_reducible first | exact HB.out | apply below_alloc | apply pw_below_drewN | apply below_drew1 | refine below_set ?_ (IsS115.ge HI0.out) | refine below_set ?_ GE264.out) | exact HB.out), by repeat (first | (with_reducible first | exact HK.out | apply KeepBut.set_ | apply keep_drewN | apply keep_drew | apply keep_alloc | refine keep_far ?_ GW264.out _) | exact HK.out)⟩

/-! ### diacriticlaw01_Awake: function 58 -/
def diacriticlaw01_Awake.f (k : Nat)  : Option (Bool) := (octet_Safe.f 129).bind fun bt265 => ((octet_Inner.f (⟨#[97, 98]⟩ : ByteArray) 10).bind fun bt267 => ((octet_In_Take.f bt267.1 bt267.2.1 bt267.2.2.1 bt267.2.2.2.1 bt267.2.2.2.2 3).bind fun bt273 => (if bt265.2 = true then (if bt265.1.toList = ([0, 0, 1, 1] : List UInt8) then ((octet_Big.f k 258 2).bind fun t279 => (if t279.toList = ([1, 2] : List UInt8) then (if bt273.1.toList = ([] : List UInt8) then ((octet_In_Fault.f bt273.2.1 bt273.2.2.1 bt273.2.2.2.1 bt273.2.2.2.2.1 bt273.2.2.2.2.2).bind fun bt280 => (some (bt280.1 == 1 && (bt280.2.1 == 12)))) else (some false)) else (some false))) else (some false)) else (some false))))
theorem diacriticlaw01_Awake.mono : ∀ k, LeO (diacriticlaw01_Awake.f k ) (diacriticlaw01_Awake.f (k + 1) ) := by
  intro  k
  unfold diacriticlaw01_Awake.f
  repeat' first
      | (with_reducible exact octet_Big.mono _ _ _)
      | (with_reducible exact LeO.refl _)
      | (with_reducible exact LeO.none _)
      | (with_reducible refine LeO.ite ?_ ?_)
      | (with_reducible refine LeO.bind ?_ (fun _ => ?_))
      | exact octet_Big.mono _ _ _
      | exact LeO.none _
      | refine LeO.ite ?_ ?_
      | refine LeO.bind ?_ (fun _ => ?_)
set_option maxHeartbeats 8000000 in
set_option maxRecDepth 100000 in
theorem diacriticlaw01_Awake.calls (k : Nat)  (r : Bool) (w : World) (h : diacriticlaw01_Awake.f k  = some r) :
    Calls Tryd.prog 58 #[] w fun e w' => e = .returned (.bool r) ∧ Below w.heap.size w w' := by
  have hr_ : r = true := by
    have a_ := at_rounds diacriticlaw01_Awake.mono (Nat.le_max_left k 100) h
    have b_ := at_rounds diacriticlaw01_Awake.mono (Nat.le_max_right k 100) (show diacriticlaw01_Awake.f 100 = some true by kernel_rfl)
    exact Option.some.inj (a_.symm.trans b_)
  have hu26 := Tryd.underlying26
  have HB := Aside0.mk (Below.refl w.heap.size w)
  have H : ((octet_Safe.f 129).bind fun bt265 => ((octet_Inner.f (⟨#[97, 98]⟩ : ByteArray) 10).bind fun bt267 => ((octet_In_Take.f bt267.1 bt267.2.1 bt267.2.2.1 bt267.2.2.2.1 bt267.2.2.2.2 3).bind fun bt273 => (if bt265.2 = true then (if bt265.1.toList = ([0, 0, 1, 1] : List UInt8) then ((octet_Big.f k 258 2).bind fun t279 => (if t279.toList = ([1, 2] : List UInt8) then (if bt273.1.toList = ([] : List UInt8) then ((octet_In_Fault.f bt273.2.1 bt273.2.2.1 bt273.2.2.2.1 bt273.2.2.2.2.1 bt273.2.2.2.2.2).bind fun bt280 => (some (bt280.1 == 1 && (bt280.2.1 == 12)))) else (some false)) else (some false))) else (some false)) else (some false))))) = some r := h
  clear h
  replace H := Option.bind_eq_some_iff.mp H
  obtain ⟨⟨t265, t266⟩, A10, H⟩ := H
  replace H : ((octet_Inner.f (⟨#[97, 98]⟩ : ByteArray) 10).bind fun bt267 => ((octet_In_Take.f bt267.1 bt267.2.1 bt267.2.2.1 bt267.2.2.2.1 bt267.2.2.2.2 3).bind fun bt273 => (if t266 = true then (if t265.toList = ([0, 0, 1, 1] : List UInt8) then ((octet_Big.f k 258 2).bind fun t279 => (if t279.toList = ([1, 2] : List UInt8) then (if bt273.1.toList = ([] : List UInt8) then ((octet_In_Fault.f bt273.2.1 bt273.2.2.1 bt273.2.2.2.1 bt273.2.2.2.2.1 bt273.2.2.2.2.2).bind fun bt280 => (some (bt280.1 == 1 && (bt280.2.1 == 12)))) else (some false)) else (some false))) else (some false)) else (some false)))) = some r := H
  have A1 := Aside0.mk A10
  clear A10
  replace H := Option.bind_eq_some_iff.mp H
  obtain ⟨⟨t267, t268, t269, t270, t271⟩, A20, H⟩ := H
  replace H : ((octet_In_Take.f t267 t268 t269 t270 t271 3).bind fun bt273 => (if t266 = true then (if t265.toList = ([0, 0, 1, 1] : List UInt8) then ((octet_Big.f k 258 2).bind fun t279 => (if t279.toList = ([1, 2] : List UInt8) then (if bt273.1.toList = ([] : List UInt8) then ((octet_In_Fault.f bt273.2.1 bt273.2.2.1 bt273.2.2.2.1 bt273.2.2.2.2.1 bt273.2.2.2.2.2).bind fun bt280 => (some (bt280.1 == 1 && (bt280.2.1 == 12)))) else (some false)) else (some false))) else (some false)) else (some false))) = some r := H
  have A2 := Aside0.mk A20
  clear A20
  replace H := Option.bind_eq_some_iff.mp H
  obtain ⟨⟨t273, t274, t275, t276, t277, t278⟩, A30, H⟩ := H
  replace H : (if t266 = true then (if t265.toList = ([0, 0, 1, 1] : List UInt8) then ((octet_Big.f k 258 2).bind fun t279 => (if t279.toList = ([1, 2] : List UInt8) then (if t273.toList = ([] : List UInt8) then ((octet_In_Fault.f t274 t275 t276 t277 t278).bind fun bt280 => (some (bt280.1 == 1 && (bt280.2.1 == 12)))) else (some false)) else (some false))) else (some false)) else (some false)) = some r := H
  have A3 := Aside0.mk A30
  clear A30
  by_cases c4 : t266 = true
  · subst c4
    have H1 : (if t265.toList = ([0, 0, 1, 1] : List UInt8) then ((octet_Big.f k 258 2).bind fun t279 => (if t279.toList = ([1, 2] : List UInt8) then (if t273.toList = ([] : List UInt8) then ((octet_In_Fault.f t274 t275 t276 t277 t278).bind fun bt280 => (some (bt280.1 == 1 && (bt280.2.1 == 12)))) else (some false)) else (some false))) else (some false)) = some r := by rw [if_pos rfl] at H; exact H
    clear H
    have H := H1
    clear H1
    by_cases c5 : t265.toList = ([0, 0, 1, 1] : List UInt8)
    · rw [if_pos c5] at H
      have c5b0 : (t265.toList == ([0, 0, 1, 1] : List UInt8)) = true := beq_iff_eq.mpr c5
      have c5b1 : (t265.toList != ([0, 0, 1, 1] : List UInt8)) = false := bne_eq_false_iff_eq.mpr c5
      clear c5
      replace H := Option.bind_eq_some_iff.mp H
      obtain ⟨t279, A60, H⟩ := H
      replace H : (if t279.toList = ([1, 2] : List UInt8) then (if t273.toList = ([] : List UInt8) then ((octet_In_Fault.f t274 t275 t276 t277 t278).bind fun bt280 => (some (bt280.1 == 1 && (bt280.2.1 == 12)))) else (some false)) else (some false)) = some r := H
      have A6 := Aside0.mk A60
      clear A60
      by_cases c7 : t279.toList = ([1, 2] : List UInt8)
      · rw [if_pos c7] at H
        have c7b0 : (t279.toList == ([1, 2] : List UInt8)) = true := beq_iff_eq.mpr c7
        have c7b1 : (t279.toList != ([1, 2] : List UInt8)) = false := bne_eq_false_iff_eq.mpr c7
        clear c7
        by_cases c8 : t273.toList = ([] : List UInt8)
        · rw [if_pos c8] at H
          have c8b0 : (t273.toList == ([] : List UInt8)) = true := beq_iff_eq.mpr c8
          have c8b1 : (t273.toList != ([] : List UInt8)) = false := bne_eq_false_iff_eq.mpr c8
          clear c8
          replace H := Option.bind_eq_some_iff.mp H
          obtain ⟨⟨t280, t281, t282, t283, t284, t285, t286⟩, A90, H⟩ := H
          replace H : (some (t280 == 1 && (t281 == 12))) = some r := H
          have A9 := Aside0.mk A90
          clear A90
          obtain rfl := Option.some.inj H
          go_enter Tryd.func58, Tryd.ntmps58
          go_wp2_with (first | ((with_reducible refine gate_callee (f := 76) rfl ?_); refine goesL_ (some 6) rfl rfl Tryd.func76 (by kernel_rfl) rfl #[.int .u64 129] rfl q_2 ?_; (with_reducible refine (octet_Safe.calls 129 t265 true _ A1.out).mono ?_); rintro e w10 ⟨rfl, hb⟩; refine ⟨_, rfl, ?_⟩; have n0_ := Aside0.mk (below_step q_1 hb); clear HB; have HB := n0_; clear n0_; (try clear hb); (try clear hb2); (try clear hk); (try clear hi)) | ((with_reducible refine gate_callee (f := 77) rfl ?_); refine goesL_ (some 9) rfl rfl Tryd.func77 (by kernel_rfl) rfl #[.string (⟨#[97, 98]⟩ : ByteArray), .int .i64 10] rfl q_2 ?_; (with_reducible refine (octet_Inner.calls (⟨#[97, 98]⟩ : ByteArray) 10 t267 t268 t269 t270 t271 w _ ?side1 A2.out).mono ?_); (case side1 => repeat (first | (with_reducible first | exact HB.out | apply below_alloc | apply pw_below_drewN | apply below_drew1) | exact HB.out)); rintro e w11 ⟨g272, rfl, hi, hb, hb2⟩; refine ⟨_, rfl, ?_⟩; have n0_ := Aside0.mk (hb); have n1_ := Aside0.mk (hi); clear HB; have HB := n0_; have HI272 := n1_; clear n0_ n1_; (try clear hb); (try clear hb2); (try clear hk); (try clear hi)) | ((with_reducible refine gate_callee (f := 78) rfl ?_); refine goesL_ (some 11) rfl rfl Tryd.func78 (by kernel_rfl) rfl #[.pointer (some ⟨g272, 0, none⟩), .int .i64 3] rfl q_2 ?_; (with_reducible refine (octet_In_Take.calls g272 t267 t268 t269 t270 t271 3 t273 t274 t275 t276 t277 t278 w _ ?side1 ?side2 A3.out).mono ?_); (case side1 => repeat (first | (with_reducible first | exact HI272.out | apply IsS115.alloc | apply IsS115.drewN | apply IsS115.drew | apply IsS115.set_0 | apply IsS115.set_1 | apply IsS115.set_2 | apply IsS115.set_3 | apply IsS115.set_4) | exact HI272.out)); (case side2 => repeat (first | (with_reducible first | exact HB.out | apply below_alloc | apply pw_below_drewN | apply below_drew1 | refine below_set ?_ (IsS115.ge HI272.out)) | exact HB.out)); rintro e w12 ⟨rfl, hi, hb, hk⟩; refine ⟨_, rfl, ?_⟩; have n0_ := Aside0.mk (hb); have n1_ := Aside0.mk (hi); clear HB; clear HI272; have HB := n0_; have HI272 := n1_; clear n0_ n1_; (try clear hb); (try clear hb2); (try clear hk); (try clear hi)) | (go_at_call 79; (with_reducible refine (octet_Big.calls k 258 2 t279 _ A6.out).mono ?_); rintro e w13 ⟨rfl, hb⟩; have n0_ := Aside0.mk (IsS115.below (by repeat (first | (with_reducible first | exact HI272.out | apply IsS115.alloc | apply IsS115.drewN | apply IsS115.drew | apply IsS115.set_0 | apply IsS115.set_1 | apply IsS115.set_2 | apply IsS115.set_3 | apply IsS115.set_4) | exact HI272.out)) hb); have n1_ := Aside0.mk (below_step (by repeat (first | (with_reducible first | exact HB.out | apply below_alloc | apply pw_below_drewN | apply below_drew1 | refine below_set ?_ (IsS115.ge HI272.out)) | exact HB.out)) hb); clear HI272; clear HB; have HI272 := n0_; have HB := n1_; clear n0_ n1_; (try clear hb); (try clear hb2); (try clear hk); (try clear hi)) | (go_at_call 80; (with_reducible refine (octet_In_Fault.calls g272 t274 t275 t276 t277 t278 t280 t281 t282 t283 t284 t285 t286 w _ ?side1 ?side2 A9.out).mono ?_); (case side1 => repeat (first | (with_reducible first | exact HI272.out | apply IsS115.alloc | apply IsS115.drewN | apply IsS115.drew | apply IsS115.set_0 | apply IsS115.set_1 | apply IsS115.set_2 | apply IsS115.set_3 | apply IsS115.set_4) | exact HI272.out)); (case side2 => repeat (first | (with_reducible first | exact HB.out | apply below_alloc | apply pw_below_drewN | apply below_drew1 | refine below_set ?_ (IsS115.ge HI272.out)) | exact HB.out)); rintro e w14 ⟨rfl, hi, hb, hk⟩; have n0_ := Aside0.mk (hb); have n1_ := Aside0.mk (hi); clear HB; clear HI272; have HB := n0_; have HI272 := n1_; clear n0_ n1_; (try clear hb); (try clear hb2); (try clear hk); (try clear hi)))
          go_ret
          exact ⟨q_10, by repeat (first | (with_reducible first | exact HB.out | apply below_alloc | apply pw_below_drewN | apply below_drew1 | refine below_set ?_ (IsS115.ge HI272.out)) | exact HB.out)⟩
        · rw [if_neg c8] at H
          exact absurd ((Option.some.inj H).trans hr_) (by decide)
      · rw [if_neg c7] at H
        exact absurd ((Option.some.inj H).trans hr_) (by decide)
    · rw [if_neg c5] at H
      exact absurd ((Option.some.inj H).trans hr_) (by decide)
  · replace c4 := Bool.eq_false_iff.mpr c4
    subst c4
    have H1 : (some false) = some r := by rw [if_neg (show ¬ (false = true) by decide)] at H; exact H
    clear H
    have H := H1
    clear H1
    exact absurd ((Option.some.inj H).trans hr_) (by decide)

/-! ### diacriticlaw22_Awake: function 39 -/
def diacriticlaw22_Awake.f (k : Nat)  : Option (Bool) := (line_Lines.f k (⟨#[97, 13, 10, 10, 98]⟩ : ByteArray)).bind fun t287 => ((diacriticlaw01_Awake.f k).bind fun t290 => (if t290 = true then (if (t287.length : Int) = 3 then (if 0 < (t287.length : Int) then (if ((((rd_T53 t287 0).f0).toList) == ([97] : List UInt8) && ((((rd_T53 t287 0).f1).toList) == ([13, 10] : List UInt8) && (((rd_T53 t287 0).f2) == 0))) = true then (if 1 < (t287.length : Int) then (if ((((rd_T53 t287 1).f0).toList) == ([] : List UInt8) && ((((rd_T53 t287 1).f1).toList) == ([10] : List UInt8) && (((rd_T53 t287 1).f2) == 3))) = true then (if 2 < (t287.length : Int) then (if ((((rd_T53 t287 2).f0).toList) == ([98] : List UInt8) && ((((rd_T53 t287 2).f1).toList) == ([] : List UInt8) && (((rd_T53 t287 2).f2) == 4))) = true then ((line_Like.f k (⟨#[49, 58, 50, 51]⟩ : ByteArray) (⟨#[48, 58, 48, 48]⟩ : ByteArray)).bind fun t294 => (if t294 = true then ((line_Mark.f (([(⟨#[97]⟩ : ByteArray), (⟨#[98]⟩ : ByteArray)] : List ByteArray))).bind fun bt298 => ((line_Text.f (⟨#[120]⟩ : ByteArray) (⟨#[99]⟩ : ByteArray)).bind fun bt301 => ((line_Whole.f k (([(⟨bt298.1, bt298.2.1, bt298.2.2⟩ : S30), (⟨bt301.1, bt301.2.1, bt301.2.2⟩ : S30)] : List (S30)))).bind fun t307 => (some (t307.toList == ([97, 98, 99] : List UInt8)))))) else (some false))) else (some false)) else (none)) else (some false)) else (none)) else (some false)) else (none)) else (some false)) else (some false)))
theorem diacriticlaw22_Awake.mono : ∀ k, LeO (diacriticlaw22_Awake.f k ) (diacriticlaw22_Awake.f (k + 1) ) := by
  intro  k
  unfold diacriticlaw22_Awake.f
  repeat' first
      | (with_reducible exact diacriticlaw01_Awake.mono _)
      | (with_reducible exact line_Like.mono _ _ _)
      | (with_reducible exact line_Lines.mono _ _)
      | (with_reducible exact line_Whole.mono _ _)
      | (with_reducible exact LeO.refl _)
      | (with_reducible exact LeO.none _)
      | (with_reducible refine LeO.ite ?_ ?_)
      | (with_reducible refine LeO.bind ?_ (fun _ => ?_))
      | exact diacriticlaw01_Awake.mono _
      | exact line_Like.mono _ _ _
      | exact line_Lines.mono _ _
      | exact line_Whole.mono _ _
      | exact LeO.none _
      | refine LeO.ite ?_ ?_
      | refine LeO.bind ?_ (fun _ => ?_)
set_option maxHeartbeats 8000000 in
set_option maxRecDepth 100000 in
theorem diacriticlaw22_Awake.calls (k : Nat)  (r : Bool) (w : World) (h : diacriticlaw22_Awake.f k  = some r) :
    Calls Tryd.prog 39 #[] w fun e w' => e = .returned (.bool r) ∧ Below w.heap.size w w' := by
  have hr_ : r = true := by
    have a_ := at_rounds diacriticlaw22_Awake.mono (Nat.le_max_left k 100) h
    have b_ := at_rounds diacriticlaw22_Awake.mono (Nat.le_max_right k 100) (show diacriticlaw22_Awake.f 100 = some true by kernel_rfl)
    exact Option.some.inj (a_.symm.trans b_)
  have hu53 := Tryd.underlying53
  have HB := Aside0.mk (Below.refl w.heap.size w)
  have H : ((line_Lines.f k (⟨#[97, 13, 10, 10, 98]⟩ : ByteArray)).bind fun t287 => ((diacriticlaw01_Awake.f k).bind fun t290 => (if t290 = true then (if (t287.length : Int) = 3 then (if 0 < (t287.length : Int) then (if ((((rd_T53 t287 0).f0).toList) == ([97] : List UInt8) && ((((rd_T53 t287 0).f1).toList) == ([13, 10] : List UInt8) && (((rd_T53 t287 0).f2) == 0))) = true then (if 1 < (t287.length : Int) then (if ((((rd_T53 t287 1).f0).toList) == ([] : List UInt8) && ((((rd_T53 t287 1).f1).toList) == ([10] : List UInt8) && (((rd_T53 t287 1).f2) == 3))) = true then (if 2 < (t287.length : Int) then (if ((((rd_T53 t287 2).f0).toList) == ([98] : List UInt8) && ((((rd_T53 t287 2).f1).toList) == ([] : List UInt8) && (((rd_T53 t287 2).f2) == 4))) = true then ((line_Like.f k (⟨#[49, 58, 50, 51]⟩ : ByteArray) (⟨#[48, 58, 48, 48]⟩ : ByteArray)).bind fun t294 => (if t294 = true then ((line_Mark.f (([(⟨#[97]⟩ : ByteArray), (⟨#[98]⟩ : ByteArray)] : List ByteArray))).bind fun bt298 => ((line_Text.f (⟨#[120]⟩ : ByteArray) (⟨#[99]⟩ : ByteArray)).bind fun bt301 => ((line_Whole.f k (([(⟨bt298.1, bt298.2.1, bt298.2.2⟩ : S30), (⟨bt301.1, bt301.2.1, bt301.2.2⟩ : S30)] : List (S30)))).bind fun t307 => (some (t307.toList == ([97, 98, 99] : List UInt8)))))) else (some false))) else (some false)) else (none)) else (some false)) else (none)) else (some false)) else (none)) else (some false)) else (some false)))) = some r := h
  clear h
  replace H := Option.bind_eq_some_iff.mp H
  obtain ⟨t287, A10, H⟩ := H
  replace H : ((diacriticlaw01_Awake.f k).bind fun t290 => (if t290 = true then (if (t287.length : Int) = 3 then (if 0 < (t287.length : Int) then (if ((((rd_T53 t287 0).f0).toList) == ([97] : List UInt8) && ((((rd_T53 t287 0).f1).toList) == ([13, 10] : List UInt8) && (((rd_T53 t287 0).f2) == 0))) = true then (if 1 < (t287.length : Int) then (if ((((rd_T53 t287 1).f0).toList) == ([] : List UInt8) && ((((rd_T53 t287 1).f1).toList) == ([10] : List UInt8) && (((rd_T53 t287 1).f2) == 3))) = true then (if 2 < (t287.length : Int) then (if ((((rd_T53 t287 2).f0).toList) == ([98] : List UInt8) && ((((rd_T53 t287 2).f1).toList) == ([] : List UInt8) && (((rd_T53 t287 2).f2) == 4))) = true then ((line_Like.f k (⟨#[49, 58, 50, 51]⟩ : ByteArray) (⟨#[48, 58, 48, 48]⟩ : ByteArray)).bind fun t294 => (if t294 = true then ((line_Mark.f (([(⟨#[97]⟩ : ByteArray), (⟨#[98]⟩ : ByteArray)] : List ByteArray))).bind fun bt298 => ((line_Text.f (⟨#[120]⟩ : ByteArray) (⟨#[99]⟩ : ByteArray)).bind fun bt301 => ((line_Whole.f k (([(⟨bt298.1, bt298.2.1, bt298.2.2⟩ : S30), (⟨bt301.1, bt301.2.1, bt301.2.2⟩ : S30)] : List (S30)))).bind fun t307 => (some (t307.toList == ([97, 98, 99] : List UInt8)))))) else (some false))) else (some false)) else (none)) else (some false)) else (none)) else (some false)) else (none)) else (some false)) else (some false))) = some r := H
  have A1 := Aside0.mk A10
  clear A10
  replace H := Option.bind_eq_some_iff.mp H
  obtain ⟨t290, A20, H⟩ := H
  replace H : (if t290 = true then (if (t287.length : Int) = 3 then (if 0 < (t287.length : Int) then (if ((((rd_T53 t287 0).f0).toList) == ([97] : List UInt8) && ((((rd_T53 t287 0).f1).toList) == ([13, 10] : List UInt8) && (((rd_T53 t287 0).f2) == 0))) = true then (if 1 < (t287.length : Int) then (if ((((rd_T53 t287 1).f0).toList) == ([] : List UInt8) && ((((rd_T53 t287 1).f1).toList) == ([10] : List UInt8) && (((rd_T53 t287 1).f2) == 3))) = true then (if 2 < (t287.length : Int) then (if ((((rd_T53 t287 2).f0).toList) == ([98] : List UInt8) && ((((rd_T53 t287 2).f1).toList) == ([] : List UInt8) && (((rd_T53 t287 2).f2) == 4))) = true then ((line_Like.f k (⟨#[49, 58, 50, 51]⟩ : ByteArray) (⟨#[48, 58, 48, 48]⟩ : ByteArray)).bind fun t294 => (if t294 = true then ((line_Mark.f (([(⟨#[97]⟩ : ByteArray), (⟨#[98]⟩ : ByteArray)] : List ByteArray))).bind fun bt298 => ((line_Text.f (⟨#[120]⟩ : ByteArray) (⟨#[99]⟩ : ByteArray)).bind fun bt301 => ((line_Whole.f k (([(⟨bt298.1, bt298.2.1, bt298.2.2⟩ : S30), (⟨bt301.1, bt301.2.1, bt301.2.2⟩ : S30)] : List (S30)))).bind fun t307 => (some (t307.toList == ([97, 98, 99] : List UInt8)))))) else (some false))) else (some false)) else (none)) else (some false)) else (none)) else (some false)) else (none)) else (some false)) else (some false)) = some r := H
  have A2 := Aside0.mk A20
  clear A20
  by_cases c3 : t290 = true
  · subst c3
    have H1 : (if (t287.length : Int) = 3 then (if 0 < (t287.length : Int) then (if ((((rd_T53 t287 0).f0).toList) == ([97] : List UInt8) && ((((rd_T53 t287 0).f1).toList) == ([13, 10] : List UInt8) && (((rd_T53 t287 0).f2) == 0))) = true then (if 1 < (t287.length : Int) then (if ((((rd_T53 t287 1).f0).toList) == ([] : List UInt8) && ((((rd_T53 t287 1).f1).toList) == ([10] : List UInt8) && (((rd_T53 t287 1).f2) == 3))) = true then (if 2 < (t287.length : Int) then (if ((((rd_T53 t287 2).f0).toList) == ([98] : List UInt8) && ((((rd_T53 t287 2).f1).toList) == ([] : List UInt8) && (((rd_T53 t287 2).f2) == 4))) = true then ((line_Like.f k (⟨#[49, 58, 50, 51]⟩ : ByteArray) (⟨#[48, 58, 48, 48]⟩ : ByteArray)).bind fun t294 => (if t294 = true then ((line_Mark.f (([(⟨#[97]⟩ : ByteArray), (⟨#[98]⟩ : ByteArray)] : List ByteArray))).bind fun bt298 => ((line_Text.f (⟨#[120]⟩ : ByteArray) (⟨#[99]⟩ : ByteArray)).bind fun bt301 => ((line_Whole.f k (([(⟨bt298.1, bt298.2.1, bt298.2.2⟩ : S30), (⟨bt301.1, bt301.2.1, bt301.2.2⟩ : S30)] : List (S30)))).bind fun t307 => (some (t307.toList == ([97, 98, 99] : List UInt8)))))) else (some false))) else (some false)) else (none)) else (some false)) else (none)) else (some false)) else (none)) else (some false)) = some r := by rw [if_pos rfl] at H; exact H
    clear H
    have H := H1
    clear H1
    by_cases c4 : (t287.length : Int) = 3
    · rw [if_pos c4] at H
      have c4b0 : ((t287.length : Int) == 3) = true := beq_iff_eq.mpr c4
      have c4b1 : ((t287.length : Int) != 3) = false := bne_eq_false_iff_eq.mpr c4
      clear c4
      by_cases c5 : 0 < (t287.length : Int)
      · rw [if_pos c5] at H
        have c5b0 : decide (0 < (t287.length : Int)) = true := decide_eq_true c5
        have c5b1 : decide (0 < t287.length) = true := decide_eq_true (by omega)
        clear c5
        by_cases c6 : ((((rd_T53 t287 0).f0).toList) == ([97] : List UInt8) && ((((rd_T53 t287 0).f1).toList) == ([13, 10] : List UInt8) && (((rd_T53 t287 0).f2) == 0))) = true
        · rw [if_pos c6] at H
          have c6b0 : ((((rd_T53 t287 0).f0).toList) == ([97] : List UInt8) && ((((rd_T53 t287 0).f1).toList) == ([13, 10] : List UInt8) && (((rd_T53 t287 0).f2) == 0))) = true := c6
          (try (have c6b1 : decide ((((rd_T53 t287 0).f0).toList) = ([97] : List UInt8) && ((((rd_T53 t287 0).f1).toList) == ([13, 10] : List UInt8) && (((rd_T53 t287 0).f2) == 0))) = true := by simpa using c6))
          (try (have c6b2 : ((((rd_T53 t287 0).f0).toList) == ([97] : List UInt8) && ((((rd_T53 t287 0).f1).toList) == ([13, 10] : List UInt8) && (((rd_T53 t287 0).f2) == 0))) = true := by simpa using c6))
          clear c6
          by_cases c7 : 1 < (t287.length : Int)
          · rw [if_pos c7] at H
            have c7b0 : decide (1 < (t287.length : Int)) = true := decide_eq_true c7
            have c7b1 : decide (1 < t287.length) = true := decide_eq_true (by omega)
            clear c7
            by_cases c8 : ((((rd_T53 t287 1).f0).toList) == ([] : List UInt8) && ((((rd_T53 t287 1).f1).toList) == ([10] : List UInt8) && (((rd_T53 t287 1).f2) == 3))) = true
            · rw [if_pos c8] at H
              have c8b0 : ((((rd_T53 t287 1).f0).toList) == ([] : List UInt8) && ((((rd_T53 t287 1).f1).toList) == ([10] : List UInt8) && (((rd_T53 t287 1).f2) == 3))) = true := c8
              (try (have c8b0E := c8b0; simp only [beq_nil_isEmpty, bne_nil_isEmpty] at c8b0E))
              (try (have c8b1 : decide ((((rd_T53 t287 1).f0).toList) = ([] : List UInt8) && ((((rd_T53 t287 1).f1).toList) == ([10] : List UInt8) && (((rd_T53 t287 1).f2) == 3))) = true := by simpa using c8))
              (try (have c8b2 : ((((rd_T53 t287 1).f0).toList) == ([] : List UInt8) && ((((rd_T53 t287 1).f1).toList) == ([10] : List UInt8) && (((rd_T53 t287 1).f2) == 3))) = true := by simpa using c8))
              clear c8
              by_cases c9 : 2 < (t287.length : Int)
              · rw [if_pos c9] at H
                have c9b0 : decide (2 < (t287.length : Int)) = true := decide_eq_true c9
                have c9b1 : decide (2 < t287.length) = true := decide_eq_true (by omega)
                clear c9
                by_cases c10 : ((((rd_T53 t287 2).f0).toList) == ([98] : List UInt8) && ((((rd_T53 t287 2).f1).toList) == ([] : List UInt8) && (((rd_T53 t287 2).f2) == 4))) = true
                · rw [if_pos c10] at H
                  have c10b0 : ((((rd_T53 t287 2).f0).toList) == ([98] : List UInt8) && ((((rd_T53 t287 2).f1).toList) == ([] : List UInt8) && (((rd_T53 t287 2).f2) == 4))) = true := c10
                  (try (have c10b0E := c10b0; simp only [beq_nil_isEmpty, bne_nil_isEmpty] at c10b0E))
                  (try (have c10b1 : decide ((((rd_T53 t287 2).f0).toList) = ([98] : List UInt8) && ((((rd_T53 t287 2).f1).toList) == ([] : List UInt8) && (((rd_T53 t287 2).f2) == 4))) = true := by simpa using c10))
                  (try (have c10b2 : ((((rd_T53 t287 2).f0).toList) == ([98] : List UInt8) && ((((rd_T53 t287 2).f1).toList) == ([] : List UInt8) && (((rd_T53 t287 2).f2) == 4))) = true := by simpa using c10))
                  clear c10
                  replace H := Option.bind_eq_some_iff.mp H
                  obtain ⟨t294, A110, H⟩ := H
                  replace H : (if t294 = true then ((line_Mark.f (([(⟨#[97]⟩ : ByteArray), (⟨#[98]⟩ : ByteArray)] : List ByteArray))).bind fun bt298 => ((line_Text.f (⟨#[120]⟩ : ByteArray) (⟨#[99]⟩ : ByteArray)).bind fun bt301 => ((line_Whole.f k (([(⟨bt298.1, bt298.2.1, bt298.2.2⟩ : S30), (⟨bt301.1, bt301.2.1, bt301.2.2⟩ : S30)] : List (S30)))).bind fun t307 => (some (t307.toList == ([97, 98, 99] : List UInt8)))))) else (some false)) = some r := H
                  have A11 := Aside0.mk A110
                  clear A110
                  by_cases c12 : t294 = true
                  · subst c12
                    have H1 : ((line_Mark.f (([(⟨#[97]⟩ : ByteArray), (⟨#[98]⟩ : ByteArray)] : List ByteArray))).bind fun bt298 => ((line_Text.f (⟨#[120]⟩ : ByteArray) (⟨#[99]⟩ : ByteArray)).bind fun bt301 => ((line_Whole.f k (([(⟨bt298.1, bt298.2.1, bt298.2.2⟩ : S30), (⟨bt301.1, bt301.2.1, bt301.2.2⟩ : S30)] : List (S30)))).bind fun t307 => (some (t307.toList == ([97, 98, 99] : List UInt8)))))) = some r := by rw [if_pos rfl] at H; exact H
                    clear H
                    have H := H1
                    clear H1
                    obtain ⟨y295, hy295⟩ : ∃ y_ : List ByteArray, y_ = (([(⟨#[97]⟩ : ByteArray), (⟨#[98]⟩ : ByteArray)] : List ByteArray)) := ⟨_, rfl⟩
                    replace H : ((line_Mark.f y295).bind fun bt298 => ((line_Text.f (⟨#[120]⟩ : ByteArray) (⟨#[99]⟩ : ByteArray)).bind fun bt301 => ((line_Whole.f k (([(⟨bt298.1, bt298.2.1, bt298.2.2⟩ : S30), (⟨bt301.1, bt301.2.1, bt301.2.2⟩ : S30)] : List (S30)))).bind fun t307 => (some (t307.toList == ([97, 98, 99] : List UInt8)))))) = some r := by first | (rw [hy295]; with_reducible exact H) | (have H2_ := (Option.bind_some _ _).symm.trans H; rw [hy295]; with_reducible exact H2_) | (have H2_ := (Option.bind_some _ _).symm.trans H; with_reducible exact H2_) | with_reducible exact H | (rw [hy295]; exact H) | exact H
                    have Ny295 := Aside0.mk hy295
                    clear hy295
                    replace H := Option.bind_eq_some_iff.mp H
                    obtain ⟨⟨t298, t299, t300⟩, A130, H⟩ := H
                    replace H : ((line_Text.f (⟨#[120]⟩ : ByteArray) (⟨#[99]⟩ : ByteArray)).bind fun bt301 => ((line_Whole.f k (([(⟨t298, t299, t300⟩ : S30), (⟨bt301.1, bt301.2.1, bt301.2.2⟩ : S30)] : List (S30)))).bind fun t307 => (some (t307.toList == ([97, 98, 99] : List UInt8))))) = some r := H
                    have A13 := Aside0.mk A130
                    clear A130
                    replace H := Option.bind_eq_some_iff.mp H
                    obtain ⟨⟨t301, t302, t303⟩, A140, H⟩ := H
                    replace H : ((line_Whole.f k (([(⟨t298, t299, t300⟩ : S30), (⟨t301, t302, t303⟩ : S30)] : List (S30)))).bind fun t307 => (some (t307.toList == ([97, 98, 99] : List UInt8)))) = some r := H
                    have A14 := Aside0.mk A140
                    clear A140
                    obtain ⟨y304, hy304⟩ : ∃ y_ : List (S30), y_ = (([(⟨t298, t299, t300⟩ : S30), (⟨t301, t302, t303⟩ : S30)] : List (S30))) := ⟨_, rfl⟩
                    replace H : ((line_Whole.f k y304).bind fun t307 => (some (t307.toList == ([97, 98, 99] : List UInt8)))) = some r := by first | (rw [hy304]; with_reducible exact H) | (have H2_ := (Option.bind_some _ _).symm.trans H; rw [hy304]; with_reducible exact H2_) | (have H2_ := (Option.bind_some _ _).symm.trans H; with_reducible exact H2_) | with_reducible exact H | (rw [hy304]; exact H) | exact H
                    have Ny304 := Aside0.mk hy304
                    clear hy304
                    replace H := Option.bind_eq_some_iff.mp H
                    obtain ⟨t307, A150, H⟩ := H
                    replace H : (some (t307.toList == ([97, 98, 99] : List UInt8))) = some r := H
                    have A15 := Aside0.mk A150
                    clear A150
                    obtain rfl := Option.some.inj H
                    go_enter Tryd.func39, Tryd.ntmps39
                    go_wp2_with (first | ((with_reducible refine gate_callee (f := 29) rfl ?_); refine goesL_ (some 2) rfl rfl Tryd.func29 (by kernel_rfl) rfl #[.string (⟨#[97, 13, 10, 10, 98]⟩ : ByteArray)] rfl q_2 ?_; (with_reducible refine (line_Lines.calls k (⟨#[97, 13, 10, 10, 98]⟩ : ByteArray) t287 _ A1.out).mono ?_); rintro e w16 ⟨v288, rfl, ho0, hb⟩; refine ⟨_, rfl, ?_⟩; have n0_ := Aside0.mk (Kd.R_lower ho0 (below_size q_1)); have n1_ := Aside0.mk (below_step q_1 hb); clear HB; have HO289 := n0_; have HB := n1_; clear n0_ n1_; (try clear hb); (try clear hb2); (try clear hk); (try clear hi); (try clear ho0)) | ((with_reducible refine gate_callee (f := 58) rfl ?_); refine goesL_ (some 3) rfl rfl Tryd.func58 (by kernel_rfl) rfl #[] rfl q_2 ?_; (with_reducible refine (diacriticlaw01_Awake.calls k  true _ A2.out).mono ?_); rintro e w17 ⟨rfl, hb⟩; refine ⟨_, rfl, ?_⟩; have n0_ := Aside0.mk (Kd.R_below q_50 hb); have n1_ := Aside0.mk (below_step q_1 hb); clear HO289; clear HB; have HO289 := n0_; have HB := n1_; clear n0_ n1_; (try clear hb); (try clear hb2); (try clear hk); (try clear hi); obtain ⟨Ao18, co18, eo18⟩ := Kd.R_slice HO289.out; subst eo18; have p291 : 0 ≤ (0 : Int) := (by omega); have q291 : 0 < (t287.length : Int) := of_decide_eq_true q_6; obtain ⟨ad291, e291, hx291_0, hx291_1, hx291_2⟩ := at_T53 (Kd.R_reads' HO289.out).2.2 0 p291 q291; cases e291; have qi291 : (0 < t287.length) = True := eq_true (by omega); (try rw [show ((0 : Int)).toNat = 0 from rfl] at hx291_0); (try rw [show 0 * 3 = 0 from rfl] at hx291_0); (try rw [Addr.add_zero'] at hx291_0); (try rw [show ((0 : Int)).toNat = 0 from rfl] at hx291_1); (try rw [show 0 * 3 = 0 from rfl] at hx291_1); (try rw [Addr.add_zero'] at hx291_1); (try rw [show ((0 : Int)).toNat = 0 from rfl] at hx291_2); (try rw [show 0 * 3 = 0 from rfl] at hx291_2); (try rw [Addr.add_zero'] at hx291_2); replace p291 := eq_true p291; replace q291 := eq_true q291; have p292 : 0 ≤ (1 : Int) := (by omega); have q292 : 1 < (t287.length : Int) := of_decide_eq_true q_6; obtain ⟨ad292, e292, hx292_0, hx292_1, hx292_2⟩ := at_T53 (Kd.R_reads' HO289.out).2.2 1 p292 q292; obtain rfl : ad291 = ad292 := (by injection e292); (try simp only [show (1 : Int).toNat = 1 from rfl, Nat.reduceMul, Nat.reduceEqDiff, Go.Addr.add, ↓reduceIte] at hx292_0); (try simp only [show (1 : Int).toNat = 1 from rfl, Nat.reduceMul, Nat.reduceEqDiff, Go.Addr.add, ↓reduceIte] at hx292_1); (try simp only [show (1 : Int).toNat = 1 from rfl, Nat.reduceMul, Nat.reduceEqDiff, Go.Addr.add, ↓reduceIte] at hx292_2); have qi292 : (1 < t287.length) = True := eq_true (by omega); (try rw [show ((1 : Int)).toNat = 1 from rfl] at hx292_0); (try rw [show 1 * 3 = 3 from rfl] at hx292_0); (try rw [show ((1 : Int)).toNat = 1 from rfl] at hx292_1); (try rw [show 1 * 3 = 3 from rfl] at hx292_1); (try rw [show ((1 : Int)).toNat = 1 from rfl] at hx292_2); (try rw [show 1 * 3 = 3 from rfl] at hx292_2); replace p292 := eq_true p292; replace q292 := eq_true q292; have p293 : 0 ≤ (2 : Int) := (by omega); have q293 : 2 < (t287.length : Int) := of_decide_eq_true q_6; obtain ⟨ad293, e293, hx293_0, hx293_1, hx293_2⟩ := at_T53 (Kd.R_reads' HO289.out).2.2 2 p293 q293; obtain rfl : ad291 = ad293 := (by injection e293); (try simp only [show (2 : Int).toNat = 2 from rfl, Nat.reduceMul, Nat.reduceEqDiff, Go.Addr.add, ↓reduceIte] at hx293_0); (try simp only [show (2 : Int).toNat = 2 from rfl, Nat.reduceMul, Nat.reduceEqDiff, Go.Addr.add, ↓reduceIte] at hx293_1); (try simp only [show (2 : Int).toNat = 2 from rfl, Nat.reduceMul, Nat.reduceEqDiff, Go.Addr.add, ↓reduceIte] at hx293_2); have qi293 : (2 < t287.length) = True := eq_true (by omega); (try rw [show ((2 : Int)).toNat = 2 from rfl] at hx293_0); (try rw [show 2 * 3 = 6 from rfl] at hx293_0); (try rw [show ((2 : Int)).toNat = 2 from rfl] at hx293_1); (try rw [show 2 * 3 = 6 from rfl] at hx293_1); (try rw [show ((2 : Int)).toNat = 2 from rfl] at hx293_2); (try rw [show 2 * 3 = 6 from rfl] at hx293_2); replace p293 := eq_true p293; replace q293 := eq_true q293) | (go_at_call 59; (with_reducible refine (line_Like.calls k (⟨#[49, 58, 50, 51]⟩ : ByteArray) (⟨#[48, 58, 48, 48]⟩ : ByteArray) true _ A11.out).mono ?_); rintro e w19 ⟨rfl, hb⟩; have n0_ := Aside0.mk (Kd.R_below q_50 hb); have n1_ := Aside0.mk (below_step q_1 hb); clear HO289; clear HB; have HO289 := n0_; have HB := n1_; clear n0_ n1_; (try clear hb); (try clear hb2); (try clear hk); (try clear hi)) | ((with_reducible refine gate_dst (N := 34) rfl ?_); (try (refine gate_guard (by rfl) ?_; dsimp only)); refine Kd.R_lit Kd.string _ 9 ?hg (N := 34) ?hd (xs := ([(⟨#[97]⟩ : ByteArray), (⟨#[98]⟩ : ByteArray)] : List ByteArray)) (inner := [.string (⟨#[97]⟩ : ByteArray), .string (⟨#[98]⟩ : ByteArray)]) (ok := fun _ => True) (okp := fun _ => True) ?hr ?hp (fun _ hk => hk) trivial (Below.refl _ _) (Nat.le_refl _) (by simp) ?_; (case hd => rfl); (case hg => rfl); (case hr => first | (go_simp; done) | (go_simp; rfl)); (case hp => exact (Reps.one (show Kd.M Kd.string _ _ _ (⟨#[97]⟩ : ByteArray) [.string (⟨#[97]⟩ : ByteArray)] from rfl) (Reps.one (show Kd.M Kd.string _ _ _ (⟨#[98]⟩ : ByteArray) [.string (⟨#[98]⟩ : ByteArray)] from rfl) (Reps.none _ _)))); intro v296 w20 ho21 hb hg_ hnew_; clear hg_ hnew_; (first | rw [← Ny295.out] at ho21 | (simp only [Int.reduceToNat] at ho21; rw [← Ny295.out] at ho21)); have n0_ := Aside0.mk (Kd.R_below q_50 hb); have n1_ := Aside0.mk (Kd.R_lower ho21 (below_size q_1)); have n2_ := Aside0.mk (below_step q_1 hb); clear HO289; clear HB; have HO289 := n0_; have HO297 := n1_; have HB := n2_; clear n0_ n1_ n2_; clear hb ho21; obtain ⟨Ao22, co22, eo22⟩ := Kd.R_slice HO297.out; subst eo22) | (go_at_call 40; (with_reducible refine (line_Mark.calls _ _ y295 t298 t299 t300 _ ?side1 ?side2 A13.out).mono ?_); (case side1 => repeat (first | exact (Kd.R_reads' HO297.out).2.2 | (with_reducible refine Kd.C_alloc ?_ _) | (with_reducible refine Kd.C_drewN ?_ _) | (with_reducible refine Kd.C_drew ?_))); (case side2 => exact (Kd.R_reads' HO297.out).2.1); rintro e w23 ⟨rfl, hb⟩; have n0_ := Aside0.mk (Kd.R_below q_50 hb); have n1_ := Aside0.mk (Kd.R_below q_51 hb); have n2_ := Aside0.mk (below_step q_1 hb); clear HO289; clear HO297; clear HB; have HO289 := n0_; have HO297 := n1_; have HB := n2_; clear n0_ n1_ n2_; (try clear hb); (try clear hb2); (try clear hk); (try clear hi)) | (go_at_call 24; (with_reducible refine (line_Text.calls (⟨#[120]⟩ : ByteArray) (⟨#[99]⟩ : ByteArray) t301 t302 t303 _ A14.out).mono ?_); rintro e w24 ⟨rfl, hb⟩; have n0_ := Aside0.mk (Kd.R_below q_50 hb); have n1_ := Aside0.mk (Kd.R_below q_51 hb); have n2_ := Aside0.mk (below_step q_1 hb); clear HO289; clear HO297; clear HB; have HO289 := n0_; have HO297 := n1_; have HB := n2_; clear n0_ n1_ n2_; (try clear hb); (try clear hb2); (try clear hk); (try clear hi)) | ((with_reducible refine gate_dst (N := 37) rfl ?_); (try (refine gate_guard (by rfl) ?_; dsimp only)); refine Kd.R_lit k30 _ 30 ?hg (N := 37) ?hd (xs := ([(⟨t298, t299, t300⟩ : S30), (⟨t301, t302, t303⟩ : S30)] : List (S30))) (inner := [.bool t298, .string t299, .string t300, .bool t301, .string t302, .string t303]) (ok := fun _ => True) (okp := fun _ => True) ?hr ?hp (fun _ hk => hk) trivial (Below.refl _ _) (Nat.le_refl _) (by simp) ?_; (case hd => rfl); (case hg => rfl); (case hr => first | (go_simp; done) | (go_simp; rfl)); (case hp => exact (Reps.c3 (show Kd.M k30 _ _ _ (⟨t298, t299, t300⟩ : S30) [.bool t298, .string t299, .string t300] from (k30_mkM _ _ _ (⟨t298, t299, t300⟩ : S30) )) (Reps.c3 (show Kd.M k30 _ _ _ (⟨t301, t302, t303⟩ : S30) [.bool t301, .string t302, .string t303] from (k30_mkM _ _ _ (⟨t301, t302, t303⟩ : S30) )) (Reps.none _ _)))); intro v305 w25 ho26 hb hg_ hnew_; clear hg_ hnew_; (first | rw [← Ny304.out] at ho26 | (simp only [Int.reduceToNat] at ho26; rw [← Ny304.out] at ho26)); have n0_ := Aside0.mk (Kd.R_below q_50 hb); have n1_ := Aside0.mk (Kd.R_below q_51 hb); have n2_ := Aside0.mk (Kd.R_lower ho26 (below_size q_1)); have n3_ := Aside0.mk (below_step q_1 hb); clear HO289; clear HO297; clear HB; have HO289 := n0_; have HO297 := n1_; have HO306 := n2_; have HB := n3_; clear n0_ n1_ n2_ n3_; clear hb ho26; obtain ⟨Ao27, co27, eo27⟩ := Kd.R_slice HO306.out; subst eo27) | (go_at_call 12; (with_reducible refine (line_Whole.calls k _ _ y304 t307 _ ?side1 ?side2 A15.out).mono ?_); (case side1 => repeat (first | exact (Kd.R_reads' HO306.out).2.2 | (with_reducible refine Kd.C_alloc ?_ _) | (with_reducible refine Kd.C_drewN ?_ _) | (with_reducible refine Kd.C_drew ?_))); (case side2 => exact (Kd.R_reads' HO306.out).2.1); rintro e w28 ⟨rfl, hb⟩; have n0_ := Aside0.mk (Kd.R_below q_50 hb); have n1_ := Aside0.mk (Kd.R_below q_51 hb); have n2_ := Aside0.mk (Kd.R_below (by (with_reducible repeat (first | apply Kd.R_alloc | apply Kd.R_drewN | apply Kd.R_drew)); exact HO306.out) hb); have n3_ := Aside0.mk (below_step q_1 hb); clear HO289; clear HO297; clear HO306; clear HB; have HO289 := n0_; have HO297 := n1_; have HO306 := n2_; have HB := n3_; clear n0_ n1_ n2_ n3_; (try clear hb); (try clear hb2); (try clear hk); (try clear hi)))
                    go_ret
                    exact ⟨q_10, q_1⟩
                  · replace c12 := Bool.eq_false_iff.mpr c12
                    subst c12
                    have H1 : (some false) = some r := by rw [if_neg (show ¬ (false = true) by decide)] at H; exact H
                    clear H
                    have H := H1
                    clear H1
                    exact absurd ((Option.some.inj H).trans hr_) (by decide)
                · rw [if_neg c10] at H
                  exact absurd ((Option.some.inj H).trans hr_) (by decide)
              · rw [if_neg c9] at H
                exact absurd H (by simp)
            · rw [if_neg c8] at H
              exact absurd ((Option.some.inj H).trans hr_) (by decide)
          · rw [if_neg c7] at H
            exact absurd H (by simp)
        · rw [if_neg c6] at H
          exact absurd ((Option.some.inj H).trans hr_) (by decide)
      · rw [if_neg c5] at H
        exact absurd H (by simp)
    · rw [if_neg c4] at H
      exact absurd ((Option.some.inj H).trans hr_) (by decide)
  · replace c3 := Bool.eq_false_iff.mpr c3
    subst c3
    have H1 : (some false) = some r := by rw [if_neg (show ¬ (false = true) by decide)] at H; exact H
    clear H
    have H := H1
    clear H1
    exact absurd ((Option.some.inj H).trans hr_) (by decide)

end Go.Proofs.YtkhiiilfokijgaaDoor.PAll
