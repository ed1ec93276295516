/- Written by a program of this session: functions of the Go program as Lean functions, and the walks that tie them to it. -/
import Derived.Test.YtbndilnbfclmbaaPAllx0
import Derived.Test.YtbndilnbfclmbaaPAllx1
import Derived.Test.YtbndilnbfclmbaaPAllx3
import Derived.Test.YtbndilnbfclmbaaPAllx4
import Derived.Test.YtbndilnbfclmbaaPAllx6
import Derived.Test.YtbndilnbfclmbaaPAllx7
namespace Go.Proofs.Ytbndilnbfclmbaa.PAll
open Go.RowKit Go.Proofs.YtbndilnbfclmbaaW.PrintWords Go.Proofs.YtbndilnbfclmbaaW.PrintLast Go.Proofs.YtbndilnbfclmbaaW.PrintMore
attribute [local go_sem] max2_int min2_int max_two min_two max_three min_three max_four min_four   -- for this text's walks alone
set_option linter.unusedVariables false
set_option linter.unusedSimpArgs false

attribute [local go_sem high] eqA28 eqA42
/-! ### octet_Big: function 72 -/
def octet_Big.l0 : Nat → Int → List Int → Int → Option (ByteArray)
  | 0, _, _, _ => none
  | k + 1, x0, x5, x6 => if x6 ≥ 0 then (if 0 ≤ (wrap64 (8 * x6)) then (if x5.length < 140737488355328 then (octet_Big.l0 k x0 (x5 ++ [(shr .u64 x0 (wrap64 (8 * x6))) % 256]) (wrap64 (x6 - 1))) else (none)) else (none)) else (some (strOfNums x5))
def octet_Big.f (k : Nat) (a0 : Int) (a1 : Int) : Option (ByteArray) := octet_Big.l0 k a0 ([] : List Int) ((mn (mx a1 0) 8) - 1)
theorem octet_Big.mono_l : ∀ k, (∀ y0 y1 y2, LeO (octet_Big.l0 k y0 y1 y2) (octet_Big.l0 (k + 1) y0 y1 y2))
  | 0 => fun _ _ _ r h => by simp [octet_Big.l0] at h
  | k + 1 => by
    have ih0 := octet_Big.mono_l k
    · intro y0 y1 y2
      unfold octet_Big.l0
      repeat' first
      | (with_reducible exact ih0 _ _ _)
      | (with_reducible exact LeO.refl _)
      | (with_reducible exact LeO.none _)
      | (with_reducible refine LeO.ite ?_ ?_)
      | (with_reducible refine LeO.bind ?_ (fun _ => ?_))
      | exact ih0 _ _ _
      | exact LeO.none _
      | refine LeO.ite ?_ ?_
      | refine LeO.bind ?_ (fun _ => ?_)
theorem octet_Big.mono : ∀ a0 a1 k, LeO (octet_Big.f k a0 a1) (octet_Big.f (k + 1) a0 a1) := by
  intro a0 a1 k
  have ih0 := octet_Big.mono_l k
  unfold octet_Big.f
  repeat' first
      | (with_reducible exact ih0 _ _ _)
      | (with_reducible exact LeO.refl _)
      | (with_reducible exact LeO.none _)
      | (with_reducible refine LeO.ite ?_ ?_)
      | (with_reducible refine LeO.bind ?_ (fun _ => ?_))
      | exact ih0 _ _ _
      | exact LeO.none _
      | refine LeO.ite ?_ ?_
      | refine LeO.bind ?_ (fun _ => ?_)
set_option maxHeartbeats 8000000 in
set_option maxRecDepth 100000 in
theorem octet_Big.calls (k : Nat) (a0 : Int) (a1 : Int) (r : ByteArray) (w : World) (h : octet_Big.f k a0 a1 = some r) :
    Calls Try.prog 72 #[.int .u64 a0, .int .i64 a1] w fun e w' => e = .returned (.string r) ∧ Below w.heap.size w w' := by
  have HB := Aside0.mk (Below.refl w.heap.size w)
  have H : (octet_Big.l0 k a0 ([] : List Int) ((mn (mx a1 0) 8) - 1)) = some r := h
  clear h
  obtain ⟨ji3, hji3⟩ : ∃ j_ : Int, (mx a1 0) = j_ := ⟨_, rfl⟩
  replace H : (octet_Big.l0 k a0 ([] : List Int) ((mn (ji3) 8) - 1)) = some r := by first | (rw [hji3] at H; exact H) | (simp only [hji3] at H ⊢; exact H)
  (try (have hji3l : 0 ≤ ji3 := by (rw [← hji3]; unfold mx; (repeat' split) <;> omega)))
  (try (have hji3m : 0 ≤ ji3 := by omega))
  have hji3_ : (if a1 < 0 then 0 else a1) = ji3 := hji3
  obtain ⟨ji4, hji4⟩ : ∃ j_ : Int, (mn (ji3) 8) = j_ := ⟨_, rfl⟩
  replace H : (octet_Big.l0 k a0 ([] : List Int) ((ji4) - 1)) = some r := by first | (rw [hji4] at H; exact H) | (simp only [hji4] at H ⊢; exact H)
  have hji4_ : (if 8 < (ji3) then 8 else (ji3)) = ji4 := hji4
  have H' := Aside0.mk H
  clear H
  go_enter Try.func72, Try.ntmps72
  go_wp2
  go_loopg [5, 6] k (fun kq v5 v6 w' => ∃ (x5_1 : List Int) (x6_1 : Int), v6 = .int .i64 x6_1 ∧ Aside0 (octet_Big.l0 kq a0 x5_1 x6_1 = some r) ∧ Aside0 (kq ≤ k) ∧ Aside0 (Kd.R (Kd.int .u8) 5 w' w.heap.size (fun _ => True) v5 x5_1) ∧ Aside0 (Below w.heap.size w w'))
  case atStart => exact ⟨(([] : List Int)), ((ji4) - 1), (by first | rfl | (simp; done) | (simp only [← hji4] <;> (first | rfl | simp)) | (simp [*]; done)), H', ⟨Nat.le_refl _⟩, ⟨by first | exact Kd.R_nil _ _ _ _ _ | exact Kd.N_nil _ _ _ _ _ | exact Kd.V_nil _ _ _ _ _ | exact Kd.Q_nil _ _ _ _ _ | exact Kd.S_nil _ _ _ _ _⟩, ⟨by repeat (first | (with_reducible first | exact HB.out | apply below_alloc | apply pw_below_drewN | apply below_drew1) | exact HB.out)⟩⟩
  case round =>
    clear H'
    try clear p2
    obtain ⟨x5_1, x6_1, rfl, HA, HK1, HO_5, HB⟩ := hrel
    cases gk with
    | zero => exact absurd HA.out (by simp [octet_Big.l0])
    | succ k1 =>
      have H := HA.out
      clear HA
      simp only [octet_Big.l0] at H
      by_cases c5 : x6_1 ≥ 0
      · rw [if_pos c5] at H
        have c5b0 : decide (0 ≤ x6_1) = true := decide_eq_true c5
        clear c5
        obtain ⟨ji6, hji6⟩ : ∃ j_ : Int, (wrap64 (8 * x6_1)) = j_ := ⟨_, rfl⟩
        replace H : (if 0 ≤ (ji6) then (if x5_1.length < 140737488355328 then (octet_Big.l0 k1 a0 (x5_1 ++ [(shr .u64 a0 (ji6)) % 256]) (wrap64 (x6_1 - 1))) else (none)) else (none)) = some r := by first | (rw [hji6] at H; exact H) | (simp only [hji6] at H ⊢; exact H)
        have hji6w : (IntKind.i64.wrap (8 * x6_1)) = ji6 := (i64_w _).trans hji6
        by_cases c7 : 0 ≤ (ji6)
        · rw [if_pos c7] at H
          have c7b0 := eq_true c7
          have c7b1 : decide (0 ≤ (ji6)) = true := decide_eq_true c7
          clear c7
          obtain ⟨ji8, hji8⟩ : ∃ j_ : Int, (shr .u64 a0 (ji6)) = j_ := ⟨_, rfl⟩
          replace H : (if x5_1.length < 140737488355328 then (octet_Big.l0 k1 a0 (x5_1 ++ [(ji8) % 256]) (wrap64 (x6_1 - 1))) else (none)) = some r := by first | (rw [hji8] at H; exact H) | (simp only [hji8] at H ⊢; exact H)
          have hji8_ : (a0 / 2 ^ min (ji6).toNat 64) = ji8 := hji8
          have hji8z : (ji6) ≤ 64 → (a0 / 2 ^ (ji6).toNat) = ji8 := shr_small hji8
          by_cases c9 : x5_1.length < 140737488355328
          · rw [if_pos c9] at H
            have LMc9 := Aside0.mk c9
            clear c9
            obtain ⟨y132, hy132⟩ : ∃ y_ : List Int, y_ = (x5_1 ++ [(ji8) % 256]) := ⟨_, rfl⟩
            replace H : (octet_Big.l0 k1 a0 y132 (wrap64 (x6_1 - 1))) = some r := by first | (rw [hy132]; with_reducible exact H) | (have H2_ := (Option.bind_some _ _).symm.trans H; rw [hy132]; with_reducible exact H2_) | (have H2_ := (Option.bind_some _ _).symm.trans H; with_reducible exact H2_) | with_reducible exact H | (rw [hy132]; exact H) | exact H
            have Ny132 := Aside0.mk hy132
            clear hy132
            have H' := Aside0.mk H
            clear H
            go_wp2_with (first | ((with_reducible refine gate_builtin (b := .append) (xs := #[.tmp 15, .tmp 21]) rfl ?_); at_builtin; refine Kd.R_append (Kd.int .u8) (w0 := w) w.heap.size rfl (.tmp 15) (.tmp 21) 85 5 (.int .u8 0) 1 rfl Try.underlying85 info5 rfl (by decide) (by omega) u5 x5_1 ((ji8) % 256) [.int .u8 ((ji8) % 256)] (fun _ => True) (fun _ => False) rfl rfl ?aP (fun _ hk => hk.elim) ?aF ?aO ?aB ?aS ?aL ?_; (case aP => exact rfl); (case aB => exact (by repeat (first | (with_reducible first | exact HB.out | apply below_alloc | apply pw_below_drewN | apply below_drew1) | exact HB.out))); (case aF => exact (fun _ _ => trivial)); (case aO => exact (by (with_reducible repeat (first | apply Kd.R_alloc | apply Kd.R_drewN | apply Kd.R_drew)); exact HO_5.out)); (case aS => exact (below_size (by repeat (first | (with_reducible first | exact HB.out | apply below_alloc | apply pw_below_drewN | apply below_drew1) | exact HB.out)))); (case aL => have := LMc9.out; omega); intro v133 w10 ho hb hg hat; rw [← Ny132.out] at ho; have n0_ := Aside0.mk (hb); have n1_ := Aside0.mk (ho); clear HB; clear HO_5; have HB := n0_; have HO134 := n1_; clear n0_ n1_; clear ho hb hg hat))
            go_roundg k1
            case measure => have := HK1.out; omega
            case rel => exact ⟨(y132), (wrap64 (x6_1 - 1)), (by first | rfl | (simp; done) | (simp [*]; done) | (simp [beq_nil_isEmpty, bne_nil_isEmpty]; done)), H', ⟨by have := HK1.out; omega⟩, ⟨by (with_reducible repeat (first | apply Kd.R_alloc | apply Kd.R_drewN | apply Kd.R_drew)); exact HO134.out⟩, ⟨by repeat (first | (with_reducible first | exact HB.out | apply below_alloc | apply pw_below_drewN | apply below_drew1) | exact HB.out)⟩⟩
          · rw [if_neg c9] at H
            exact absurd H (by simp)
        · rw [if_neg c7] at H
          exact absurd H (by simp)
      · rw [if_neg c5] at H
        have c5b0 : decide (0 ≤ x6_1) = false := decide_eq_false c5
        clear c5
        obtain rfl := Option.some.inj H
        have hcv11 := own_string (P := Try.prog) Try.underlying85 Try.underlying5 Try.underlying9 (Kd.own_of_R HO_5.out)
        go_wp2
        go_ret
        exact ⟨by first | rfl | (simp [errW_none, errW_some] <;> rfl) | (simp only [← hji3, ← hji4]; first | rfl | (simp [errW_none, errW_some] <;> rfl)) | (simp [*, errW_none, errW_some] <;> rfl), by repeat (first | (with_reducible first | exact HB.out | apply below_alloc | apply pw_below_drewN | apply below_drew1) | exact HB.out)⟩

/-! ### octet_In_Fault: function 73 -/
def octet_In_Fault.f (s0_0 : ByteArray) (s0_1 : Int) (s0_2 : Int) (s0_3 : Int) (s0_4 : Int) : Option (Int × Int × ByteArray × Int × Int × Int × Int) := some (s0_3, s0_4, s0_0, s0_1, s0_2, s0_3, s0_4)
set_option maxHeartbeats 8000000 in
set_option maxRecDepth 100000 in
theorem octet_In_Fault.calls (g : Nat) (s0_0 : ByteArray) (s0_1 : Int) (s0_2 : Int) (s0_3 : Int) (s0_4 : Int) (r1 : Int) (r2 : Int) (r3 : ByteArray) (r4 : Int) (r5 : Int) (r6 : Int) (r7 : Int) (w0 w : World) (hI : IsS96 w0 w g s0_0 s0_1 s0_2 s0_3 s0_4) (hB : Below w0.heap.size w0 w) (h : octet_In_Fault.f s0_0 s0_1 s0_2 s0_3 s0_4 = some (r1, r2, r3, r4, r5, r6, r7)) :
    Calls Try.prog 73 #[.pointer (some ⟨g, 0, none⟩)] w fun e w' => e = .returned (.agg #[.int .i64 r1, .int .i64 r2]) ∧ IsS96 w0 w' g r3 r4 r5 r6 r7 ∧ Below w0.heap.size w0 w' ∧ KeepBut w w' g none := by
  have hu42 := Try.underlying42
  have HI0 := Aside0.mk hI
  have HK := Aside0.mk (KeepBut.refl w g none)
  have HL := Aside0.mk hB.size
  clear hI
  have HW0 := Aside0.mk hB.size
  have HB := Aside0.mk hB
  clear hB
  have H : (some (s0_3, s0_4, s0_0, s0_1, s0_2, s0_3, s0_4)) = some (r1, r2, r3, r4, r5, r6, r7) := h
  clear h
  simp only [Option.some.injEq, Prod.mk.injEq] at H
  obtain ⟨rfl, rfl, rfl, rfl, rfl, rfl, rfl⟩ := H
  go_enter Try.func73, Try.ntmps73
  go_wp2_with (first | ((with_reducible refine gate_dst (N := 2) rfl ?_); refine box_event ?hg (N := 2) ?hd (cs := #[.int .i64 0, .int .i64 0]) (t := 42) ?hr ?_; (case hd => rfl); (case hg => rfl); (case hr => first | (go_simp; done) | (go_simp; rfl)); intro gb135 hg w2 hbox hb; have n0_ := Aside0.mk (IsS96.below (by repeat (first | (with_reducible first | exact HI0.out | apply IsS96.alloc | apply IsS96.drewN | apply IsS96.drew | apply IsS96.set_0 | apply IsS96.set_1 | apply IsS96.set_2 | apply IsS96.set_3 | apply IsS96.set_4) | exact HI0.out)) hb); have n1_ := Aside0.mk (KeepBut.trans (by repeat (first | (with_reducible first | exact HK.out | apply KeepBut.set_ | apply keep_drewN | apply keep_drew | apply keep_alloc) | exact HK.out)) (KeepBut.of_below hb g none) (.inl rfl)); have n2_ := Aside0.mk (below_step (by repeat (first | (with_reducible first | exact HB.out | apply below_alloc | apply pw_below_drewN | apply below_drew1 | refine below_set ?_ (IsS96.ge HI0.out)) | exact HB.out)) hb); have n3_ := Aside0.mk (hbox); have n4_ := Aside0.mk ((by rw [hg]; exact (keep_size (w := w) (g := g) (row := none) (by repeat (first | (with_reducible first | exact HK.out | apply KeepBut.set_ | apply keep_drewN | apply keep_drew | apply keep_alloc) | exact HK.out))) : w.heap.size ≤ gb135)); have n5_ := Aside0.mk ((Nat.le_trans HW0.out (by rw [hg]; exact (keep_size (w := w) (g := g) (row := none) (by repeat (first | (with_reducible first | exact HK.out | apply KeepBut.set_ | apply keep_drewN | apply keep_drew | apply keep_alloc) | exact HK.out))) : w.heap.size ≤ gb135) : w0.heap.size ≤ gb135)); have n6_ := Aside0.mk ((by rw [hg]; exact Nat.ne_of_lt (IsS96.lt (show IsS96 w0 _ g s0_0 s0_1 s0_2 s0_3 s0_4 from by repeat (first | (with_reducible first | exact HI0.out | apply IsS96.alloc | apply IsS96.drewN | apply IsS96.drew | apply IsS96.set_0 | apply IsS96.set_1 | apply IsS96.set_2 | apply IsS96.set_3 | apply IsS96.set_4) | exact HI0.out))) : g ≠ gb135)); have n7_ := Aside0.mk ((by rw [hg]; exact Nat.ne_of_gt (IsS96.lt (show IsS96 w0 _ g s0_0 s0_1 s0_2 s0_3 s0_4 from by repeat (first | (with_reducible first | exact HI0.out | apply IsS96.alloc | apply IsS96.drewN | apply IsS96.drew | apply IsS96.set_0 | apply IsS96.set_1 | apply IsS96.set_2 | apply IsS96.set_3 | apply IsS96.set_4) | exact HI0.out))) : gb135 ≠ g)); clear HI0; clear HK; clear HB; have HI0 := n0_; have HK := n1_; have HB := n2_; have BK135 := n3_; have GW135 := n4_; have GE135 := n5_; have NB0_135 := n6_; have NB135_0 := n7_; clear n0_ n1_ n2_ n3_ n4_ n5_ n6_ n7_; clear hb hbox hg; obtain ⟨HGz3, hgz3⟩ := HI0.out; have hcz3_0 := cellS96_0 HGz3; have hcz3_1 := cellS96_1 HGz3; have hcz3_2 := cellS96_2 HGz3; have hcz3_3 := cellS96_3 HGz3; have hcz3_4 := cellS96_4 HGz3; have hfz3_0 := blk_frozen HGz3 0; have hfz3_1 := blk_frozen HGz3 1; have hfz3_2 := blk_frozen HGz3 2; have hfz3_3 := blk_frozen HGz3 3; have hfz3_4 := blk_frozen HGz3 4; clear HGz3 hgz3; have hnb4 := NB135_0.out; have hnc4 := NB0_135.out; have hcz5_0 : w2.cell? ⟨gb135, 0, none⟩ = some (.int .i64 0) := (blk_cell BK135.out 0).trans rfl; have hcz5_1 : w2.cell? ⟨gb135, 1, none⟩ = some (.int .i64 0) := (blk_cell BK135.out 1).trans rfl; have hfz5_0 := blk_frozen BK135.out 0; have hfz5_1 := blk_frozen BK135.out 1))
  refine bodyPost_ret (results_cell_row rfl _ _ gb135 42 #[.int .i64 s0_3, .int .i64 s0_4] (0, 0) _ rfl (by (with_reducible repeat (first | refine blk_drewN ?_ _ | refine blk_drew ?_ | refine blk_alloc ?_ _)); refine blk_put (cs := #[.int .i64 s0_3, .int .i64 0]) ?_ 1 _ rfl; (with_reducible repeat (first | refine blk_drewN ?_ _ | refine blk_drew ?_ | refine blk_alloc ?_ _)); refine blk_put (cs := #[.int .i64 0, .int .i64 0]) ?_ 0 _ rfl; (with_reducible repeat (first | refine blk_drewN ?_ _ | refine blk_drew ?_ | refine blk_alloc ?_ _)); exact BK135.out) Try.underlying42 rfl (by kernel_rfl)) rfl ?_
  exact ⟨by first | rfl | (simp [errW_none, errW_some] <;> rfl) | (simp [*, errW_none, errW_some] <;> rfl), by repeat (first | (with_reducible first | exact HI0.out | apply IsS96.alloc | apply IsS96.drewN | apply IsS96.drew | apply IsS96.set_0 | apply IsS96.set_1 | apply IsS96.set_2 | apply IsS96.set_3 | apply IsS96.set_4 | refine IsS96.far ?_ NB0_135.out _ | apply IsS96.far (hne := NB0_135.out)) | exact HI0.out), by repeat (first | (with_reducible first | exact HB.out | apply below_alloc | apply pw_below_drewN | apply below_drew1 | refine below_set ?_ (IsS96.ge HI0.out) | refine below_set ?_ GE135.out) | exact HB.out), by repeat (first | (with_reducible first | exact HK.out | apply KeepBut.set_ | apply keep_drewN | apply keep_drew | apply keep_alloc | refine keep_far ?_ GW135.out _) | exact HK.out)⟩

/-! ### diacriticlaw01_Awake: function 61 -/
def diacriticlaw01_Awake.f (k : Nat)  : Option (Bool) := (octet_Safe.f 129).bind fun bt136 => ((octet_Inner.f (⟨#[97, 98]⟩ : ByteArray) 10).bind fun bt138 => ((octet_In_Take.f bt138.1 bt138.2.1 bt138.2.2.1 bt138.2.2.2.1 bt138.2.2.2.2 3).bind fun bt144 => (if bt136.2 = true then (if bt136.1.toList = ([0, 0, 1, 1] : List UInt8) then ((octet_Big.f k 258 2).bind fun t150 => (if t150.toList = ([1, 2] : List UInt8) then (if bt144.1.toList = ([] : List UInt8) then ((octet_In_Fault.f bt144.2.1 bt144.2.2.1 bt144.2.2.2.1 bt144.2.2.2.2.1 bt144.2.2.2.2.2).bind fun bt151 => (some (bt151.1 == 1 && (bt151.2.1 == 12)))) else (some false)) else (some false))) else (some false)) else (some false))))
theorem diacriticlaw01_Awake.mono : ∀ k, LeO (diacriticlaw01_Awake.f k ) (diacriticlaw01_Awake.f (k + 1) ) := by
  intro  k
  unfold diacriticlaw01_Awake.f
  repeat' first
      | (with_reducible exact octet_Big.mono _ _ _)
      | (with_reducible exact LeO.refl _)
      | (with_reducible exact LeO.none _)
      | (with_reducible refine LeO.ite ?_ ?_)
      | (with_reducible refine LeO.bind ?_ (fun _ => ?_))
      | exact octet_Big.mono _ _ _
      | exact LeO.none _
      | refine LeO.ite ?_ ?_
      | refine LeO.bind ?_ (fun _ => ?_)
set_option maxHeartbeats 8000000 in
set_option maxRecDepth 100000 in
theorem diacriticlaw01_Awake.calls (k : Nat)  (r : Bool) (w : World) (h : diacriticlaw01_Awake.f k  = some r) :
    Calls Try.prog 61 #[] w fun e w' => e = .returned (.bool r) ∧ Below w.heap.size w w' := by
  have hr_ : r = true := by
    have a_ := at_rounds diacriticlaw01_Awake.mono (Nat.le_max_left k 100) h
    have b_ := at_rounds diacriticlaw01_Awake.mono (Nat.le_max_right k 100) (show diacriticlaw01_Awake.f 100 = some true by kernel_rfl)
    exact Option.some.inj (a_.symm.trans b_)
  have hu42 := Try.underlying42
  have HB := Aside0.mk (Below.refl w.heap.size w)
  have H : ((octet_Safe.f 129).bind fun bt136 => ((octet_Inner.f (⟨#[97, 98]⟩ : ByteArray) 10).bind fun bt138 => ((octet_In_Take.f bt138.1 bt138.2.1 bt138.2.2.1 bt138.2.2.2.1 bt138.2.2.2.2 3).bind fun bt144 => (if bt136.2 = true then (if bt136.1.toList = ([0, 0, 1, 1] : List UInt8) then ((octet_Big.f k 258 2).bind fun t150 => (if t150.toList = ([1, 2] : List UInt8) then (if bt144.1.toList = ([] : List UInt8) then ((octet_In_Fault.f bt144.2.1 bt144.2.2.1 bt144.2.2.2.1 bt144.2.2.2.2.1 bt144.2.2.2.2.2).bind fun bt151 => (some (bt151.1 == 1 && (bt151.2.1 == 12)))) else (some false)) else (some false))) else (some false)) else (some false))))) = some r := h
  clear h
  replace H := Option.bind_eq_some_iff.mp H
  obtain ⟨⟨t136, t137⟩, A10, H⟩ := H
  replace H : ((octet_Inner.f (⟨#[97, 98]⟩ : ByteArray) 10).bind fun bt138 => ((octet_In_Take.f bt138.1 bt138.2.1 bt138.2.2.1 bt138.2.2.2.1 bt138.2.2.2.2 3).bind fun bt144 => (if t137 = true then (if t136.toList = ([0, 0, 1, 1] : List UInt8) then ((octet_Big.f k 258 2).bind fun t150 => (if t150.toList = ([1, 2] : List UInt8) then (if bt144.1.toList = ([] : List UInt8) then ((octet_In_Fault.f bt144.2.1 bt144.2.2.1 bt144.2.2.2.1 bt144.2.2.2.2.1 bt144.2.2.2.2.2).bind fun bt151 => (some (bt151.1 == 1 && (bt151.2.1 == 12)))) else (some false)) else (some false))) else (some false)) else (some false)))) = some r := H
  have A1 := Aside0.mk A10
  clear A10
  replace H := Option.bind_eq_some_iff.mp H
  obtain ⟨⟨t138, t139, t140, t141, t142⟩, A20, H⟩ := H
  replace H : ((octet_In_Take.f t138 t139 t140 t141 t142 3).bind fun bt144 => (if t137 = true then (if t136.toList = ([0, 0, 1, 1] : List UInt8) then ((octet_Big.f k 258 2).bind fun t150 => (if t150.toList = ([1, 2] : List UInt8) then (if bt144.1.toList = ([] : List UInt8) then ((octet_In_Fault.f bt144.2.1 bt144.2.2.1 bt144.2.2.2.1 bt144.2.2.2.2.1 bt144.2.2.2.2.2).bind fun bt151 => (some (bt151.1 == 1 && (bt151.2.1 == 12)))) else (some false)) else (some false))) else (some false)) else (some false))) = some r := H
  have A2 := Aside0.mk A20
  clear A20
  replace H := Option.bind_eq_some_iff.mp H
  obtain ⟨⟨t144, t145, t146, t147, t148, t149⟩, A30, H⟩ := H
  replace H : (if t137 = true then (if t136.toList = ([0, 0, 1, 1] : List UInt8) then ((octet_Big.f k 258 2).bind fun t150 => (if t150.toList = ([1, 2] : List UInt8) then (if t144.toList = ([] : List UInt8) then ((octet_In_Fault.f t145 t146 t147 t148 t149).bind fun bt151 => (some (bt151.1 == 1 && (bt151.2.1 == 12)))) else (some false)) else (some false))) else (some false)) else (some false)) = some r := H
  have A3 := Aside0.mk A30
  clear A30
  by_cases c4 : t137 = true
  · subst c4
    have H1 : (if t136.toList = ([0, 0, 1, 1] : List UInt8) then ((octet_Big.f k 258 2).bind fun t150 => (if t150.toList = ([1, 2] : List UInt8) then (if t144.toList = ([] : List UInt8) then ((octet_In_Fault.f t145 t146 t147 t148 t149).bind fun bt151 => (some (bt151.1 == 1 && (bt151.2.1 == 12)))) else (some false)) else (some false))) else (some false)) = some r := by rw [if_pos rfl] at H; exact H
    clear H
    have H := H1
    clear H1
    by_cases c5 : t136.toList = ([0, 0, 1, 1] : List UInt8)
    · rw [if_pos c5] at H
      have c5b0 : (t136.toList == ([0, 0, 1, 1] : List UInt8)) = true := beq_iff_eq.mpr c5
      have c5b1 : (t136.toList != ([0, 0, 1, 1] : List UInt8)) = false := bne_eq_false_iff_eq.mpr c5
      clear c5
      replace H := Option.bind_eq_some_iff.mp H
      obtain ⟨t150, A60, H⟩ := H
      replace H : (if t150.toList = ([1, 2] : List UInt8) then (if t144.toList = ([] : List UInt8) then ((octet_In_Fault.f t145 t146 t147 t148 t149).bind fun bt151 => (some (bt151.1 == 1 && (bt151.2.1 == 12)))) else (some false)) else (some false)) = some r := H
      have A6 := Aside0.mk A60
      clear A60
      by_cases c7 : t150.toList = ([1, 2] : List UInt8)
      · rw [if_pos c7] at H
        have c7b0 : (t150.toList == ([1, 2] : List UInt8)) = true := beq_iff_eq.mpr c7
        have c7b1 : (t150.toList != ([1, 2] : List UInt8)) = false := bne_eq_false_iff_eq.mpr c7
        clear c7
        by_cases c8 : t144.toList = ([] : List UInt8)
        · rw [if_pos c8] at H
          have c8b0 : (t144.toList == ([] : List UInt8)) = true := beq_iff_eq.mpr c8
          have c8b1 : (t144.toList != ([] : List UInt8)) = false := bne_eq_false_iff_eq.mpr c8
          clear c8
          replace H := Option.bind_eq_some_iff.mp H
          obtain ⟨⟨t151, t152, t153, t154, t155, t156, t157⟩, A90, H⟩ := H
          replace H : (some (t151 == 1 && (t152 == 12))) = some r := H
          have A9 := Aside0.mk A90
          clear A90
          obtain rfl := Option.some.inj H
          go_enter Try.func61, Try.ntmps61
          go_wp2_with (first | ((with_reducible refine gate_callee (f := 69) rfl ?_); refine goesL_ (some 6) rfl rfl Try.func69 (by kernel_rfl) rfl #[.int .u64 129] rfl (by (try simp only [List.map_toArray, List.map_cons, List.map_nil]); first | done | rfl | (simp only [List.length_drop, List.length_take]; rfl)) ?_; (with_reducible refine (octet_Safe.calls 129 t136 true _ A1.out).mono ?_); rintro e w10 ⟨rfl, hb⟩; refine ⟨_, rfl, ?_⟩; have n0_ := Aside0.mk (below_step (by repeat (first | (with_reducible first | exact HB.out | apply below_alloc | apply pw_below_drewN | apply below_drew1) | exact HB.out)) hb); clear HB; have HB := n0_; clear n0_; (try clear hb); (try clear hb2); (try clear hk); (try clear hi)) | ((with_reducible refine gate_callee (f := 70) rfl ?_); refine goesL_ (some 9) rfl rfl Try.func70 (by kernel_rfl) rfl #[.string (⟨#[97, 98]⟩ : ByteArray), .int .i64 10] rfl (by (try simp only [List.map_toArray, List.map_cons, List.map_nil]); first | done | rfl | (simp only [List.length_drop, List.length_take]; rfl)) ?_; (with_reducible refine (octet_Inner.calls (⟨#[97, 98]⟩ : ByteArray) 10 t138 t139 t140 t141 t142 w _ ?side1 A2.out).mono ?_); (case side1 => repeat (first | (with_reducible first | exact HB.out | apply below_alloc | apply pw_below_drewN | apply below_drew1) | exact HB.out)); rintro e w11 ⟨g143, rfl, hi, hb, hb2⟩; refine ⟨_, rfl, ?_⟩; have n0_ := Aside0.mk (hb); have n1_ := Aside0.mk (hi); clear HB; have HB := n0_; have HI143 := n1_; clear n0_ n1_; (try clear hb); (try clear hb2); (try clear hk); (try clear hi)) | ((with_reducible refine gate_callee (f := 71) rfl ?_); refine goesL_ (some 11) rfl rfl Try.func71 (by kernel_rfl) rfl #[.pointer (some ⟨g143, 0, none⟩), .int .i64 3] rfl (by (try simp only [List.map_toArray, List.map_cons, List.map_nil]); first | done | rfl | (simp only [List.length_drop, List.length_take]; rfl)) ?_; (with_reducible refine (octet_In_Take.calls g143 t138 t139 t140 t141 t142 3 t144 t145 t146 t147 t148 t149 w _ ?side1 ?side2 A3.out).mono ?_); (case side1 => repeat (first | (with_reducible first | exact HI143.out | apply IsS96.alloc | apply IsS96.drewN | apply IsS96.drew | apply IsS96.set_0 | apply IsS96.set_1 | apply IsS96.set_2 | apply IsS96.set_3 | apply IsS96.set_4) | exact HI143.out)); (case side2 => repeat (first | (with_reducible first | exact HB.out | apply below_alloc | apply pw_below_drewN | apply below_drew1 | refine below_set ?_ (IsS96.ge HI143.out)) | exact HB.out)); rintro e w12 ⟨rfl, hi, hb, hk⟩; refine ⟨_, rfl, ?_⟩; have n0_ := Aside0.mk (hb); have n1_ := Aside0.mk (hi); clear HB; clear HI143; have HB := n0_; have HI143 := n1_; clear n0_ n1_; (try clear hb); (try clear hb2); (try clear hk); (try clear hi)) | (go_at_call 72; (with_reducible refine (octet_Big.calls k 258 2 t150 _ A6.out).mono ?_); rintro e w13 ⟨rfl, hb⟩; have n0_ := Aside0.mk (IsS96.below (by repeat (first | (with_reducible first | exact HI143.out | apply IsS96.alloc | apply IsS96.drewN | apply IsS96.drew | apply IsS96.set_0 | apply IsS96.set_1 | apply IsS96.set_2 | apply IsS96.set_3 | apply IsS96.set_4) | exact HI143.out)) hb); have n1_ := Aside0.mk (below_step (by repeat (first | (with_reducible first | exact HB.out | apply below_alloc | apply pw_below_drewN | apply below_drew1 | refine below_set ?_ (IsS96.ge HI143.out)) | exact HB.out)) hb); clear HI143; clear HB; have HI143 := n0_; have HB := n1_; clear n0_ n1_; (try clear hb); (try clear hb2); (try clear hk); (try clear hi)) | (go_at_call 73; (with_reducible refine (octet_In_Fault.calls g143 t145 t146 t147 t148 t149 t151 t152 t153 t154 t155 t156 t157 w _ ?side1 ?side2 A9.out).mono ?_); (case side1 => repeat (first | (with_reducible first | exact HI143.out | apply IsS96.alloc | apply IsS96.drewN | apply IsS96.drew | apply IsS96.set_0 | apply IsS96.set_1 | apply IsS96.set_2 | apply IsS96.set_3 | apply IsS96.set_4) | exact HI143.out)); (case side2 => repeat (first | (with_reducible first | exact HB.out | apply below_alloc | apply pw_below_drewN | apply below_drew1 | refine below_set ?_ (IsS96.ge HI143.out)) | exact HB.out)); rintro e w14 ⟨rfl, hi, hb, hk⟩; have n0_ := Aside0.mk (hb); have n1_ := Aside0.mk (hi); clear HB; clear HI143; have HB := n0_; have HI143 := n1_; clear n0_ n1_; (try clear hb); (try clear hb2); (try clear hk); (try clear hi)))
          go_ret
          exact ⟨by first | rfl | (simp [errW_none, errW_some] <;> rfl) | (simp [*, errW_none, errW_some] <;> rfl), by repeat (first | (with_reducible first | exact HB.out | apply below_alloc | apply pw_below_drewN | apply below_drew1 | refine below_set ?_ (IsS96.ge HI143.out)) | exact HB.out)⟩
        · rw [if_neg c8] at H
          exact absurd ((Option.some.inj H).trans hr_) (by decide)
      · rw [if_neg c7] at H
        exact absurd ((Option.some.inj H).trans hr_) (by decide)
    · rw [if_neg c5] at H
      exact absurd ((Option.some.inj H).trans hr_) (by decide)
  · replace c4 := Bool.eq_false_iff.mpr c4
    subst c4
    have H1 : (some false) = some r := by rw [if_neg (show ¬ (false = true) by decide)] at H; exact H
    clear H
    have H := H1
    clear H1
    exact absurd ((Option.some.inj H).trans hr_) (by decide)

/-! ### diacriticlaw22_Awake: function 43 -/
def diacriticlaw22_Awake.f (k : Nat)  : Option (Bool) := (line_Lines.f k (⟨#[97, 13, 10, 10, 98]⟩ : ByteArray)).bind fun t158 => ((diacriticlaw01_Awake.f k).bind fun t161 => (if t161 = true then (if (t158.length : Int) = 3 then (if 0 < (t158.length : Int) then (if ((((rd_T28 t158 0).f0).toList) == ([97] : List UInt8) && ((((rd_T28 t158 0).f1).toList) == ([13, 10] : List UInt8) && (((rd_T28 t158 0).f2) == 0))) = true then (if 1 < (t158.length : Int) then (if ((((rd_T28 t158 1).f0).toList) == ([] : List UInt8) && ((((rd_T28 t158 1).f1).toList) == ([10] : List UInt8) && (((rd_T28 t158 1).f2) == 3))) = true then (if 2 < (t158.length : Int) then (if ((((rd_T28 t158 2).f0).toList) == ([98] : List UInt8) && ((((rd_T28 t158 2).f1).toList) == ([] : List UInt8) && (((rd_T28 t158 2).f2) == 4))) = true then ((line_Like.f k (⟨#[49, 58, 50, 51]⟩ : ByteArray) (⟨#[48, 58, 48, 48]⟩ : ByteArray)).bind fun t165 => (if t165 = true then ((line_Mark.f (([(⟨#[97]⟩ : ByteArray), (⟨#[98]⟩ : ByteArray)] : List ByteArray))).bind fun bt169 => ((line_Text.f (⟨#[120]⟩ : ByteArray) (⟨#[99]⟩ : ByteArray)).bind fun bt172 => ((line_Whole.f k (([(⟨bt169.1, bt169.2.1, bt169.2.2⟩ : S34), (⟨bt172.1, bt172.2.1, bt172.2.2⟩ : S34)] : List (S34)))).bind fun t178 => (some (t178.toList == ([97, 98, 99] : List UInt8)))))) else (some false))) else (some false)) else (none)) else (some false)) else (none)) else (some false)) else (none)) else (some false)) else (some false)))
theorem diacriticlaw22_Awake.mono : ∀ k, LeO (diacriticlaw22_Awake.f k ) (diacriticlaw22_Awake.f (k + 1) ) := by
  intro  k
  unfold diacriticlaw22_Awake.f
  repeat' first
      | (with_reducible exact diacriticlaw01_Awake.mono _)
      | (with_reducible exact line_Like.mono _ _ _)
      | (with_reducible exact line_Lines.mono _ _)
      | (with_reducible exact line_Whole.mono _ _)
      | (with_reducible exact LeO.refl _)
      | (with_reducible exact LeO.none _)
      | (with_reducible refine LeO.ite ?_ ?_)
      | (with_reducible refine LeO.bind ?_ (fun _ => ?_))
      | exact diacriticlaw01_Awake.mono _
      | exact line_Like.mono _ _ _
      | exact line_Lines.mono _ _
      | exact line_Whole.mono _ _
      | exact LeO.none _
      | refine LeO.ite ?_ ?_
      | refine LeO.bind ?_ (fun _ => ?_)
set_option maxHeartbeats 8000000 in
set_option maxRecDepth 100000 in
theorem diacriticlaw22_Awake.calls (k : Nat)  (r : Bool) (w : World) (h : diacriticlaw22_Awake.f k  = some r) :
    Calls Try.prog 43 #[] w fun e w' => e = .returned (.bool r) ∧ Below w.heap.size w w' := by
  have hr_ : r = true := by
    have a_ := at_rounds diacriticlaw22_Awake.mono (Nat.le_max_left k 100) h
    have b_ := at_rounds diacriticlaw22_Awake.mono (Nat.le_max_right k 100) (show diacriticlaw22_Awake.f 100 = some true by kernel_rfl)
    exact Option.some.inj (a_.symm.trans b_)
  have hu28 := Try.underlying28
  have HB := Aside0.mk (Below.refl w.heap.size w)
  have H : ((line_Lines.f k (⟨#[97, 13, 10, 10, 98]⟩ : ByteArray)).bind fun t158 => ((diacriticlaw01_Awake.f k).bind fun t161 => (if t161 = true then (if (t158.length : Int) = 3 then (if 0 < (t158.length : Int) then (if ((((rd_T28 t158 0).f0).toList) == ([97] : List UInt8) && ((((rd_T28 t158 0).f1).toList) == ([13, 10] : List UInt8) && (((rd_T28 t158 0).f2) == 0))) = true then (if 1 < (t158.length : Int) then (if ((((rd_T28 t158 1).f0).toList) == ([] : List UInt8) && ((((rd_T28 t158 1).f1).toList) == ([10] : List UInt8) && (((rd_T28 t158 1).f2) == 3))) = true then (if 2 < (t158.length : Int) then (if ((((rd_T28 t158 2).f0).toList) == ([98] : List UInt8) && ((((rd_T28 t158 2).f1).toList) == ([] : List UInt8) && (((rd_T28 t158 2).f2) == 4))) = true then ((line_Like.f k (⟨#[49, 58, 50, 51]⟩ : ByteArray) (⟨#[48, 58, 48, 48]⟩ : ByteArray)).bind fun t165 => (if t165 = true then ((line_Mark.f (([(⟨#[97]⟩ : ByteArray), (⟨#[98]⟩ : ByteArray)] : List ByteArray))).bind fun bt169 => ((line_Text.f (⟨#[120]⟩ : ByteArray) (⟨#[99]⟩ : ByteArray)).bind fun bt172 => ((line_Whole.f k (([(⟨bt169.1, bt169.2.1, bt169.2.2⟩ : S34), (⟨bt172.1, bt172.2.1, bt172.2.2⟩ : S34)] : List (S34)))).bind fun t178 => (some (t178.toList == ([97, 98, 99] : List UInt8)))))) else (some false))) else (some false)) else (none)) else (some false)) else (none)) else (some false)) else (none)) else (some false)) else (some false)))) = some r := h
  clear h
  replace H := Option.bind_eq_some_iff.mp H
  obtain ⟨t158, A10, H⟩ := H
  replace H : ((diacriticlaw01_Awake.f k).bind fun t161 => (if t161 = true then (if (t158.length : Int) = 3 then (if 0 < (t158.length : Int) then (if ((((rd_T28 t158 0).f0).toList) == ([97] : List UInt8) && ((((rd_T28 t158 0).f1).toList) == ([13, 10] : List UInt8) && (((rd_T28 t158 0).f2) == 0))) = true then (if 1 < (t158.length : Int) then (if ((((rd_T28 t158 1).f0).toList) == ([] : List UInt8) && ((((rd_T28 t158 1).f1).toList) == ([10] : List UInt8) && (((rd_T28 t158 1).f2) == 3))) = true then (if 2 < (t158.length : Int) then (if ((((rd_T28 t158 2).f0).toList) == ([98] : List UInt8) && ((((rd_T28 t158 2).f1).toList) == ([] : List UInt8) && (((rd_T28 t158 2).f2) == 4))) = true then ((line_Like.f k (⟨#[49, 58, 50, 51]⟩ : ByteArray) (⟨#[48, 58, 48, 48]⟩ : ByteArray)).bind fun t165 => (if t165 = true then ((line_Mark.f (([(⟨#[97]⟩ : ByteArray), (⟨#[98]⟩ : ByteArray)] : List ByteArray))).bind fun bt169 => ((line_Text.f (⟨#[120]⟩ : ByteArray) (⟨#[99]⟩ : ByteArray)).bind fun bt172 => ((line_Whole.f k (([(⟨bt169.1, bt169.2.1, bt169.2.2⟩ : S34), (⟨bt172.1, bt172.2.1, bt172.2.2⟩ : S34)] : List (S34)))).bind fun t178 => (some (t178.toList == ([97, 98, 99] : List UInt8)))))) else (some false))) else (some false)) else (none)) else (some false)) else (none)) else (some false)) else (none)) else (some false)) else (some false))) = some r := H
  have A1 := Aside0.mk A10
  clear A10
  replace H := Option.bind_eq_some_iff.mp H
  obtain ⟨t161, A20, H⟩ := H
  replace H : (if t161 = true then (if (t158.length : Int) = 3 then (if 0 < (t158.length : Int) then (if ((((rd_T28 t158 0).f0).toList) == ([97] : List UInt8) && ((((rd_T28 t158 0).f1).toList) == ([13, 10] : List UInt8) && (((rd_T28 t158 0).f2) == 0))) = true then (if 1 < (t158.length : Int) then (if ((((rd_T28 t158 1).f0).toList) == ([] : List UInt8) && ((((rd_T28 t158 1).f1).toList) == ([10] : List UInt8) && (((rd_T28 t158 1).f2) == 3))) = true then (if 2 < (t158.length : Int) then (if ((((rd_T28 t158 2).f0).toList) == ([98] : List UInt8) && ((((rd_T28 t158 2).f1).toList) == ([] : List UInt8) && (((rd_T28 t158 2).f2) == 4))) = true then ((line_Like.f k (⟨#[49, 58, 50, 51]⟩ : ByteArray) (⟨#[48, 58, 48, 48]⟩ : ByteArray)).bind fun t165 => (if t165 = true then ((line_Mark.f (([(⟨#[97]⟩ : ByteArray), (⟨#[98]⟩ : ByteArray)] : List ByteArray))).bind fun bt169 => ((line_Text.f (⟨#[120]⟩ : ByteArray) (⟨#[99]⟩ : ByteArray)).bind fun bt172 => ((line_Whole.f k (([(⟨bt169.1, bt169.2.1, bt169.2.2⟩ : S34), (⟨bt172.1, bt172.2.1, bt172.2.2⟩ : S34)] : List (S34)))).bind fun t178 => (some (t178.toList == ([97, 98, 99] : List UInt8)))))) else (some false))) else (some false)) else (none)) else (some false)) else (none)) else (some false)) else (none)) else (some false)) else (some false)) = some r := H
  have A2 := Aside0.mk A20
  clear A20
  by_cases c3 : t161 = true
  · subst c3
    have H1 : (if (t158.length : Int) = 3 then (if 0 < (t158.length : Int) then (if ((((rd_T28 t158 0).f0).toList) == ([97] : List UInt8) && ((((rd_T28 t158 0).f1).toList) == ([13, 10] : List UInt8) && (((rd_T28 t158 0).f2) == 0))) = true then (if 1 < (t158.length : Int) then (if ((((rd_T28 t158 1).f0).toList) == ([] : List UInt8) && ((((rd_T28 t158 1).f1).toList) == ([10] : List UInt8) && (((rd_T28 t158 1).f2) == 3))) = true then (if 2 < (t158.length : Int) then (if ((((rd_T28 t158 2).f0).toList) == ([98] : List UInt8) && ((((rd_T28 t158 2).f1).toList) == ([] : List UInt8) && (((rd_T28 t158 2).f2) == 4))) = true then ((line_Like.f k (⟨#[49, 58, 50, 51]⟩ : ByteArray) (⟨#[48, 58, 48, 48]⟩ : ByteArray)).bind fun t165 => (if t165 = true then ((line_Mark.f (([(⟨#[97]⟩ : ByteArray), (⟨#[98]⟩ : ByteArray)] : List ByteArray))).bind fun bt169 => ((line_Text.f (⟨#[120]⟩ : ByteArray) (⟨#[99]⟩ : ByteArray)).bind fun bt172 => ((line_Whole.f k (([(⟨bt169.1, bt169.2.1, bt169.2.2⟩ : S34), (⟨bt172.1, bt172.2.1, bt172.2.2⟩ : S34)] : List (S34)))).bind fun t178 => (some (t178.toList == ([97, 98, 99] : List UInt8)))))) else (some false))) else (some false)) else (none)) else (some false)) else (none)) else (some false)) else (none)) else (some false)) = some r := by rw [if_pos rfl] at H; exact H
    clear H
    have H := H1
    clear H1
    by_cases c4 : (t158.length : Int) = 3
    · rw [if_pos c4] at H
      have c4b0 : ((t158.length : Int) == 3) = true := beq_iff_eq.mpr c4
      have c4b1 : ((t158.length : Int) != 3) = false := bne_eq_false_iff_eq.mpr c4
      clear c4
      by_cases c5 : 0 < (t158.length : Int)
      · rw [if_pos c5] at H
        have c5b0 : decide (0 < (t158.length : Int)) = true := decide_eq_true c5
        have c5b1 : decide (0 < t158.length) = true := decide_eq_true (by omega)
        clear c5
        by_cases c6 : ((((rd_T28 t158 0).f0).toList) == ([97] : List UInt8) && ((((rd_T28 t158 0).f1).toList) == ([13, 10] : List UInt8) && (((rd_T28 t158 0).f2) == 0))) = true
        · rw [if_pos c6] at H
          have c6b0 : ((((rd_T28 t158 0).f0).toList) == ([97] : List UInt8) && ((((rd_T28 t158 0).f1).toList) == ([13, 10] : List UInt8) && (((rd_T28 t158 0).f2) == 0))) = true := c6
          (try (have c6b1 : decide ((((rd_T28 t158 0).f0).toList) = ([97] : List UInt8) && ((((rd_T28 t158 0).f1).toList) == ([13, 10] : List UInt8) && (((rd_T28 t158 0).f2) == 0))) = true := by simpa using c6))
          (try (have c6b2 : ((((rd_T28 t158 0).f0).toList) == ([97] : List UInt8) && ((((rd_T28 t158 0).f1).toList) == ([13, 10] : List UInt8) && (((rd_T28 t158 0).f2) == 0))) = true := by simpa using c6))
          clear c6
          by_cases c7 : 1 < (t158.length : Int)
          · rw [if_pos c7] at H
            have c7b0 : decide (1 < (t158.length : Int)) = true := decide_eq_true c7
            have c7b1 : decide (1 < t158.length) = true := decide_eq_true (by omega)
            clear c7
            by_cases c8 : ((((rd_T28 t158 1).f0).toList) == ([] : List UInt8) && ((((rd_T28 t158 1).f1).toList) == ([10] : List UInt8) && (((rd_T28 t158 1).f2) == 3))) = true
            · rw [if_pos c8] at H
              have c8b0 : ((((rd_T28 t158 1).f0).toList) == ([] : List UInt8) && ((((rd_T28 t158 1).f1).toList) == ([10] : List UInt8) && (((rd_T28 t158 1).f2) == 3))) = true := c8
              (try (have c8b0E := c8b0; simp only [beq_nil_isEmpty, bne_nil_isEmpty] at c8b0E))
              (try (have c8b1 : decide ((((rd_T28 t158 1).f0).toList) = ([] : List UInt8) && ((((rd_T28 t158 1).f1).toList) == ([10] : List UInt8) && (((rd_T28 t158 1).f2) == 3))) = true := by simpa using c8))
              (try (have c8b2 : ((((rd_T28 t158 1).f0).toList) == ([] : List UInt8) && ((((rd_T28 t158 1).f1).toList) == ([10] : List UInt8) && (((rd_T28 t158 1).f2) == 3))) = true := by simpa using c8))
              clear c8
              by_cases c9 : 2 < (t158.length : Int)
              · rw [if_pos c9] at H
                have c9b0 : decide (2 < (t158.length : Int)) = true := decide_eq_true c9
                have c9b1 : decide (2 < t158.length) = true := decide_eq_true (by omega)
                clear c9
                by_cases c10 : ((((rd_T28 t158 2).f0).toList) == ([98] : List UInt8) && ((((rd_T28 t158 2).f1).toList) == ([] : List UInt8) && (((rd_T28 t158 2).f2) == 4))) = true
                · rw [if_pos c10] at H
                  have c10b0 : ((((rd_T28 t158 2).f0).toList) == ([98] : List UInt8) && ((((rd_T28 t158 2).f1).toList) == ([] : List UInt8) && (((rd_T28 t158 2).f2) == 4))) = true := c10
                  (try (have c10b0E := c10b0; simp only [beq_nil_isEmpty, bne_nil_isEmpty] at c10b0E))
                  (try (have c10b1 : decide ((((rd_T28 t158 2).f0).toList) = ([98] : List UInt8) && ((((rd_T28 t158 2).f1).toList) == ([] : List UInt8) && (((rd_T28 t158 2).f2) == 4))) = true := by simpa using c10))
                  (try (have c10b2 : ((((rd_T28 t158 2).f0).toList) == ([98] : List UInt8) && ((((rd_T28 t158 2).f1).toList) == ([] : List UInt8) && (((rd_T28 t158 2).f2) == 4))) = true := by simpa using c10))
                  clear c10
                  replace H := Option.bind_eq_some_iff.mp H
                  obtain ⟨t165, A110, H⟩ := H
                  replace H : (if t165 = true then ((line_Mark.f (([(⟨#[97]⟩ : ByteArray), (⟨#[98]⟩ : ByteArray)] : List ByteArray))).bind fun bt169 => ((line_Text.f (⟨#[120]⟩ : ByteArray) (⟨#[99]⟩ : ByteArray)).bind fun bt172 => ((line_Whole.f k (([(⟨bt169.1, bt169.2.1, bt169.2.2⟩ : S34), (⟨bt172.1, bt172.2.1, bt172.2.2⟩ : S34)] : List (S34)))).bind fun t178 => (some (t178.toList == ([97, 98, 99] : List UInt8)))))) else (some false)) = some r := H
                  have A11 := Aside0.mk A110
                  clear A110
                  by_cases c12 : t165 = true
                  · subst c12
                    have H1 : ((line_Mark.f (([(⟨#[97]⟩ : ByteArray), (⟨#[98]⟩ : ByteArray)] : List ByteArray))).bind fun bt169 => ((line_Text.f (⟨#[120]⟩ : ByteArray) (⟨#[99]⟩ : ByteArray)).bind fun bt172 => ((line_Whole.f k (([(⟨bt169.1, bt169.2.1, bt169.2.2⟩ : S34), (⟨bt172.1, bt172.2.1, bt172.2.2⟩ : S34)] : List (S34)))).bind fun t178 => (some (t178.toList == ([97, 98, 99] : List UInt8)))))) = some r := by rw [if_pos rfl] at H; exact H
                    clear H
                    have H := H1
                    clear H1
                    obtain ⟨y166, hy166⟩ : ∃ y_ : List ByteArray, y_ = (([(⟨#[97]⟩ : ByteArray), (⟨#[98]⟩ : ByteArray)] : List ByteArray)) := ⟨_, rfl⟩
                    replace H : ((line_Mark.f y166).bind fun bt169 => ((line_Text.f (⟨#[120]⟩ : ByteArray) (⟨#[99]⟩ : ByteArray)).bind fun bt172 => ((line_Whole.f k (([(⟨bt169.1, bt169.2.1, bt169.2.2⟩ : S34), (⟨bt172.1, bt172.2.1, bt172.2.2⟩ : S34)] : List (S34)))).bind fun t178 => (some (t178.toList == ([97, 98, 99] : List UInt8)))))) = some r := by first | (rw [hy166]; with_reducible exact H) | (have H2_ := (Option.bind_some _ _).symm.trans H; rw [hy166]; with_reducible exact H2_) | (have H2_ := (Option.bind_some _ _).symm.trans H; with_reducible exact H2_) | with_reducible exact H | (rw [hy166]; exact H) | exact H
                    have Ny166 := Aside0.mk hy166
                    clear hy166
                    replace H := Option.bind_eq_some_iff.mp H
                    obtain ⟨⟨t169, t170, t171⟩, A130, H⟩ := H
                    replace H : ((line_Text.f (⟨#[120]⟩ : ByteArray) (⟨#[99]⟩ : ByteArray)).bind fun bt172 => ((line_Whole.f k (([(⟨t169, t170, t171⟩ : S34), (⟨bt172.1, bt172.2.1, bt172.2.2⟩ : S34)] : List (S34)))).bind fun t178 => (some (t178.toList == ([97, 98, 99] : List UInt8))))) = some r := H
                    have A13 := Aside0.mk A130
                    clear A130
                    replace H := Option.bind_eq_some_iff.mp H
                    obtain ⟨⟨t172, t173, t174⟩, A140, H⟩ := H
                    replace H : ((line_Whole.f k (([(⟨t169, t170, t171⟩ : S34), (⟨t172, t173, t174⟩ : S34)] : List (S34)))).bind fun t178 => (some (t178.toList == ([97, 98, 99] : List UInt8)))) = some r := H
                    have A14 := Aside0.mk A140
                    clear A140
                    obtain ⟨y175, hy175⟩ : ∃ y_ : List (S34), y_ = (([(⟨t169, t170, t171⟩ : S34), (⟨t172, t173, t174⟩ : S34)] : List (S34))) := ⟨_, rfl⟩
                    replace H : ((line_Whole.f k y175).bind fun t178 => (some (t178.toList == ([97, 98, 99] : List UInt8)))) = some r := by first | (rw [hy175]; with_reducible exact H) | (have H2_ := (Option.bind_some _ _).symm.trans H; rw [hy175]; with_reducible exact H2_) | (have H2_ := (Option.bind_some _ _).symm.trans H; with_reducible exact H2_) | with_reducible exact H | (rw [hy175]; exact H) | exact H
                    have Ny175 := Aside0.mk hy175
                    clear hy175
                    replace H := Option.bind_eq_some_iff.mp H
                    obtain ⟨t178, A150, H⟩ := H
                    replace H : (some (t178.toList == ([97, 98, 99] : List UInt8))) = some r := H
                    have A15 := Aside0.mk A150
                    clear A150
                    obtain rfl := Option.some.inj H
                    go_enter Try.func43, Try.ntmps43
                    go_wp2_with (first | ((with_reducible refine gate_callee (f := 15) rfl ?_); refine goesL_ (some 2) rfl rfl Try.func15 (by kernel_rfl) rfl #[.string (⟨#[97, 13, 10, 10, 98]⟩ : ByteArray)] rfl (by (try simp only [List.map_toArray, List.map_cons, List.map_nil]); first | done | rfl | (simp only [List.length_drop, List.length_take]; rfl)) ?_; (with_reducible refine (line_Lines.calls k (⟨#[97, 13, 10, 10, 98]⟩ : ByteArray) t158 _ A1.out).mono ?_); rintro e w16 ⟨v159, rfl, ho0, hb⟩; refine ⟨_, rfl, ?_⟩; have n0_ := Aside0.mk (Kd.R_lower ho0 (below_size (by repeat (first | (with_reducible first | exact HB.out | apply below_alloc | apply pw_below_drewN | apply below_drew1) | exact HB.out)))); have n1_ := Aside0.mk (below_step (by repeat (first | (with_reducible first | exact HB.out | apply below_alloc | apply pw_below_drewN | apply below_drew1) | exact HB.out)) hb); clear HB; have HO160 := n0_; have HB := n1_; clear n0_ n1_; (try clear hb); (try clear hb2); (try clear hk); (try clear hi); (try clear ho0)) | ((with_reducible refine gate_callee (f := 61) rfl ?_); refine goesL_ (some 3) rfl rfl Try.func61 (by kernel_rfl) rfl #[] rfl (by (try simp only [List.map_toArray, List.map_cons, List.map_nil]); first | done | rfl | (simp only [List.length_drop, List.length_take]; rfl)) ?_; (with_reducible refine (diacriticlaw01_Awake.calls k  true _ A2.out).mono ?_); rintro e w17 ⟨rfl, hb⟩; refine ⟨_, rfl, ?_⟩; have n0_ := Aside0.mk (Kd.R_below (by (with_reducible repeat (first | apply Kd.R_alloc | apply Kd.R_drewN | apply Kd.R_drew)); exact HO160.out) hb); have n1_ := Aside0.mk (below_step (by repeat (first | (with_reducible first | exact HB.out | apply below_alloc | apply pw_below_drewN | apply below_drew1) | exact HB.out)) hb); clear HO160; clear HB; have HO160 := n0_; have HB := n1_; clear n0_ n1_; (try clear hb); (try clear hb2); (try clear hk); (try clear hi); obtain ⟨Ao18, co18, eo18⟩ := Kd.R_slice HO160.out; subst eo18; have p162 : 0 ≤ (0 : Int) := (by omega); have q162 : 0 < (t158.length : Int) := of_decide_eq_true (by first | (with_reducible assumption) | assumption); obtain ⟨ad162, e162, hx162_0, hx162_1, hx162_2⟩ := at_T28 (Kd.R_reads' HO160.out).2.2 0 p162 q162; cases e162; have qi162 : (0 < t158.length) = True := eq_true (by omega); (try rw [show ((0 : Int)).toNat = 0 from rfl] at hx162_0); (try rw [show 0 * 3 = 0 from rfl] at hx162_0); (try rw [Addr.add_zero'] at hx162_0); (try rw [show ((0 : Int)).toNat = 0 from rfl] at hx162_1); (try rw [show 0 * 3 = 0 from rfl] at hx162_1); (try rw [Addr.add_zero'] at hx162_1); (try rw [show ((0 : Int)).toNat = 0 from rfl] at hx162_2); (try rw [show 0 * 3 = 0 from rfl] at hx162_2); (try rw [Addr.add_zero'] at hx162_2); replace p162 := eq_true p162; replace q162 := eq_true q162; have p163 : 0 ≤ (1 : Int) := (by omega); have q163 : 1 < (t158.length : Int) := of_decide_eq_true (by first | (with_reducible assumption) | assumption); obtain ⟨ad163, e163, hx163_0, hx163_1, hx163_2⟩ := at_T28 (Kd.R_reads' HO160.out).2.2 1 p163 q163; obtain rfl : ad162 = ad163 := (by injection e163); (try simp only [show (1 : Int).toNat = 1 from rfl, Nat.reduceMul, Nat.reduceEqDiff, Go.Addr.add, ↓reduceIte] at hx163_0); (try simp only [show (1 : Int).toNat = 1 from rfl, Nat.reduceMul, Nat.reduceEqDiff, Go.Addr.add, ↓reduceIte] at hx163_1); (try simp only [show (1 : Int).toNat = 1 from rfl, Nat.reduceMul, Nat.reduceEqDiff, Go.Addr.add, ↓reduceIte] at hx163_2); have qi163 : (1 < t158.length) = True := eq_true (by omega); (try rw [show ((1 : Int)).toNat = 1 from rfl] at hx163_0); (try rw [show 1 * 3 = 3 from rfl] at hx163_0); (try rw [show ((1 : Int)).toNat = 1 from rfl] at hx163_1); (try rw [show 1 * 3 = 3 from rfl] at hx163_1); (try rw [show ((1 : Int)).toNat = 1 from rfl] at hx163_2); (try rw [show 1 * 3 = 3 from rfl] at hx163_2); replace p163 := eq_true p163; replace q163 := eq_true q163; have p164 : 0 ≤ (2 : Int) := (by omega); have q164 : 2 < (t158.length : Int) := of_decide_eq_true (by first | (with_reducible assumption) | assumption); obtain ⟨ad164, e164, hx164_0, hx164_1, hx164_2⟩ := at_T28 (Kd.R_reads' HO160.out).2.2 2 p164 q164; obtain rfl : ad162 = ad164 := (by injection e164); (try simp only [show (2 : Int).toNat = 2 from rfl, Nat.reduceMul, Nat.reduceEqDiff, Go.Addr.add, ↓reduceIte] at hx164_0); (try simp only [show (2 : Int).toNat = 2 from rfl, Nat.reduceMul, Nat.reduceEqDiff, Go.Addr.add, ↓reduceIte] at hx164_1); (try simp only [show (2 : Int).toNat = 2 from rfl, Nat.reduceMul, Nat.reduceEqDiff, Go.Addr.add, ↓reduceIte] at hx164_2); have qi164 : (2 < t158.length) = True := eq_true (by omega); (try rw [show ((2 : Int)).toNat = 2 from rfl] at hx164_0); (try rw [show 2 * 3 = 6 from rfl] at hx164_0); (try rw [show ((2 : Int)).toNat = 2 from rfl] at hx164_1); (try rw [show 2 * 3 = 6 from rfl] at hx164_1); (try rw [show ((2 : Int)).toNat = 2 from rfl] at hx164_2); (try rw [show 2 * 3 = 6 from rfl] at hx164_2); replace p164 := eq_true p164; replace q164 := eq_true q164) | (go_at_call 24; (with_reducible refine (line_Like.calls k (⟨#[49, 58, 50, 51]⟩ : ByteArray) (⟨#[48, 58, 48, 48]⟩ : ByteArray) true _ A11.out).mono ?_); rintro e w19 ⟨rfl, hb⟩; have n0_ := Aside0.mk (Kd.R_below (by (with_reducible repeat (first | apply Kd.R_alloc | apply Kd.R_drewN | apply Kd.R_drew)); exact HO160.out) hb); have n1_ := Aside0.mk (below_step (by repeat (first | (with_reducible first | exact HB.out | apply below_alloc | apply pw_below_drewN | apply below_drew1) | exact HB.out)) hb); clear HO160; clear HB; have HO160 := n0_; have HB := n1_; clear n0_ n1_; (try clear hb); (try clear hb2); (try clear hk); (try clear hi)) | ((with_reducible refine gate_dst (N := 34) rfl ?_); (try (refine gate_guard (by rfl) ?_; dsimp only)); refine Kd.R_lit Kd.string _ 9 ?hg (N := 34) ?hd (xs := ([(⟨#[97]⟩ : ByteArray), (⟨#[98]⟩ : ByteArray)] : List ByteArray)) (inner := [.string (⟨#[97]⟩ : ByteArray), .string (⟨#[98]⟩ : ByteArray)]) (ok := fun _ => True) (okp := fun _ => True) ?hr ?hp (fun _ hk => hk) trivial (Below.refl _ _) (Nat.le_refl _) (by simp) ?_; (case hd => rfl); (case hg => rfl); (case hr => first | (go_simp; done) | (go_simp; rfl)); (case hp => exact (Reps.one (show Kd.M Kd.string _ _ _ (⟨#[97]⟩ : ByteArray) [.string (⟨#[97]⟩ : ByteArray)] from rfl) (Reps.one (show Kd.M Kd.string _ _ _ (⟨#[98]⟩ : ByteArray) [.string (⟨#[98]⟩ : ByteArray)] from rfl) (Reps.none _ _)))); intro v167 w20 ho21 hb hg_ hnew_; clear hg_ hnew_; (first | rw [← Ny166.out] at ho21 | (simp only [Int.reduceToNat] at ho21; rw [← Ny166.out] at ho21)); have n0_ := Aside0.mk (Kd.R_below (by (with_reducible repeat (first | apply Kd.R_alloc | apply Kd.R_drewN | apply Kd.R_drew)); exact HO160.out) hb); have n1_ := Aside0.mk (Kd.R_lower ho21 (below_size (by repeat (first | (with_reducible first | exact HB.out | apply below_alloc | apply pw_below_drewN | apply below_drew1) | exact HB.out)))); have n2_ := Aside0.mk (below_step (by repeat (first | (with_reducible first | exact HB.out | apply below_alloc | apply pw_below_drewN | apply below_drew1) | exact HB.out)) hb); clear HO160; clear HB; have HO160 := n0_; have HO168 := n1_; have HB := n2_; clear n0_ n1_ n2_; clear hb ho21; obtain ⟨Ao22, co22, eo22⟩ := Kd.R_slice HO168.out; subst eo22) | (go_at_call 18; (with_reducible refine (line_Mark.calls _ _ y166 t169 t170 t171 _ ?side1 ?side2 A13.out).mono ?_); (case side1 => repeat (first | exact (Kd.R_reads' HO168.out).2.2 | (with_reducible refine Kd.C_alloc ?_ _) | (with_reducible refine Kd.C_drewN ?_ _) | (with_reducible refine Kd.C_drew ?_))); (case side2 => exact (Kd.R_reads' HO168.out).2.1); rintro e w23 ⟨rfl, hb⟩; have n0_ := Aside0.mk (Kd.R_below (by (with_reducible repeat (first | apply Kd.R_alloc | apply Kd.R_drewN | apply Kd.R_drew)); exact HO160.out) hb); have n1_ := Aside0.mk (Kd.R_below (by (with_reducible repeat (first | apply Kd.R_alloc | apply Kd.R_drewN | apply Kd.R_drew)); exact HO168.out) hb); have n2_ := Aside0.mk (below_step (by repeat (first | (with_reducible first | exact HB.out | apply below_alloc | apply pw_below_drewN | apply below_drew1) | exact HB.out)) hb); clear HO160; clear HO168; clear HB; have HO160 := n0_; have HO168 := n1_; have HB := n2_; clear n0_ n1_ n2_; (try clear hb); (try clear hb2); (try clear hk); (try clear hi)) | (go_at_call 19; (with_reducible refine (line_Text.calls (⟨#[120]⟩ : ByteArray) (⟨#[99]⟩ : ByteArray) t172 t173 t174 _ A14.out).mono ?_); rintro e w24 ⟨rfl, hb⟩; have n0_ := Aside0.mk (Kd.R_below (by (with_reducible repeat (first | apply Kd.R_alloc | apply Kd.R_drewN | apply Kd.R_drew)); exact HO160.out) hb); have n1_ := Aside0.mk (Kd.R_below (by (with_reducible repeat (first | apply Kd.R_alloc | apply Kd.R_drewN | apply Kd.R_drew)); exact HO168.out) hb); have n2_ := Aside0.mk (below_step (by repeat (first | (with_reducible first | exact HB.out | apply below_alloc | apply pw_below_drewN | apply below_drew1) | exact HB.out)) hb); clear HO160; clear HO168; clear HB; have HO160 := n0_; have HO168 := n1_; have HB := n2_; clear n0_ n1_ n2_; (try clear hb); (try clear hb2); (try clear hk); (try clear hi)) | ((with_reducible refine gate_dst (N := 37) rfl ?_); (try (refine gate_guard (by rfl) ?_; dsimp only)); refine Kd.R_lit k34 _ 34 ?hg (N := 37) ?hd (xs := ([(⟨t169, t170, t171⟩ : S34), (⟨t172, t173, t174⟩ : S34)] : List (S34))) (inner := [.bool t169, .string t170, .string t171, .bool t172, .string t173, .string t174]) (ok := fun _ => True) (okp := fun _ => True) ?hr ?hp (fun _ hk => hk) trivial (Below.refl _ _) (Nat.le_refl _) (by simp) ?_; (case hd => rfl); (case hg => rfl); (case hr => first | (go_simp; done) | (go_simp; rfl)); (case hp => exact (Reps.c3 (show Kd.M k34 _ _ _ (⟨t169, t170, t171⟩ : S34) [.bool t169, .string t170, .string t171] from (k34_mkM _ _ _ (⟨t169, t170, t171⟩ : S34) )) (Reps.c3 (show Kd.M k34 _ _ _ (⟨t172, t173, t174⟩ : S34) [.bool t172, .string t173, .string t174] from (k34_mkM _ _ _ (⟨t172, t173, t174⟩ : S34) )) (Reps.none _ _)))); intro v176 w25 ho26 hb hg_ hnew_; clear hg_ hnew_; (first | rw [← Ny175.out] at ho26 | (simp only [Int.reduceToNat] at ho26; rw [← Ny175.out] at ho26)); have n0_ := Aside0.mk (Kd.R_below (by (with_reducible repeat (first | apply Kd.R_alloc | apply Kd.R_drewN | apply Kd.R_drew)); exact HO160.out) hb); have n1_ := Aside0.mk (Kd.R_below (by (with_reducible repeat (first | apply Kd.R_alloc | apply Kd.R_drewN | apply Kd.R_drew)); exact HO168.out) hb); have n2_ := Aside0.mk (Kd.R_lower ho26 (below_size (by repeat (first | (with_reducible first | exact HB.out | apply below_alloc | apply pw_below_drewN | apply below_drew1) | exact HB.out)))); have n3_ := Aside0.mk (below_step (by repeat (first | (with_reducible first | exact HB.out | apply below_alloc | apply pw_below_drewN | apply below_drew1) | exact HB.out)) hb); clear HO160; clear HO168; clear HB; have HO160 := n0_; have HO168 := n1_; have HO177 := n2_; have HB := n3_; clear n0_ n1_ n2_ n3_; clear hb ho26; obtain ⟨Ao27, co27, eo27⟩ := Kd.R_slice HO177.out; subst eo27) | (go_at_call 17; (with_reducible refine (line_Whole.calls k _ _ y175 t178 _ ?side1 ?side2 A15.out).mono ?_); (case side1 => repeat (first | exact (Kd.R_reads' HO177.out).2.2 | (with_reducible refine Kd.C_alloc ?_ _) | (with_reducible refine Kd.C_drewN ?_ _) | (with_reducible refine Kd.C_drew ?_))); (case side2 => exact (Kd.R_reads' HO177.out).2.1); rintro e w28 ⟨rfl, hb⟩; have n0_ := Aside0.mk (Kd.R_below (by (with_reducible repeat (first | apply Kd.R_alloc | apply Kd.R_drewN | apply Kd.R_drew)); exact HO160.out) hb); have n1_ := Aside0.mk (Kd.R_below (by (with_reducible repeat (first | apply Kd.R_alloc | apply Kd.R_drewN | apply Kd.R_drew)); exact HO168.out) hb); have n2_ := Aside0.mk (Kd.R_below (by (with_reducible repeat (first | apply Kd.R_alloc | apply Kd.R_drewN | apply Kd.R_drew)); exact HO177.out) hb); have n3_ := Aside0.mk (below_step (by repeat (first | (with_reducible first | exact HB.out | apply below_alloc | apply pw_below_drewN | apply below_drew1) | exact HB.out)) hb); clear HO160; clear HO168; clear HO177; clear HB; have HO160 := n0_; have HO168 := n1_; have HO177 := n2_; have HB := n3_; clear n0_ n1_ n2_ n3_; (try clear hb); (try clear hb2); (try clear hk); (try clear hi)))
                    go_ret
                    exact ⟨by first | rfl | (simp [errW_none, errW_some] <;> rfl) | (simp [*, errW_none, errW_some] <;> rfl), by repeat (first | (with_reducible first | exact HB.out | apply below_alloc | apply pw_below_drewN | apply below_drew1) | exact HB.out)⟩
                  · replace c12 := Bool.eq_false_iff.mpr c12
                    subst c12
                    have H1 : (some false) = some r := by rw [if_neg (show ¬ (false = true) by decide)] at H; exact H
                    clear H
                    have H := H1
                    clear H1
                    exact absurd ((Option.some.inj H).trans hr_) (by decide)
                · rw [if_neg c10] at H
                  exact absurd ((Option.some.inj H).trans hr_) (by decide)
              · rw [if_neg c9] at H
                exact absurd H (by simp)
            · rw [if_neg c8] at H
              exact absurd ((Option.some.inj H).trans hr_) (by decide)
          · rw [if_neg c7] at H
            exact absurd H (by simp)
        · rw [if_neg c6] at H
          exact absurd ((Option.some.inj H).trans hr_) (by decide)
      · rw [if_neg c5] at H
        exact absurd H (by simp)
    · rw [if_neg c4] at H
      exact absurd ((Option.some.inj H).trans hr_) (by decide)
  · replace c3 := Bool.eq_false_iff.mpr c3
    subst c3
    have H1 : (some false) = some r := by rw [if_neg (show ¬ (false = true) by decide)] at H; exact H
    clear H
    have H := H1
    clear H1
    exact absurd ((Option.some.inj H).trans hr_) (by decide)

/-! ### diacriticlaw22_awake: function 14 -/
def diacriticlaw22_awake.f (k : Nat)  : Option (Bool) := (diacriticlaw22_Awake.f k).bind fun t179 => (some t179)
theorem diacriticlaw22_awake.mono : ∀ k, LeO (diacriticlaw22_awake.f k ) (diacriticlaw22_awake.f (k + 1) ) := by
  intro  k
  unfold diacriticlaw22_awake.f
  repeat' first
      | (with_reducible exact diacriticlaw22_Awake.mono _)
      | (with_reducible exact LeO.refl _)
      | (with_reducible exact LeO.none _)
      | (with_reducible refine LeO.ite ?_ ?_)
      | (with_reducible refine LeO.bind ?_ (fun _ => ?_))
      | exact diacriticlaw22_Awake.mono _
      | exact LeO.none _
      | refine LeO.ite ?_ ?_
      | refine LeO.bind ?_ (fun _ => ?_)
set_option maxHeartbeats 8000000 in
set_option maxRecDepth 100000 in
theorem diacriticlaw22_awake.calls (k : Nat)  (r : Bool) (w : World) (h : diacriticlaw22_awake.f k  = some r) :
    Calls Try.prog 14 #[] w fun e w' => e = .returned (.bool r) ∧ Below w.heap.size w w' := by
  have HB := Aside0.mk (Below.refl w.heap.size w)
  have H : ((diacriticlaw22_Awake.f k).bind fun t179 => (some t179)) = some r := h
  clear h
  replace H := Option.bind_eq_some_iff.mp H
  obtain ⟨t179, A10, H⟩ := H
  replace H : (some t179) = some r := H
  have A1 := Aside0.mk A10
  clear A10
  obtain rfl := Option.some.inj H
  go_enter Try.func14, Try.ntmps14
  go_wp2_with (first | ((with_reducible refine gate_callee (f := 43) rfl ?_); refine goesL_ (some 1) rfl rfl Try.func43 (by kernel_rfl) rfl #[] rfl (by (try simp only [List.map_toArray, List.map_cons, List.map_nil]); first | done | rfl | (simp only [List.length_drop, List.length_take]; rfl)) ?_; (with_reducible refine (diacriticlaw22_Awake.calls k  t179 _ A1.out).mono ?_); rintro e w2 ⟨rfl, hb⟩; refine ⟨_, rfl, ?_⟩; have n0_ := Aside0.mk (below_step (by repeat (first | (with_reducible first | exact HB.out | apply below_alloc | apply pw_below_drewN | apply below_drew1) | exact HB.out)) hb); clear HB; have HB := n0_; clear n0_; (try clear hb); (try clear hb2); (try clear hk); (try clear hi)))
  go_ret
  exact ⟨by first | rfl | (simp [errW_none, errW_some] <;> rfl) | (simp [*, errW_none, errW_some] <;> rfl), by repeat (first | (with_reducible first | exact HB.out | apply below_alloc | apply pw_below_drewN | apply below_drew1) | exact HB.out)⟩

end Go.Proofs.Ytbndilnbfclmbaa.PAll
