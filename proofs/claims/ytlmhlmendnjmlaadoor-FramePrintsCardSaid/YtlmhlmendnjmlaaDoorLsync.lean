/- The loops that keep texts from looking like sound, and the document's. -/
import Derived.Test.YtlmhlmendnjmlaaDoorPAllx3
import Derived.Test.YtlmhlmendnjmlaaDoorPAllx4
import Derived.Test.YtlmhlmendnjmlaaDoorPAllx5
import Derived.Lib.ReplaceLaws
import Derived.Test.YtlmhlmendnjmlaaDoorLuns
namespace Go.Proofs.YtlmhlmendnjmlaaDoor.Pl
open Go.RowKit Go.Proofs.YtlmhlmendnjmlaaDoor.PAll Go.Proofs.YtlmhlmendnjmlaaDoorW.PrintWords Go.Proofs.YtlmhlmendnjmlaaDoorW.PrintLast Go.Proofs.YtlmhlmendnjmlaaDoorW.PrintMore
set_option linter.unusedVariables false
set_option linter.unusedSimpArgs false

theorem sapp (a b : List Int) : strOfNums (a ++ b) = strOfNums a ++ strOfNums b := by
  apply ba_ext
  simp [strOfNums, ByteArray.data_append]
theorem sapp_nil (s : ByteArray) : s ++ (⟨#[]⟩ : ByteArray) = s := by apply ba_ext; simp [ByteArray.data_append]
theorem snil_app (s : ByteArray) : (⟨#[]⟩ : ByteArray) ++ s = s := by apply ba_ext; simp [ByteArray.data_append]
theorem sassoc (a b c : ByteArray) : a ++ b ++ c = a ++ (b ++ c) := by apply ba_ext; simp [ByteArray.data_append]
theorem one_cons (x : Int) (L : List Int) : strOfNums (x :: L) = strOfNums [x] ++ strOfNums L := sapp [x] L
theorem one_ext (s : ByteArray) (i : Nat) (h : i < s.size) : s.extract i (i + 1) = strOfNums [bt s (i : Int)] := by
  apply bytesOf_inj
  rw [bytesOf_ext, drop_cons s i h, bytesOf_str]
  · simp
  · intro x hx
    simp only [List.mem_singleton] at hx
    subst hx
    exact bt_range _ _
theorem put_mem (l : List Int) : ∀ x ∈ putI l, x = 0 ∨ x ∈ l := by
  induction l with
  | nil => intro x hx; cases hx
  | cons b r ih =>
    intro x hx
    rw [putI] at hx
    split at hx
    · simp only [List.mem_cons] at hx ⊢
      rcases hx with h | h | h
      · exact .inr (.inl h)
      · exact .inl h
      · rcases ih x h with h | h
        · exact .inl h
        · exact .inr (.inr h)
    · simp only [List.mem_cons] at hx ⊢
      rcases hx with h | h
      · exact .inr (.inl h)
      · rcases ih x h with h | h
        · exact .inl h
        · exact .inr (.inr h)
theorem drop_mem (l : List Int) : ∀ x ∈ dropI l, x ∈ l := by
  match l with
  | [] => intro x hx; cases hx
  | [b] => intro x hx; exact hx
  | b :: c :: r =>
    intro x hx
    have h1 := drop_mem r
    have h2 := drop_mem (c :: r)
    rw [dropI] at hx
    split at hx
    · simp only [List.mem_cons] at hx ⊢
      rcases hx with h | h
      · exact .inl h
      · exact .inr (.inr (h1 x h))
    · simp only [List.mem_cons] at hx h2 ⊢
      rcases hx with h | h
      · exact .inl h
      · exact .inr (h2 x h)
theorem put_range (s : ByteArray) : ∀ x ∈ putI (bytesOf s), 0 ≤ x ∧ x ≤ 255 := by
  intro x hx
  rcases put_mem _ x hx with rfl | h
  · omega
  · exact bytesOf_range x h
theorem drop_range (s : ByteArray) : ∀ x ∈ dropI (bytesOf s), 0 ≤ x ∧ x ≤ 255 := fun x hx => bytesOf_range x (drop_mem _ x hx)

theorem alarm_ev (c : Int) : unsync_alarm.f c = some (decide (c = 0) || decide (c ≥ 224)) := by
  unfold unsync_alarm.f
  by_cases h : c ≥ 224
  · rw [if_pos h, decide_eq_true h, Bool.or_true]
  · rw [if_neg h, decide_eq_false h, Bool.or_false]; rfl
theorem hd_alarm (s : ByteArray) (i : Nat) (h : i < s.size) : (i + 1 = s.size ∧ alarmI ((bytesOf s).drop (i + 1)) = true) ∨
    (i + 1 < s.size ∧ alarmI ((bytesOf s).drop (i + 1)) = (decide (bt s ((i + 1 : Nat) : Int) = 0) || decide (bt s ((i + 1 : Nat) : Int) ≥ 224))) := by
  by_cases he : i + 1 = s.size
  · refine .inl ⟨he, ?_⟩
    rw [List.drop_eq_nil_of_le (by rw [len_bytesOf]; omega)]; rfl
  · refine .inr ⟨by omega, ?_⟩
    rw [drop_cons s (i + 1) (by omega)]; rfl
theorem looks_ev (s : ByteArray) (hs : s.size ≤ 100000) (i : Nat) (h : i < s.size) : diacriticref11_Looks.f s (i : Int) = some (decide (bt s (i : Int) = 255) && alarmI ((bytesOf s).drop (i + 1))) := by
  unfold diacriticref11_Looks.f
  have w : wrap64 ((i : Int) + 1) = ((i + 1 : Nat) : Int) := by rw [w64 (by omega)]; omega
  rw [if_pos (by omega), if_pos (by omega), w]
  by_cases hb : bt s (i : Int) = 255
  · rw [if_pos hb, decide_eq_true hb, Bool.true_and]
    rcases hd_alarm s i h with ⟨h1, h2⟩ | ⟨h1, h2⟩
    · rw [if_pos (by omega), h2]
    · rw [if_neg (by omega), if_pos (by omega), if_pos (by omega), h2]
      by_cases h0 : bt s ((i + 1 : Nat) : Int) = 0
      · rw [if_pos h0, decide_eq_true h0, Bool.true_or]
      · rw [if_neg h0, decide_eq_false h0, Bool.false_or]
  · rw [if_neg hb, decide_eq_false hb, Bool.false_and]
theorem hit_iff (s : ByteArray) (i : Nat) : (decide (bt s (i : Int) = 255) && alarmI ((bytesOf s).drop (i + 1))) = true ↔ bt s (i : Int) = 255 ∧ alarmI ((bytesOf s).drop (i + 1)) = true := by
  rw [Bool.and_eq_true, decide_eq_true_iff]

theorem put_loop (s : ByteArray) (hs : s.size ≤ 100000) : ∀ (d i : Nat) (out : List Int), i + d = s.size → out.length ≤ 2 * i →
    Ev (fun k => unsync_Put.l0 k s out (s.size : Int) (i : Int)) (strOfNums (out ++ putI ((bytesOf s).drop i)))
  | 0, i, out, hi, ho => by
    refine Ev.step (fun k => by rw [unsync_Put.l0]) (Ev.iten (by omega) (Ev.some ?_))
    rw [List.drop_eq_nil_of_le (by rw [len_bytesOf]; omega), putI, List.append_nil]
  | d + 1, i, out, hi, ho => by
    have w : wrap64 ((i : Int) + 1) = ((i + 1 : Nat) : Int) := by rw [w64 (by omega)]; omega
    have w1 : wrap64 ((s.size : Int) - 1) = (s.size : Int) - 1 := w64 (by omega)
    refine Ev.step (fun k => by rw [unsync_Put.l0]) ?_
    refine Ev.itep (by omega) (Ev.itep (by omega) (Ev.itep (by omega) (Ev.itep (by omega) ?_)))
    refine Ev.letb ?_
    rw [w, w1, drop_cons s i (by omega), putI]
    by_cases hb : bt s (i : Int) = 255
    · refine Ev.itep hb ?_
      rcases hd_alarm s i (by omega) with ⟨h1, h2⟩ | ⟨h1, h2⟩
      · refine Ev.itep (by omega) (Ev.itep (by rw [List.length_append, List.length_singleton]; omega) ?_)
        refine Ev.eq (put_loop s hs d (i + 1) _ (by omega) (by simp only [List.length_append, List.length_singleton]; omega)) ?_
        rw [if_pos ⟨hb, h2⟩, List.append_assoc, List.append_assoc]; rfl
      · refine Ev.iten (by omega) (Ev.itep (by omega) (Ev.itep (by omega) (Ev.bindc (alarm_ev _) ?_)))
        rw [← h2]
        by_cases ha : alarmI ((bytesOf s).drop (i + 1)) = true
        · refine Ev.itep ha (Ev.itep (by rw [List.length_append, List.length_singleton]; omega) ?_)
          refine Ev.eq (put_loop s hs d (i + 1) _ (by omega) (by simp only [List.length_append, List.length_singleton]; omega)) ?_
          rw [if_pos ⟨hb, ha⟩, List.append_assoc, List.append_assoc]; rfl
        · refine Ev.iten ha ?_
          refine Ev.eq (put_loop s hs d (i + 1) _ (by omega) (by simp only [List.length_append, List.length_singleton]; omega)) ?_
          rw [if_neg (fun h => ha h.2), List.append_assoc]; rfl
    · refine Ev.iten hb ?_
      refine Ev.eq (put_loop s hs d (i + 1) _ (by omega) (by simp only [List.length_append, List.length_singleton]; omega)) ?_
      rw [if_neg (fun h => hb h.1), List.append_assoc]; rfl
/-- What is put into a text. -/
def putS (s : ByteArray) : ByteArray := strOfNums (putI (bytesOf s))
def dropS (s : ByteArray) : ByteArray := strOfNums (dropI (bytesOf s))
def cntS (s : ByteArray) : Nat := cntI (bytesOf s)
theorem put_ev (s : ByteArray) (hs : s.size ≤ 100000) : Ev (fun k => unsync_Put.f k s) (putS s) := by
  refine Ev.eq (put_loop s hs s.size 0 [] (by omega) (by simp)) ?_
  rw [List.drop_zero, List.nil_append]; rfl
theorem size_putS (s : ByteArray) : (putS s).size = s.size + cntS s := by
  unfold putS cntS; rw [size_str, len_put, len_bytesOf]
theorem bytes_putS (s : ByteArray) : bytesOf (putS s) = putI (bytesOf s) := bytesOf_str (put_range s)
theorem bytes_dropS (s : ByteArray) : bytesOf (dropS s) = dropI (bytesOf s) := bytesOf_str (drop_range s)
theorem cnt_le (l : List Int) : cntI l ≤ l.length := by
  induction l with
  | nil => exact Nat.le_refl _
  | cons b r ih =>
    rw [cntI, List.length_cons]
    split <;> omega
theorem cntS_le (s : ByteArray) : cntS s ≤ s.size := by
  have := cnt_le (bytesOf s)
  rwa [len_bytesOf] at this
theorem drop_le (l : List Int) : (dropI l).length ≤ l.length := by
  match l with
  | [] => exact Nat.le_refl _
  | [b] => exact Nat.le_refl _
  | b :: c :: r =>
    have h1 := drop_le r
    have h2 := drop_le (c :: r)
    rw [dropI]
    simp only [List.length_cons] at h2 ⊢
    split <;> (simp only [List.length_cons]; omega)
theorem size_dropS (s : ByteArray) : (dropS s).size ≤ s.size := by
  have := drop_le (bytesOf s)
  rw [len_bytesOf] at this
  unfold dropS; rwa [size_str]
theorem drop_ev (s : ByteArray) (hs : s.size ≤ 1000000) : unsync_Drop.f s = some (dropS s) := by
  unfold unsync_Drop.f strings_ReplaceAll.f
  have z1 : (⟨#[255]⟩ : ByteArray).size = 1 := rfl
  have z2 : (⟨#[255, 0]⟩ : ByteArray).size = 2 := rfl
  have hc := Lib.countB_mul_le (⟨#[255, 0]⟩ : ByteArray) (by rw [z2]; omega) s.size s (Nat.le_refl _)
  rw [z2] at hc
  rw [if_pos ⟨by rw [z2]; omega, by omega, by rw [z1]; omega⟩]
  simp only [Option.bind_some, Option.some.injEq]
  apply bytesOf_inj
  rw [bytes_dropS]
  exact bytes_drop s
theorem clean_loop (s : ByteArray) (hs : s.size ≤ 100000) : ∀ (d i : Nat), i + d = s.size →
    Ev (fun k => unsync_Clean.l0 k s (s.size : Int) (i : Int)) (decide (cntI ((bytesOf s).drop i) = 0))
  | 0, i, hi => by
    refine Ev.step (fun k => by rw [unsync_Clean.l0]) (Ev.iten (by omega) (Ev.some ?_))
    rw [List.drop_eq_nil_of_le (by rw [len_bytesOf]; omega)]; rfl
  | d + 1, i, hi => by
    have w : wrap64 ((i : Int) + 1) = ((i + 1 : Nat) : Int) := by rw [w64 (by omega)]; omega
    have w1 : wrap64 ((s.size : Int) - 1) = (s.size : Int) - 1 := w64 (by omega)
    refine Ev.step (fun k => by rw [unsync_Clean.l0]) ?_
    refine Ev.itep (by omega) (Ev.itep (by omega) (Ev.itep (by omega) ?_))
    rw [w, w1, drop_cons s i (by omega), cntI]
    by_cases hb : bt s (i : Int) = 255
    · refine Ev.itep hb ?_
      rcases hd_alarm s i (by omega) with ⟨h1, h2⟩ | ⟨h1, h2⟩
      · refine Ev.itep (by omega) (Ev.some ?_)
        rw [if_pos ⟨hb, h2⟩]
        simp
      · refine Ev.iten (by omega) (Ev.itep (by omega) (Ev.itep (by omega) (Ev.bindc (alarm_ev _) ?_)))
        rw [← h2]
        by_cases ha : alarmI ((bytesOf s).drop (i + 1)) = true
        · refine Ev.itep ha (Ev.some ?_)
          rw [if_pos ⟨hb, ha⟩]
          simp
        · refine Ev.iten ha ?_
          refine Ev.eq (clean_loop s hs d (i + 1) (by omega)) ?_
          rw [if_neg (fun h => ha h.2)]
    · refine Ev.iten hb ?_
      refine Ev.eq (clean_loop s hs d (i + 1) (by omega)) ?_
      rw [if_neg (fun h => hb h.1)]
theorem clean_ev (s : ByteArray) (hs : s.size ≤ 100000) : Ev (fun k => unsync_Clean.f k s) (decide (cntS s = 0)) := by
  refine Ev.eq (clean_loop s hs s.size 0 (by omega)) ?_
  rw [List.drop_zero]; rfl
theorem extra_ev (s : ByteArray) (hs : s.size ≤ 100000) : Ev (fun k => unsync_Extra.f k s) ((cntS s : Nat) : Int) := by
  have hz := size_putS s
  have hc := cntS_le s
  refine Ev.bind (put_ev s hs) (Ev.some ?_)
  rw [w64 (by omega)]; omega
theorem awake11 : Ev (fun k => diacriticlaw11_awake.f k) true := Ev.of diacriticlaw11_awake.mono (k := 40) (by kernel_rfl)

theorem rput_loop (s : ByteArray) (hs : s.size ≤ 100000) : ∀ (d i : Nat) (t : ByteArray), i + d = s.size → t.size ≤ 2 * i →
    Ev (fun k => diacriticref11_Put.l0 k s t (i : Int)) (t ++ strOfNums (putI ((bytesOf s).drop i)))
  | 0, i, t, hi, ht => by
    refine Ev.step (fun k => by rw [diacriticref11_Put.l0]) (Ev.iten (by omega) (Ev.some ?_))
    rw [List.drop_eq_nil_of_le (by rw [len_bytesOf]; omega), putI]
    exact (sapp_nil t).symm
  | d + 1, i, t, hi, ht => by
    have w : wrap64 ((i : Int) + 1) = ((i + 1 : Nat) : Int) := by rw [w64 (by omega)]; omega
    have h1 : (strOfNums [bt s (i : Int)]).size = 1 := by rw [size_str]; rfl
    refine Ev.step (fun k => by rw [diacriticref11_Put.l0]) ?_
    rw [w, Int.toNat_natCast, Int.toNat_natCast, one_ext s i (by omega)]
    refine Ev.itep (by omega) (Ev.itep (by omega) (Ev.itep (by omega) (Ev.itep (by omega) (Ev.itep (by omega) (Ev.bindc (looks_ev s hs i (by omega)) ?_)))))
    rw [drop_cons s i (by omega), putI]
    by_cases hh : bt s (i : Int) = 255 ∧ alarmI ((bytesOf s).drop (i + 1)) = true
    · refine Ev.itep ((hit_iff s i).mpr hh) (Ev.itep (by rw [size_app]; omega) ?_)
      refine Ev.eq (rput_loop s hs d (i + 1) _ (by omega) (by rw [size_app, size_app, h1]; show _ + 1 + 1 ≤ _; omega)) ?_
      rw [if_pos hh, show bt s (i : Int) :: 0 :: putI ((bytesOf s).drop (i + 1)) = [bt s (i : Int)] ++ ([0] ++ putI ((bytesOf s).drop (i + 1))) from rfl, sapp, sapp, sassoc, sassoc]; rfl
    · refine Ev.iten (fun h => hh ((hit_iff s i).mp h)) ?_
      refine Ev.eq (rput_loop s hs d (i + 1) _ (by omega) (by rw [size_app, h1]; omega)) ?_
      rw [if_neg hh, show bt s (i : Int) :: putI ((bytesOf s).drop (i + 1)) = [bt s (i : Int)] ++ putI ((bytesOf s).drop (i + 1)) from rfl, sapp, sassoc]
theorem rput_ev (s : ByteArray) (hs : s.size ≤ 100000) : Ev (fun k => diacriticref11_Put.f k s) (putS s) := by
  refine Ev.eq (rput_loop s hs s.size 0 ⟨#[]⟩ (by omega) (Nat.zero_le _)) ?_
  rw [List.drop_zero]; exact snil_app _
theorem rdrop_loop (s : ByteArray) (hs : s.size ≤ 100000) (d i : Nat) (t : ByteArray) (hi : i + d = s.size) (ht : t.size ≤ i) :
    Ev (fun k => diacriticref11_Drop.l0 k s t (i : Int)) (t ++ strOfNums (dropI ((bytesOf s).drop i))) := by
  by_cases h0 : d = 0
  · refine Ev.step (fun k => by rw [diacriticref11_Drop.l0]) (Ev.iten (by omega) (Ev.some ?_))
    rw [List.drop_eq_nil_of_le (by rw [len_bytesOf]; omega), dropI]
    exact (sapp_nil t).symm
  · have w : wrap64 ((i : Int) + 1) = ((i + 1 : Nat) : Int) := by rw [w64 (by omega)]; omega
    have w2 : wrap64 (((i + 1 : Nat) : Int) + 1) = ((i + 2 : Nat) : Int) := by rw [w64 (by omega)]; omega
    have h1 : (strOfNums [bt s (i : Int)]).size = 1 := by rw [size_str]; rfl
    refine Ev.step (fun k => by rw [diacriticref11_Drop.l0]) ?_
    rw [w, w2, Int.toNat_natCast, Int.toNat_natCast, one_ext s i (by omega)]
    refine Ev.itep (by omega) (Ev.itep (by omega) (Ev.itep (by omega) (Ev.itep (by omega) (Ev.itep (by omega) ?_))))
    rw [drop_cons s i (by omega)]
    by_cases hb : bt s (i : Int) = 255
    · refine Ev.itep hb ?_
      by_cases hn : i + 1 < s.size
      · refine Ev.itep (by omega) (Ev.itep (by omega) ?_)
        rw [drop_cons s (i + 1) hn, dropI]
        by_cases hz : bt s ((i + 1 : Nat) : Int) = 0
        · refine Ev.itep hz ?_
          refine Ev.eq (rdrop_loop s hs (d - 2) (i + 2) _ (by omega) (by rw [size_app, h1]; omega)) ?_
          rw [if_pos ⟨hb, hz⟩, one_cons _ (dropI _), sassoc]
        · refine Ev.iten hz ?_
          refine Ev.eq (rdrop_loop s hs (d - 1) (i + 1) _ (by omega) (by rw [size_app, h1]; omega)) ?_
          rw [if_neg (fun h => hz h.2), ← drop_cons s (i + 1) hn, one_cons _ (dropI _), sassoc]
      · refine Ev.iten (by omega) ?_
        refine Ev.eq (rdrop_loop s hs (d - 1) (i + 1) _ (by omega) (by rw [size_app, h1]; omega)) ?_
        rw [List.drop_eq_nil_of_le (by rw [len_bytesOf]; omega)]
        show t ++ strOfNums [bt s (i : Int)] ++ strOfNums [] = t ++ strOfNums [bt s (i : Int)]
        exact sapp_nil _
    · refine Ev.iten hb ?_
      refine Ev.eq (rdrop_loop s hs (d - 1) (i + 1) _ (by omega) (by rw [size_app, h1]; omega)) ?_
      rw [drop_plain _ _ hb, one_cons _ (dropI _), sassoc]
termination_by d
decreasing_by all_goals omega
theorem rdrop_ev (s : ByteArray) (hs : s.size ≤ 100000) : Ev (fun k => diacriticref11_Drop.f k s) (dropS s) := by
  refine Ev.eq (rdrop_loop s hs s.size 0 ⟨#[]⟩ (by omega) (Nat.zero_le _)) ?_
  rw [List.drop_zero]; exact snil_app _
end Go.Proofs.YtlmhlmendnjmlaaDoor.Pl
