/- Written by a program of this session: functions of the Go program as Lean functions, and the walks that tie them to it. -/
import Derived.Test.YtlmhlmendnjmlaaDoorPAllx0
import Derived.Test.YtlmhlmendnjmlaaDoorPAllx3
import Derived.Test.YtlmhlmendnjmlaaDoorPAllx7
import Derived.Test.YtlmhlmendnjmlaaDoorPAllx8
import Derived.Test.YtlmhlmendnjmlaaDoorPAllx9
import Derived.Test.YtlmhlmendnjmlaaDoorPAllx12
import Derived.Test.YtlmhlmendnjmlaaDoorPAllx13
import Derived.Test.YtlmhlmendnjmlaaDoorPAllx14
namespace Go.Proofs.YtlmhlmendnjmlaaDoor.PAll
open Go.RowKit Go.Proofs.YtlmhlmendnjmlaaDoorW.PrintWords Go.Proofs.YtlmhlmendnjmlaaDoorW.PrintLast Go.Proofs.YtlmhlmendnjmlaaDoorW.PrintMore
attribute [local go_sem] max2_int min2_int max_two min_two max_three min_three max_four min_four   -- for this text's walks alone
set_option linter.unusedVariables false
set_option linter.unusedSimpArgs false

/-- A state of type 36 at block g of W; what its slices lead to came in by w0. -/
def IsS36 (w0 W : World) (g : Nat) (f0 : ByteArray) (f1 : Int) (f2 : Int) (f3 : Int) (f4 : ByteArray) (f5 : Int) : Prop := W.heap[g]? = some (.cells #[.string f0, .int .u8 f1, .int .u8 f2, .int .u8 f3, .string f4, .int .i64 f5] 36 (0, 0)) ∧ w0.heap.size ≤ g
theorem IsS36.grown {w0 W : World} {g : Nat} {f0 : ByteArray} {f1 : Int} {f2 : Int} {f3 : Int} {f4 : ByteArray} {f5 : Int} {W1 : World} {row : Option Nat} (h : IsS36 w0 W g f0 f1 f2 f3 f4 f5) (hw : W.grownBy W1 row) (hne : some g ≠ row) : IsS36 w0 W1 g f0 f1 f2 f3 f4 f5 := by
  obtain ⟨hb, hg⟩ := h
  exact ⟨blk_grown hb hw hne, hg⟩
theorem IsS36.own_neN {w0 W : World} {g : Nat} {f0 : ByteArray} {f1 : Int} {f2 : Int} {f3 : Int} {f4 : ByteArray} {f5 : Int} {α : Type} {d : Kd α} {e : Nat} {base : Nat} {ok : Nat → Prop} {v : Value} {xs : List α} (h : IsS36 w0 W g f0 f1 f2 f3 f4 f5) (ho : Kd.N d e W base ok v xs) (ht : e ≠ 36) : some g ≠ v.ownBlock := by
  obtain ⟨hb, hg⟩ := h
  exact Kd.N_ne ho hb ht
theorem IsS36.fresh {w0 W : World} {g : Nat} {f0 : ByteArray} {f1 : Int} {f2 : Int} {f3 : Int} {f4 : ByteArray} {f5 : Int} (h : IsS36 w0 W g f0 f1 f2 f3 f4 f5) : ∀ k, W.heap.size ≤ k → k ≠ g := by
  obtain ⟨hb, hg⟩ := h
  exact Kd.freshB hb
theorem IsS36.kept {w0 W : World} {g : Nat} {f0 : ByteArray} {f1 : Int} {f2 : Int} {f3 : Int} {f4 : ByteArray} {f5 : Int} {W1 : World} {S : Nat → Prop} (h : IsS36 w0 W g f0 f1 f2 f3 f4 f5) (hk : Kept W W1 S) (hne : ¬ S g) : IsS36 w0 W1 g f0 f1 f2 f3 f4 f5 := by
  obtain ⟨hb, hg⟩ := h
  exact ⟨blk_kept hb hk hne, hg⟩
theorem IsS36.below {w0 W : World} {g : Nat} {f0 : ByteArray} {f1 : Int} {f2 : Int} {f3 : Int} {f4 : ByteArray} {f5 : Int} {W1 : World} (h : IsS36 w0 W g f0 f1 f2 f3 f4 f5) (hw : Below W.heap.size W W1) : IsS36 w0 W1 g f0 f1 f2 f3 f4 f5 := h.grown (grown_of_below hw none) (by simp)
theorem IsS36.alloc {w0 W : World} {g : Nat} {f0 : ByteArray} {f1 : Int} {f2 : Int} {f3 : Int} {f4 : ByteArray} {f5 : Int} (h : IsS36 w0 W g f0 f1 f2 f3 f4 f5) (o : Obj) : IsS36 w0 (W.alloc o) g f0 f1 f2 f3 f4 f5 := h.below (below_alloc (Below.refl _ _) o)
theorem IsS36.drewN {w0 W : World} {g : Nat} {f0 : ByteArray} {f1 : Int} {f2 : Int} {f3 : Int} {f4 : ByteArray} {f5 : Int} (h : IsS36 w0 W g f0 f1 f2 f3 f4 f5) (m : Nat) : IsS36 w0 (W.drewN m) g f0 f1 f2 f3 f4 f5 := h
theorem IsS36.drew {w0 W : World} {g : Nat} {f0 : ByteArray} {f1 : Int} {f2 : Int} {f3 : Int} {f4 : ByteArray} {f5 : Int} (h : IsS36 w0 W g f0 f1 f2 f3 f4 f5) : IsS36 w0 W.drew g f0 f1 f2 f3 f4 f5 := h
theorem IsS36.at_ {w0 W : World} {g : Nat} {f0 : ByteArray} {f1 : Int} {f2 : Int} {f3 : Int} {f4 : ByteArray} {f5 : Int} {w' : World} {m : Nat} (hq : W.drewN m = w') (h : IsS36 w0 W g f0 f1 f2 f3 f4 f5) : IsS36 w0 w' g f0 f1 f2 f3 f4 f5 := by subst hq; exact IsS36.drewN h m
theorem IsS36.apart {w0 W : World} {g : Nat} {f0 : ByteArray} {f1 : Int} {f2 : Int} {f3 : Int} {f4 : ByteArray} {f5 : Int} {α : Type} {d : Kd α} {e : Nat} {base : Nat} {ok : Nat → Prop} {v : Value} {xs : List α} (h : IsS36 w0 W g f0 f1 f2 f3 f4 f5) (ho : d.R e W base ok v xs) (ht : ∀ q, q ∈ e :: d.E → q ≠ 36) : d.R e W base (fun k => ok k ∧ k ≠ g) v xs := by
  obtain ⟨hb, hg⟩ := h
  exact Kd.R_types ho hb ht
theorem IsS36.own_ne {w0 W : World} {g : Nat} {f0 : ByteArray} {f1 : Int} {f2 : Int} {f3 : Int} {f4 : ByteArray} {f5 : Int} {α : Type} {d : Kd α} {e : Nat} {base : Nat} {ok : Nat → Prop} {v : Value} {xs : List α} (h : IsS36 w0 W g f0 f1 f2 f3 f4 f5) (ho : d.R e W base ok v xs) (ht : e ≠ 36) : some g ≠ v.ownBlock := by
  obtain ⟨hb, hg⟩ := h
  exact Kd.R_ne ho hb ht
theorem IsS36.apartQ {w0 W : World} {g : Nat} {f0 : ByteArray} {f1 : Int} {f2 : Int} {f3 : Int} {f4 : ByteArray} {f5 : Int} {α : Type} {d : Kd α} {e : Nat} {base : Nat} {ok : Nat → Prop} {v : Value} {xs : List α} (h : IsS36 w0 W g f0 f1 f2 f3 f4 f5) (ho : d.Q e W base ok v xs) (ht : ∀ q, q ∈ e :: d.E → q ≠ 36) : d.Q e W base (fun k => ok k ∧ k ≠ g) v xs := by
  obtain ⟨hb, hg⟩ := h
  exact Kd.Q_types ho hb ht
theorem IsS36.own_neQ {w0 W : World} {g : Nat} {f0 : ByteArray} {f1 : Int} {f2 : Int} {f3 : Int} {f4 : ByteArray} {f5 : Int} {α : Type} {d : Kd α} {e : Nat} {base : Nat} {ok : Nat → Prop} {v : Value} {xs : List α} (h : IsS36 w0 W g f0 f1 f2 f3 f4 f5) (ho : d.Q e W base ok v xs) (ht : e ≠ 36) : some g ≠ v.ownBlock := by
  obtain ⟨hb, hg⟩ := h
  exact Kd.Q_ne ho hb ht
theorem IsS36.apartS {w0 W : World} {g : Nat} {f0 : ByteArray} {f1 : Int} {f2 : Int} {f3 : Int} {f4 : ByteArray} {f5 : Int} {α : Type} {d : Kd α} {e : Nat} {base : Nat} {ok : Nat → Prop} {v : Value} {xs : List α} (h : IsS36 w0 W g f0 f1 f2 f3 f4 f5) (ho : d.S e W base ok v xs) (ht : ∀ q, q ∈ e :: d.E → q ≠ 36) : d.S e W base (fun k => ok k ∧ k ≠ g) v xs := by
  obtain ⟨hb, hg⟩ := h
  exact Kd.S_types ho hb ht
theorem IsS36.own_neS {w0 W : World} {g : Nat} {f0 : ByteArray} {f1 : Int} {f2 : Int} {f3 : Int} {f4 : ByteArray} {f5 : Int} {α : Type} {d : Kd α} {e : Nat} {base : Nat} {ok : Nat → Prop} {v : Value} {xs : List α} (h : IsS36 w0 W g f0 f1 f2 f3 f4 f5) (ho : d.S e W base ok v xs) (ht : e ≠ 36) : some g ≠ v.ownBlock := by
  obtain ⟨hb, hg⟩ := h
  exact Kd.S_ne ho hb ht
theorem IsS36.keep {w0 W : World} {g : Nat} {f0 : ByteArray} {f1 : Int} {f2 : Int} {f3 : Int} {f4 : ByteArray} {f5 : Int} {W1 : World} {g1 : Nat} (h : IsS36 w0 W g f0 f1 f2 f3 f4 f5) (hk : KeepBut W W1 g1 none) (hne : g ≠ g1) : IsS36 w0 W1 g f0 f1 f2 f3 f4 f5 := by
  obtain ⟨hb, hg⟩ := h
  exact ⟨hk.blk hb hne (by simp), hg⟩
theorem IsS36.lower {w0 W : World} {g : Nat} {f0 : ByteArray} {f1 : Int} {f2 : Int} {f3 : Int} {f4 : ByteArray} {f5 : Int} {w1 : World} (h : IsS36 w0 W g f0 f1 f2 f3 f4 f5) (hle : w1.heap.size ≤ w0.heap.size) : IsS36 w1 W g f0 f1 f2 f3 f4 f5 := by
  obtain ⟨hb, hg⟩ := h
  exact ⟨hb, Nat.le_trans hle hg⟩
theorem IsS36.lt {w0 W : World} {g : Nat} {f0 : ByteArray} {f1 : Int} {f2 : Int} {f3 : Int} {f4 : ByteArray} {f5 : Int} (h : IsS36 w0 W g f0 f1 f2 f3 f4 f5) : g < W.heap.size := by
  obtain ⟨hb, hg⟩ := h
  exact blk_lt hb
theorem IsS36.ge {w0 W : World} {g : Nat} {f0 : ByteArray} {f1 : Int} {f2 : Int} {f3 : Int} {f4 : ByteArray} {f5 : Int} (h : IsS36 w0 W g f0 f1 f2 f3 f4 f5) : w0.heap.size ≤ g := by
  obtain ⟨hb, hg⟩ := h
  exact hg
theorem IsS36.ne_blk {w0 W : World} {g : Nat} {f0 : ByteArray} {f1 : Int} {f2 : Int} {f3 : Int} {f4 : ByteArray} {f5 : Int} {a : Nat} {cs : Array Value} {t : TypeId} {fr : Nat × Nat} (h : IsS36 w0 W g f0 f1 f2 f3 f4 f5) (hb2 : W.heap[a]? = some (.cells cs t fr)) (ht : t ≠ 36) : g ≠ a := by
  obtain ⟨hb, hg⟩ := h
  rintro rfl
  rw [hb] at hb2
  injection hb2 with hb2
  injection hb2 with _ ht2
  exact ht ht2.symm
theorem IsS36.far {w0 W : World} {g : Nat} {f0 : ByteArray} {f1 : Int} {f2 : Int} {f3 : Int} {f4 : ByteArray} {f5 : Int} {p : Addr} (h : IsS36 w0 W g f0 f1 f2 f3 f4 f5) (hne : g ≠ p.block) (u : Value) : IsS36 w0 (W.setCell p u) g f0 f1 f2 f3 f4 f5 := by
  obtain ⟨hb, hg⟩ := h
  exact ⟨blk_far hb hne u, hg⟩
theorem cellS36_0 {W : World} {g : Nat} {f0 : ByteArray} {f1 : Int} {f2 : Int} {f3 : Int} {f4 : ByteArray} {f5 : Int} (h : W.heap[g]? = some (.cells #[.string f0, .int .u8 f1, .int .u8 f2, .int .u8 f3, .string f4, .int .i64 f5] 36 (0, 0))) : W.cell? ⟨g, 0, none⟩ = some (.string f0) := (blk_cell h 0).trans rfl
theorem IsS36.set_0 {w0 W : World} {g : Nat} {f0 : ByteArray} {f1 : Int} {f2 : Int} {f3 : Int} {f4 : ByteArray} {f5 : Int} (h : IsS36 w0 W g f0 f1 f2 f3 f4 f5) (x : ByteArray) : IsS36 w0 (W.setCell ⟨g, 0, none⟩ (.string x)) g x f1 f2 f3 f4 f5 := by
  obtain ⟨hb, hg⟩ := h
  exact ⟨by simpa using blk_set hb 0 (.string x), hg⟩
theorem cellS36_1 {W : World} {g : Nat} {f0 : ByteArray} {f1 : Int} {f2 : Int} {f3 : Int} {f4 : ByteArray} {f5 : Int} (h : W.heap[g]? = some (.cells #[.string f0, .int .u8 f1, .int .u8 f2, .int .u8 f3, .string f4, .int .i64 f5] 36 (0, 0))) : W.cell? ⟨g, 1, none⟩ = some (.int .u8 f1) := (blk_cell h 1).trans rfl
theorem IsS36.set_1 {w0 W : World} {g : Nat} {f0 : ByteArray} {f1 : Int} {f2 : Int} {f3 : Int} {f4 : ByteArray} {f5 : Int} (h : IsS36 w0 W g f0 f1 f2 f3 f4 f5) (x : Int) : IsS36 w0 (W.setCell ⟨g, 1, none⟩ (.int .u8 x)) g f0 x f2 f3 f4 f5 := by
  obtain ⟨hb, hg⟩ := h
  exact ⟨by simpa using blk_set hb 1 (.int .u8 x), hg⟩
theorem cellS36_2 {W : World} {g : Nat} {f0 : ByteArray} {f1 : Int} {f2 : Int} {f3 : Int} {f4 : ByteArray} {f5 : Int} (h : W.heap[g]? = some (.cells #[.string f0, .int .u8 f1, .int .u8 f2, .int .u8 f3, .string f4, .int .i64 f5] 36 (0, 0))) : W.cell? ⟨g, 2, none⟩ = some (.int .u8 f2) := (blk_cell h 2).trans rfl
theorem IsS36.set_2 {w0 W : World} {g : Nat} {f0 : ByteArray} {f1 : Int} {f2 : Int} {f3 : Int} {f4 : ByteArray} {f5 : Int} (h : IsS36 w0 W g f0 f1 f2 f3 f4 f5) (x : Int) : IsS36 w0 (W.setCell ⟨g, 2, none⟩ (.int .u8 x)) g f0 f1 x f3 f4 f5 := by
  obtain ⟨hb, hg⟩ := h
  exact ⟨by simpa using blk_set hb 2 (.int .u8 x), hg⟩
theorem cellS36_3 {W : World} {g : Nat} {f0 : ByteArray} {f1 : Int} {f2 : Int} {f3 : Int} {f4 : ByteArray} {f5 : Int} (h : W.heap[g]? = some (.cells #[.string f0, .int .u8 f1, .int .u8 f2, .int .u8 f3, .string f4, .int .i64 f5] 36 (0, 0))) : W.cell? ⟨g, 3, none⟩ = some (.int .u8 f3) := (blk_cell h 3).trans rfl
theorem IsS36.set_3 {w0 W : World} {g : Nat} {f0 : ByteArray} {f1 : Int} {f2 : Int} {f3 : Int} {f4 : ByteArray} {f5 : Int} (h : IsS36 w0 W g f0 f1 f2 f3 f4 f5) (x : Int) : IsS36 w0 (W.setCell ⟨g, 3, none⟩ (.int .u8 x)) g f0 f1 f2 x f4 f5 := by
  obtain ⟨hb, hg⟩ := h
  exact ⟨by simpa using blk_set hb 3 (.int .u8 x), hg⟩
theorem cellS36_4 {W : World} {g : Nat} {f0 : ByteArray} {f1 : Int} {f2 : Int} {f3 : Int} {f4 : ByteArray} {f5 : Int} (h : W.heap[g]? = some (.cells #[.string f0, .int .u8 f1, .int .u8 f2, .int .u8 f3, .string f4, .int .i64 f5] 36 (0, 0))) : W.cell? ⟨g, 4, none⟩ = some (.string f4) := (blk_cell h 4).trans rfl
theorem IsS36.set_4 {w0 W : World} {g : Nat} {f0 : ByteArray} {f1 : Int} {f2 : Int} {f3 : Int} {f4 : ByteArray} {f5 : Int} (h : IsS36 w0 W g f0 f1 f2 f3 f4 f5) (x : ByteArray) : IsS36 w0 (W.setCell ⟨g, 4, none⟩ (.string x)) g f0 f1 f2 f3 x f5 := by
  obtain ⟨hb, hg⟩ := h
  exact ⟨by simpa using blk_set hb 4 (.string x), hg⟩
theorem cellS36_5 {W : World} {g : Nat} {f0 : ByteArray} {f1 : Int} {f2 : Int} {f3 : Int} {f4 : ByteArray} {f5 : Int} (h : W.heap[g]? = some (.cells #[.string f0, .int .u8 f1, .int .u8 f2, .int .u8 f3, .string f4, .int .i64 f5] 36 (0, 0))) : W.cell? ⟨g, 5, none⟩ = some (.int .i64 f5) := (blk_cell h 5).trans rfl
theorem IsS36.set_5 {w0 W : World} {g : Nat} {f0 : ByteArray} {f1 : Int} {f2 : Int} {f3 : Int} {f4 : ByteArray} {f5 : Int} (h : IsS36 w0 W g f0 f1 f2 f3 f4 f5) (x : Int) : IsS36 w0 (W.setCell ⟨g, 5, none⟩ (.int .i64 x)) g f0 f1 f2 f3 f4 x := by
  obtain ⟨hb, hg⟩ := h
  exact ⟨by simpa using blk_set hb 5 (.int .i64 x), hg⟩
theorem IsS36.new (w0 W : World) (f0 : ByteArray) (f1 : Int) (f2 : Int) (f3 : Int) (f4 : ByteArray) (f5 : Int) (hB : Below w0.heap.size w0 W) : IsS36 w0 (W.alloc (.cells #[.string f0, .int .u8 f1, .int .u8 f2, .int .u8 f3, .string f4, .int .i64 f5] 36)) W.heap.size f0 f1 f2 f3 f4 f5 := ⟨by simpa using heap_alloc_new W _, hB.size⟩

/-! ### frame_Frame_content: function 59 -/
mutual
def frame_Frame_content.j0 : Nat → Int → ByteArray → Int → Int → Int → ByteArray → Int → ByteArray → Int → Int → Int → Int → Option (Int × Int × ByteArray × Int × Int × Int × ByteArray × Int)
  | 0, _, _, _, _, _, _, _, _, _, _, _, _ => none
  | k + 1, x1, x1000, x1001, x1002, x1003, x1004, x1005, x278000, x278001, x278002, x278003, x278004 => (octet_In_At.f x278000 x278001 x278002 x278003 x278004).bind fun bt285 => ((frame_Head_Measured.f x1000 x1001 x1002 x1).bind fun t291 => (if t291 = true then ((octet_In_Safe.f bt285.2.1 bt285.2.2.1 bt285.2.2.2.1 bt285.2.2.2.2.1 bt285.2.2.2.2.2).bind fun bt292 => (frame_Frame_content.j1 k x1 bt285.1 bt292.1 x1000 x1001 x1002 x1003 x1004 x1005 bt292.2.1 bt292.2.2.1 bt292.2.2.2.1 bt292.2.2.2.2.1 bt292.2.2.2.2.2)) else (frame_Frame_content.j1 k x1 bt285.1 (-1) x1000 x1001 x1002 x1003 x1004 x1005 bt285.2.1 bt285.2.2.1 bt285.2.2.2.1 bt285.2.2.2.2.1 bt285.2.2.2.2.2)))
def frame_Frame_content.j1 : Nat → Int → Int → Int → ByteArray → Int → Int → Int → ByteArray → Int → ByteArray → Int → Int → Int → Int → Option (Int × Int × ByteArray × Int × Int × Int × ByteArray × Int)
  | 0, _, _, _, _, _, _, _, _, _, _, _, _, _, _ => none
  | k + 1, x1, x10, x11, x1000, x1001, x1002, x1003, x1004, x1005, x278000, x278001, x278002, x278003, x278004 => (octet_In_Rest.f x278000 x278001 x278002 x278003 x278004).bind fun bt298 => ((frame_Head_Spread.f x1000 x1001 x1002 x1).bind fun t304 => (if t304 = true then ((unsync_Drop.f bt298.1).bind fun t305 => (frame_Frame_content.j2 k x10 x11 x1000 x1001 x1002 x1003 t305 x1005 bt298.2.1 bt298.2.2.1 bt298.2.2.2.1 bt298.2.2.2.2.1 bt298.2.2.2.2.2)) else (frame_Frame_content.j2 k x10 x11 x1000 x1001 x1002 x1003 bt298.1 x1005 bt298.2.1 bt298.2.2.1 bt298.2.2.2.1 bt298.2.2.2.2.1 bt298.2.2.2.2.2)))
def frame_Frame_content.j2 : Nat → Int → Int → ByteArray → Int → Int → Int → ByteArray → Int → ByteArray → Int → Int → Int → Int → Option (Int × Int × ByteArray × Int × Int × Int × ByteArray × Int)
  | 0, _, _, _, _, _, _, _, _, _, _, _, _, _ => none
  | k + 1, x10, x11, x1000, x1001, x1002, x1003, x1004, x1005, x278000, x278001, x278002, x278003, x278004 => if x11 ≥ 0 then (frame_Frame_content.j3 k x10 (x11 != (x1004.size : Int)) x1000 x1001 x1002 x1003 x1004 x1005 x278000 x278001 x278002 x278003 x278004) else (frame_Frame_content.j3 k x10 false x1000 x1001 x1002 x1003 x1004 x1005 x278000 x278001 x278002 x278003 x278004)
def frame_Frame_content.j3 : Nat → Int → Bool → ByteArray → Int → Int → Int → ByteArray → Int → ByteArray → Int → Int → Int → Int → Option (Int × Int × ByteArray × Int × Int × Int × ByteArray × Int)
  | 0, _, _, _, _, _, _, _, _, _, _, _, _, _ => none
  | k + 1, x10, x66, x1000, x1001, x1002, x1003, x1004, x1005, x278000, x278001, x278002, x278003, x278004 => if x66 = true then ((octet_In_Fail.f x278000 x278001 x278002 x278003 x278004 1 x10).bind fun bt306 => ((octet_In_Fault.f bt306.1 bt306.2.1 bt306.2.2.1 bt306.2.2.2.1 bt306.2.2.2.2).bind fun bt311 => (some (bt311.1, bt311.2.1, x1000, x1001, x1002, x1003, x1004, x1005)))) else ((octet_In_Fault.f x278000 x278001 x278002 x278003 x278004).bind fun bt318 => (some (bt318.1, bt318.2.1, x1000, x1001, x1002, x1003, x1004, x1005)))
end
def frame_Frame_content.f (k : Nat) (s0_0 : ByteArray) (s0_1 : Int) (s0_2 : Int) (s0_3 : Int) (s0_4 : ByteArray) (s0_5 : Int) (a1 : Int) (a2 : ByteArray) (a3 : Int) : Option (Int × Int × ByteArray × Int × Int × Int × ByteArray × Int) := (octet_Inner.f a2 a3).bind fun bt272 => ((frame_Head_Grouped.f s0_0 s0_1 s0_2 a1).bind fun t278 => (if t278 = true then ((octet_In_Big.f bt272.1 bt272.2.1 bt272.2.2.1 bt272.2.2.2.1 bt272.2.2.2.2 1).bind fun bt279 => (frame_Frame_content.j0 k a1 s0_0 s0_1 s0_2 ((bt279.1) % 256) s0_4 s0_5 bt279.2.1 bt279.2.2.1 bt279.2.2.2.1 bt279.2.2.2.2.1 bt279.2.2.2.2.2)) else (frame_Frame_content.j0 k a1 s0_0 s0_1 s0_2 s0_3 s0_4 s0_5 bt272.1 bt272.2.1 bt272.2.2.1 bt272.2.2.2.1 bt272.2.2.2.2)))
theorem frame_Frame_content.mono_l : ∀ k, (∀ y0 y1 y2 y3 y4 y5 y6 y7 y8 y9 y10 y11, LeO (frame_Frame_content.j0 k y0 y1 y2 y3 y4 y5 y6 y7 y8 y9 y10 y11) (frame_Frame_content.j0 (k + 1) y0 y1 y2 y3 y4 y5 y6 y7 y8 y9 y10 y11)) ∧ (∀ y0 y1 y2 y3 y4 y5 y6 y7 y8 y9 y10 y11 y12 y13, LeO (frame_Frame_content.j1 k y0 y1 y2 y3 y4 y5 y6 y7 y8 y9 y10 y11 y12 y13) (frame_Frame_content.j1 (k + 1) y0 y1 y2 y3 y4 y5 y6 y7 y8 y9 y10 y11 y12 y13)) ∧ (∀ y0 y1 y2 y3 y4 y5 y6 y7 y8 y9 y10 y11 y12, LeO (frame_Frame_content.j2 k y0 y1 y2 y3 y4 y5 y6 y7 y8 y9 y10 y11 y12) (frame_Frame_content.j2 (k + 1) y0 y1 y2 y3 y4 y5 y6 y7 y8 y9 y10 y11 y12)) ∧ (∀ y0 y1 y2 y3 y4 y5 y6 y7 y8 y9 y10 y11 y12, LeO (frame_Frame_content.j3 k y0 y1 y2 y3 y4 y5 y6 y7 y8 y9 y10 y11 y12) (frame_Frame_content.j3 (k + 1) y0 y1 y2 y3 y4 y5 y6 y7 y8 y9 y10 y11 y12))
  | 0 => ⟨fun _ _ _ _ _ _ _ _ _ _ _ _ r h => by simp [frame_Frame_content.j0] at h, fun _ _ _ _ _ _ _ _ _ _ _ _ _ _ r h => by simp [frame_Frame_content.j1] at h, fun _ _ _ _ _ _ _ _ _ _ _ _ _ r h => by simp [frame_Frame_content.j2] at h, fun _ _ _ _ _ _ _ _ _ _ _ _ _ r h => by simp [frame_Frame_content.j3] at h⟩
  | k + 1 => by
    obtain ⟨ih0, ih1, ih2, ih3⟩ := frame_Frame_content.mono_l k
    refine ⟨?_, ?_, ?_, ?_⟩
    · intro y0 y1 y2 y3 y4 y5 y6 y7 y8 y9 y10 y11
      unfold frame_Frame_content.j0
      repeat' first
      | (with_reducible exact ih0 _ _ _ _ _ _ _ _ _ _ _ _)
      | (with_reducible exact ih1 _ _ _ _ _ _ _ _ _ _ _ _ _ _)
      | (with_reducible exact ih2 _ _ _ _ _ _ _ _ _ _ _ _ _)
      | (with_reducible exact ih3 _ _ _ _ _ _ _ _ _ _ _ _ _)
      | (with_reducible exact LeO.refl _)
      | (with_reducible exact LeO.none _)
      | (with_reducible refine LeO.ite ?_ ?_)
      | (with_reducible refine LeO.bind ?_ (fun _ => ?_))
      | exact ih0 _ _ _ _ _ _ _ _ _ _ _ _
      | exact ih1 _ _ _ _ _ _ _ _ _ _ _ _ _ _
      | exact ih2 _ _ _ _ _ _ _ _ _ _ _ _ _
      | exact ih3 _ _ _ _ _ _ _ _ _ _ _ _ _
      | exact LeO.none _
      | refine LeO.ite ?_ ?_
      | refine LeO.bind ?_ (fun _ => ?_)
    · intro y0 y1 y2 y3 y4 y5 y6 y7 y8 y9 y10 y11 y12 y13
      unfold frame_Frame_content.j1
      repeat' first
      | (with_reducible exact ih0 _ _ _ _ _ _ _ _ _ _ _ _)
      | (with_reducible exact ih1 _ _ _ _ _ _ _ _ _ _ _ _ _ _)
      | (with_reducible exact ih2 _ _ _ _ _ _ _ _ _ _ _ _ _)
      | (with_reducible exact ih3 _ _ _ _ _ _ _ _ _ _ _ _ _)
      | (with_reducible exact LeO.refl _)
      | (with_reducible exact LeO.none _)
      | (with_reducible refine LeO.ite ?_ ?_)
      | (with_reducible refine LeO.bind ?_ (fun _ => ?_))
      | exact ih0 _ _ _ _ _ _ _ _ _ _ _ _
      | exact ih1 _ _ _ _ _ _ _ _ _ _ _ _ _ _
      | exact ih2 _ _ _ _ _ _ _ _ _ _ _ _ _
      | exact ih3 _ _ _ _ _ _ _ _ _ _ _ _ _
      | exact LeO.none _
      | refine LeO.ite ?_ ?_
      | refine LeO.bind ?_ (fun _ => ?_)
    · intro y0 y1 y2 y3 y4 y5 y6 y7 y8 y9 y10 y11 y12
      unfold frame_Frame_content.j2
      repeat' first
      | (with_reducible exact ih0 _ _ _ _ _ _ _ _ _ _ _ _)
      | (with_reducible exact ih1 _ _ _ _ _ _ _ _ _ _ _ _ _ _)
      | (with_reducible exact ih2 _ _ _ _ _ _ _ _ _ _ _ _ _)
      | (with_reducible exact ih3 _ _ _ _ _ _ _ _ _ _ _ _ _)
      | (with_reducible exact LeO.refl _)
      | (with_reducible exact LeO.none _)
      | (with_reducible refine LeO.ite ?_ ?_)
      | (with_reducible refine LeO.bind ?_ (fun _ => ?_))
      | exact ih0 _ _ _ _ _ _ _ _ _ _ _ _
      | exact ih1 _ _ _ _ _ _ _ _ _ _ _ _ _ _
      | exact ih2 _ _ _ _ _ _ _ _ _ _ _ _ _
      | exact ih3 _ _ _ _ _ _ _ _ _ _ _ _ _
      | exact LeO.none _
      | refine LeO.ite ?_ ?_
      | refine LeO.bind ?_ (fun _ => ?_)
    · intro y0 y1 y2 y3 y4 y5 y6 y7 y8 y9 y10 y11 y12
      unfold frame_Frame_content.j3
      repeat' first
      | (with_reducible exact ih0 _ _ _ _ _ _ _ _ _ _ _ _)
      | (with_reducible exact ih1 _ _ _ _ _ _ _ _ _ _ _ _ _ _)
      | (with_reducible exact ih2 _ _ _ _ _ _ _ _ _ _ _ _ _)
      | (with_reducible exact ih3 _ _ _ _ _ _ _ _ _ _ _ _ _)
      | (with_reducible exact LeO.refl _)
      | (with_reducible exact LeO.none _)
      | (with_reducible refine LeO.ite ?_ ?_)
      | (with_reducible refine LeO.bind ?_ (fun _ => ?_))
      | exact ih0 _ _ _ _ _ _ _ _ _ _ _ _
      | exact ih1 _ _ _ _ _ _ _ _ _ _ _ _ _ _
      | exact ih2 _ _ _ _ _ _ _ _ _ _ _ _ _
      | exact ih3 _ _ _ _ _ _ _ _ _ _ _ _ _
      | exact LeO.none _
      | refine LeO.ite ?_ ?_
      | refine LeO.bind ?_ (fun _ => ?_)
theorem frame_Frame_content.mono : ∀ a0 a1 a2 a3 a4 a5 a6 a7 a8 k, LeO (frame_Frame_content.f k a0 a1 a2 a3 a4 a5 a6 a7 a8) (frame_Frame_content.f (k + 1) a0 a1 a2 a3 a4 a5 a6 a7 a8) := by
  intro a0 a1 a2 a3 a4 a5 a6 a7 a8 k
  obtain ⟨ih0, ih1, ih2, ih3⟩ := frame_Frame_content.mono_l k
  unfold frame_Frame_content.f
  repeat' first
      | (with_reducible exact ih0 _ _ _ _ _ _ _ _ _ _ _ _)
      | (with_reducible exact ih1 _ _ _ _ _ _ _ _ _ _ _ _ _ _)
      | (with_reducible exact ih2 _ _ _ _ _ _ _ _ _ _ _ _ _)
      | (with_reducible exact ih3 _ _ _ _ _ _ _ _ _ _ _ _ _)
      | (with_reducible exact LeO.refl _)
      | (with_reducible exact LeO.none _)
      | (with_reducible refine LeO.ite ?_ ?_)
      | (with_reducible refine LeO.bind ?_ (fun _ => ?_))
      | exact ih0 _ _ _ _ _ _ _ _ _ _ _ _
      | exact ih1 _ _ _ _ _ _ _ _ _ _ _ _ _ _
      | exact ih2 _ _ _ _ _ _ _ _ _ _ _ _ _
      | exact ih3 _ _ _ _ _ _ _ _ _ _ _ _ _
      | exact LeO.none _
      | refine LeO.ite ?_ ?_
      | refine LeO.bind ?_ (fun _ => ?_)
set_option maxHeartbeats 8000000 in
set_option maxRecDepth 100000 in
theorem frame_Frame_content.calls (k : Nat) (g : Nat) (s0_0 : ByteArray) (s0_1 : Int) (s0_2 : Int) (s0_3 : Int) (s0_4 : ByteArray) (s0_5 : Int) (a1 : Int) (a2 : ByteArray) (a3 : Int) (r1 : Int) (r2 : Int) (r3 : ByteArray) (r4 : Int) (r5 : Int) (r6 : Int) (r7 : ByteArray) (r8 : Int) (w0 w : World) (hI : IsS36 w0 w g s0_0 s0_1 s0_2 s0_3 s0_4 s0_5) (hB : Below w0.heap.size w0 w) (hG : GM w0) (h : frame_Frame_content.f k s0_0 s0_1 s0_2 s0_3 s0_4 s0_5 a1 a2 a3 = some (r1, r2, r3, r4, r5, r6, r7, r8)) :
    Calls Tryd.prog 59 #[.pointer (some ⟨g, 0, none⟩), .int .i64 a1, .string a2, .int .i64 a3] w fun e w' => e = .returned (.agg #[.int .i64 r1, .int .i64 r2]) ∧ IsS36 w0 w' g r3 r4 r5 r6 r7 r8 ∧ Below w0.heap.size w0 w' ∧ KeepBut w w' g none := by
  have hu39 := Tryd.underlying39
  have hu29 := Tryd.underlying29
  have HI0 := Aside0.mk hI
  have HK := Aside0.mk (KeepBut.refl w g none)
  have HL := Aside0.mk hB.size
  clear hI
  have HW0 := Aside0.mk hB.size
  have HB := Aside0.mk hB
  clear hB
  have HG := Aside0.mk hG
  clear hG
  have H : ((octet_Inner.f a2 a3).bind fun bt272 => ((frame_Head_Grouped.f s0_0 s0_1 s0_2 a1).bind fun t278 => (if t278 = true then ((octet_In_Big.f bt272.1 bt272.2.1 bt272.2.2.1 bt272.2.2.2.1 bt272.2.2.2.2 1).bind fun bt279 => (frame_Frame_content.j0 k a1 s0_0 s0_1 s0_2 ((bt279.1) % 256) s0_4 s0_5 bt279.2.1 bt279.2.2.1 bt279.2.2.2.1 bt279.2.2.2.2.1 bt279.2.2.2.2.2)) else (frame_Frame_content.j0 k a1 s0_0 s0_1 s0_2 s0_3 s0_4 s0_5 bt272.1 bt272.2.1 bt272.2.2.1 bt272.2.2.2.1 bt272.2.2.2.2)))) = some (r1, r2, r3, r4, r5, r6, r7, r8) := h
  clear h
  replace H := Option.bind_eq_some_iff.mp H
  obtain ⟨⟨t272, t273, t274, t275, t276⟩, A50, H⟩ := H
  replace H : ((frame_Head_Grouped.f s0_0 s0_1 s0_2 a1).bind fun t278 => (if t278 = true then ((octet_In_Big.f t272 t273 t274 t275 t276 1).bind fun bt279 => (frame_Frame_content.j0 k a1 s0_0 s0_1 s0_2 ((bt279.1) % 256) s0_4 s0_5 bt279.2.1 bt279.2.2.1 bt279.2.2.2.1 bt279.2.2.2.2.1 bt279.2.2.2.2.2)) else (frame_Frame_content.j0 k a1 s0_0 s0_1 s0_2 s0_3 s0_4 s0_5 t272 t273 t274 t275 t276))) = some (r1, r2, r3, r4, r5, r6, r7, r8) := H
  have A5 := Aside0.mk A50
  clear A50
  replace H := Option.bind_eq_some_iff.mp H
  obtain ⟨t278, A60, H⟩ := H
  replace H : (if t278 = true then ((octet_In_Big.f t272 t273 t274 t275 t276 1).bind fun bt279 => (frame_Frame_content.j0 k a1 s0_0 s0_1 s0_2 ((bt279.1) % 256) s0_4 s0_5 bt279.2.1 bt279.2.2.1 bt279.2.2.2.1 bt279.2.2.2.2.1 bt279.2.2.2.2.2)) else (frame_Frame_content.j0 k a1 s0_0 s0_1 s0_2 s0_3 s0_4 s0_5 t272 t273 t274 t275 t276)) = some (r1, r2, r3, r4, r5, r6, r7, r8) := H
  have A6 := Aside0.mk A60
  clear A60
  have HC7 := Aside0.mk H
  clear H
  go_enter Tryd.func59, Tryd.ntmps59
  go_upto_if 20 with (first | ((with_reducible refine gate_dst (N := 8) rfl ?_); (try (refine gate_guard (by rfl) ?_; dsimp only)); refine box_event ?hg (N := 8) ?hd (cs := #[.int .i64 0, .int .i64 0]) (t := 39) ?hr ?_; (case hd => rfl); (case hg => rfl); (case hr => first | (go_simp; done) | (go_simp; rfl)); intro gb271 hg w8 hbox hb; have n0_ := Aside0.mk (IsS36.below (by repeat (first | (with_reducible first | exact HI0.out | apply IsS36.alloc | apply IsS36.drewN | apply IsS36.drew | apply IsS36.set_0 | apply IsS36.set_1 | apply IsS36.set_2 | apply IsS36.set_3 | apply IsS36.set_4 | apply IsS36.set_5) | exact HI0.out)) hb); have n1_ := Aside0.mk (KeepBut.trans q_46 (KeepBut.of_below hb g none) (.inl rfl)); have n2_ := Aside0.mk (below_step (by repeat (first | (with_reducible first | exact HB.out | apply below_alloc | apply pw_below_drewN | apply below_drew1 | refine below_set ?_ (IsS36.ge HI0.out)) | exact HB.out)) hb); have n3_ := Aside0.mk (hbox); have n4_ := Aside0.mk ((q_141 : w.heap.size ≤ gb271)); have n5_ := Aside0.mk ((Nat.le_trans HW0.out (q_141 : w.heap.size ≤ gb271) : w0.heap.size ≤ gb271)); have n6_ := Aside0.mk ((by rw [hg]; exact Nat.ne_of_lt (IsS36.lt (show IsS36 w0 _ g s0_0 s0_1 s0_2 s0_3 s0_4 s0_5 from by repeat (first | (with_reducible first | exact HI0.out | apply IsS36.alloc | apply IsS36.drewN | apply IsS36.drew | apply IsS36.set_0 | apply IsS36.set_1 | apply IsS36.set_2 | apply IsS36.set_3 | apply IsS36.set_4 | apply IsS36.set_5) | exact HI0.out))) : g ≠ gb271)); have n7_ := Aside0.mk ((by rw [hg]; exact Nat.ne_of_gt (IsS36.lt (show IsS36 w0 _ g s0_0 s0_1 s0_2 s0_3 s0_4 s0_5 from by repeat (first | (with_reducible first | exact HI0.out | apply IsS36.alloc | apply IsS36.drewN | apply IsS36.drew | apply IsS36.set_0 | apply IsS36.set_1 | apply IsS36.set_2 | apply IsS36.set_3 | apply IsS36.set_4 | apply IsS36.set_5) | exact HI0.out))) : gb271 ≠ g)); clear HI0; clear HK; clear HB; have HI0 := n0_; have HK := n1_; have HB := n2_; have BK271 := n3_; have GW271 := n4_; have GE271 := n5_; have NB0_271 := n6_; have NB271_0 := n7_; clear n0_ n1_ n2_ n3_ n4_ n5_ n6_ n7_; clear hb hbox hg) | ((with_reducible refine gate_callee (f := 40) rfl ?_); refine goesL_ (some 14) rfl rfl Tryd.func40 (by kernel_rfl) rfl #[.string a2, .int .i64 a3] rfl q_7 ?_; (with_reducible refine (octet_Inner.calls a2 a3 t272 t273 t274 t275 t276 _ _ (Below.refl _ _) A5.out).mono ?_); rintro e w9 ⟨g277, rfl, hi, hb, hb2⟩; refine ⟨_, rfl, ?_⟩; have n0_ := Aside0.mk (IsS36.below q_48 hb2); have n1_ := Aside0.mk (blk_below (g := gb271) (o := .cells #[.int .i64 0, .int .i64 0] 39 (0, 0)) q_49 hb2); have n2_ := Aside0.mk (below_step (by repeat (first | (with_reducible first | exact HB.out | apply below_alloc | apply pw_below_drewN | apply below_drew1 | refine below_set ?_ (IsS36.ge HI0.out) | refine below_set ?_ GE271.out) | exact HB.out)) hb2); have n3_ := Aside0.mk (IsS70.lower hi (below_size (by repeat (first | (with_reducible first | exact HB.out | apply below_alloc | apply pw_below_drewN | apply below_drew1 | refine below_set ?_ (IsS36.ge HI0.out) | refine below_set ?_ GE271.out) | exact HB.out)))); have n4_ := Aside0.mk (KeepBut.trans (by repeat (first | (with_reducible first | exact HK.out | apply KeepBut.set_ | apply keep_drewN | apply keep_drew | apply keep_alloc | refine keep_far ?_ GW271.out _) | exact HK.out)) (KeepBut.of_below hb2 g none) (.inl rfl)); have n5_ := Aside0.mk ((Nat.le_trans ((keep_size (w := w) (g := g) (row := none) (by repeat (first | (with_reducible first | exact HK.out | apply KeepBut.set_ | apply keep_drewN | apply keep_drew | apply keep_alloc | refine keep_far ?_ GW271.out _) | exact HK.out)))) (IsS70.ge hi) : w.heap.size ≤ g277)); have n6_ := Aside0.mk ((Nat.ne_of_lt (Nat.lt_of_lt_of_le (IsS36.lt q_48) (IsS70.ge hi)) : g ≠ g277)); have n7_ := Aside0.mk ((Nat.ne_of_gt (Nat.lt_of_lt_of_le (IsS36.lt q_48) (IsS70.ge hi)) : g277 ≠ g)); have n8_ := Aside0.mk (IsS70.ne_blk hi (blk_below (g := gb271) (o := .cells #[.int .i64 0, .int .i64 0] 39 (0, 0)) q_49 hb2) (by decide)); have n9_ := Aside0.mk (Ne.symm (IsS70.ne_blk hi (blk_below (g := gb271) (o := .cells #[.int .i64 0, .int .i64 0] 39 (0, 0)) q_49 hb2) (by decide))); clear HI0; clear BK271; clear HB; clear HK; have HI0 := n0_; have BK271 := n1_; have HB := n2_; have HI277 := n3_; have HK := n4_; have GS277 := n5_; have NB0_277 := n6_; have NB277_0 := n7_; have NB277_271 := n8_; have NB271_277 := n9_; clear n0_ n1_ n2_ n3_ n4_ n5_ n6_ n7_ n8_ n9_; (try clear hb); (try clear hb2); (try clear hk); (try clear hi); obtain ⟨HGz10, hgz10⟩ := HI0.out; have hcz10_0 := cellS36_0 HGz10; have hcz10_1 := cellS36_1 HGz10; have hcz10_2 := cellS36_2 HGz10; have hcz10_3 := cellS36_3 HGz10; have hcz10_4 := cellS36_4 HGz10; have hcz10_5 := cellS36_5 HGz10; have hfz10_0 := blk_frozen HGz10 0; have hfz10_1 := blk_frozen HGz10 1; have hfz10_2 := blk_frozen HGz10 2; have hfz10_3 := blk_frozen HGz10 3; have hfz10_4 := blk_frozen HGz10 4; have hfz10_5 := blk_frozen HGz10 5; clear HGz10 hgz10) | ((with_reducible refine gate_callee (f := 21) rfl ?_); refine goesL_ (some 20) rfl rfl Tryd.func21 (by kernel_rfl) rfl #[.agg #[.string s0_0, .int .u8 s0_1, .int .u8 s0_2], .int .i64 a1] rfl q_7 ?_; (with_reducible refine (frame_Head_Grouped.calls s0_0 s0_1 s0_2 a1 t278 _ A6.out).mono ?_); rintro e w11 ⟨rfl, hb⟩; refine ⟨_, rfl, ?_⟩; have n0_ := Aside0.mk (IsS36.below q_50 hb); have n1_ := Aside0.mk (blk_below (g := gb271) (o := .cells #[.int .i64 0, .int .i64 0] 39 (0, 0)) q_49 hb); have n2_ := Aside0.mk (IsS70.below q_51 hb); have n3_ := Aside0.mk (KeepBut.trans q_52 (KeepBut.of_below hb g none) (.inl rfl)); have n4_ := Aside0.mk (below_step q_53 hb); clear HI0; clear BK271; clear HI277; clear HK; clear HB; have HI0 := n0_; have BK271 := n1_; have HI277 := n2_; have HK := n3_; have HB := n4_; clear n0_ n1_ n2_ n3_ n4_; (try clear hb); (try clear hb2); (try clear hk); (try clear hi)))
  (try simp only [Act.put, List.setIfInBounds_toArray, List.set_cons_zero, List.set_cons_succ])
  go_cut [] (fun wc => ∃ (kq : Nat) (x1003_6 : Int) (x278000_6 : ByteArray) (x278001_6 : Int) (x278002_6 : Int) (x278003_6 : Int) (x278004_6 : Int), Aside0 (frame_Frame_content.j0 kq a1 s0_0 s0_1 s0_2 x1003_6 s0_4 s0_5 x278000_6 x278001_6 x278002_6 x278003_6 x278004_6 = some (r1, r2, r3, r4, r5, r6, r7, r8)) ∧ Aside0 (kq ≤ k) ∧ Aside0 (wc.heap[gb271]? = some (.cells #[.int .i64 0, .int .i64 0] 39 (0, 0))) ∧ Aside0 (IsS36 w0 wc g s0_0 s0_1 s0_2 x1003_6 s0_4 s0_5) ∧ Aside0 (IsS70 w0 wc g277 x278000_6 x278001_6 x278002_6 x278003_6 x278004_6) ∧ Aside0 (KeepBut w wc g none) ∧ Aside0 (Below w0.heap.size w0 wc))
  case first =>
    have H := HC7.out
    clear HC7
    by_cases c12 : t278 = true
    · subst c12
      have H1 : ((octet_In_Big.f t272 t273 t274 t275 t276 1).bind fun bt279 => (frame_Frame_content.j0 k a1 s0_0 s0_1 s0_2 ((bt279.1) % 256) s0_4 s0_5 bt279.2.1 bt279.2.2.1 bt279.2.2.2.1 bt279.2.2.2.2.1 bt279.2.2.2.2.2)) = some (r1, r2, r3, r4, r5, r6, r7, r8) := by rw [if_pos rfl] at H; exact H
      clear H
      have H := H1
      clear H1
      replace H := Option.bind_eq_some_iff.mp H
      obtain ⟨⟨t279, t280, t281, t282, t283, t284⟩, A130, H⟩ := H
      replace H : (frame_Frame_content.j0 k a1 s0_0 s0_1 s0_2 ((t279) % 256) s0_4 s0_5 t280 t281 t282 t283 t284) = some (r1, r2, r3, r4, r5, r6, r7, r8) := H
      have A13 := Aside0.mk A130
      clear A130
      have H' := Aside0.mk H
      clear H
      go_wp2_with (first | ((with_reducible refine gate_callee (f := 57) rfl ?_); refine goesL_ (some 23) rfl rfl Tryd.func57 (by kernel_rfl) rfl #[.pointer (some ⟨g277, 0, none⟩), .int .i64 1] rfl q_7 ?_; (with_reducible refine (octet_In_Big.calls g277 t272 t273 t274 t275 t276 1 t279 t280 t281 t282 t283 t284 w0 _ ?side1 ?side2 A13.out).mono ?_); (case side1 => repeat (first | (with_reducible first | exact HI277.out | apply IsS70.alloc | apply IsS70.drewN | apply IsS70.drew | apply IsS70.set_0 | apply IsS70.set_1 | apply IsS70.set_2 | apply IsS70.set_3 | apply IsS70.set_4 | refine IsS70.far ?_ NB277_271.out _ | apply IsS70.far (hne := NB277_271.out) | refine IsS70.far ?_ NB277_0.out _ | apply IsS70.far (hne := NB277_0.out)) | exact HI277.out)); (case side2 => repeat (first | (with_reducible first | exact HB.out | apply below_alloc | apply pw_below_drewN | apply below_drew1 | refine below_set ?_ (IsS36.ge HI0.out) | refine below_set ?_ (IsS70.ge HI277.out) | refine below_set ?_ GE271.out) | exact HB.out)); rintro e w14 ⟨rfl, hi, hb, hk⟩; refine ⟨_, rfl, ?_⟩; have n0_ := Aside0.mk (IsS36.keep q_50 hk NB0_277.out); have n1_ := Aside0.mk (KeepBut.blk hk (g' := gb271) (o := .cells #[.int .i64 0, .int .i64 0] 39 (0, 0)) q_49 NB271_277.out (by simp)); have n2_ := Aside0.mk (keep_other_ q_52 hk GS277.out); have n3_ := Aside0.mk (hb); have n4_ := Aside0.mk (hi); clear HI0; clear BK271; clear HK; clear HB; clear HI277; have HI0 := n0_; have BK271 := n1_; have HK := n2_; have HB := n3_; have HI277 := n4_; clear n0_ n1_ n2_ n3_ n4_; (try clear hb); (try clear hb2); (try clear hk); (try clear hi); obtain ⟨HGz15, hgz15⟩ := HI0.out; have hcz15_0 := cellS36_0 HGz15; have hcz15_1 := cellS36_1 HGz15; have hcz15_2 := cellS36_2 HGz15; have hcz15_3 := cellS36_3 HGz15; have hcz15_4 := cellS36_4 HGz15; have hcz15_5 := cellS36_5 HGz15; have hfz15_0 := blk_frozen HGz15 0; have hfz15_1 := blk_frozen HGz15 1; have hfz15_2 := blk_frozen HGz15 2; have hfz15_3 := blk_frozen HGz15 3; have hfz15_4 := blk_frozen HGz15 4; have hfz15_5 := blk_frozen HGz15 5; clear HGz15 hgz15))
      go_meet
      case rel => exact ⟨_, ((t279) % 256), (t280), (t281), (t282), (t283), (t284), H', ⟨by first | omega | exact Nat.le_refl _⟩, ⟨q_54⟩, ⟨q_50⟩, ⟨q_51⟩, ⟨q_52⟩, ⟨q_53⟩⟩
    · replace c12 := Bool.eq_false_iff.mpr c12
      subst c12
      have H1 : (frame_Frame_content.j0 k a1 s0_0 s0_1 s0_2 s0_3 s0_4 s0_5 t272 t273 t274 t275 t276) = some (r1, r2, r3, r4, r5, r6, r7, r8) := by rw [if_neg (show ¬ (false = true) by decide)] at H; exact H
      clear H
      have H := H1
      clear H1
      have H' := Aside0.mk H
      clear H
      go_wp2
      go_meet
      case rel => exact ⟨_, (s0_3), (t272), (t273), (t274), (t275), (t276), H', ⟨by first | omega | exact Nat.le_refl _⟩, ⟨q_49⟩, ⟨q_50⟩, ⟨q_51⟩, ⟨q_52⟩, ⟨q_53⟩⟩
  case rest =>
    clear HC7
    try clear c1; try clear c2; try clear p2; try clear c4; try clear c5; try clear c12; try clear hcz10_0; try clear hcz10_1; try clear hcz10_2; try clear hcz10_3; try clear hcz10_4; try clear hcz10_5; try clear hcz15_0; try clear hcz15_1; try clear hcz15_2; try clear hcz15_3; try clear hcz15_4; try clear hcz15_5; try clear hfz10_0; try clear hfz10_1; try clear hfz10_2; try clear hfz10_3; try clear hfz10_4; try clear hfz10_5; try clear hfz15_0; try clear hfz15_1; try clear hfz15_2; try clear hfz15_3; try clear hfz15_4; try clear hfz15_5
    obtain ⟨kq, x1003_6, x278000_6, x278001_6, x278002_6, x278003_6, x278004_6, HA, HJ6, BK271, HI0, HI277, HK, HB⟩ := hcut
    cases kq with
    | zero => exact absurd HA.out (by simp [frame_Frame_content.j0])
    | succ kj6 =>
      have H := HA.out
      clear HA
      simp only [frame_Frame_content.j0] at H
      replace H := Option.bind_eq_some_iff.mp H
      obtain ⟨⟨t285, t286, t287, t288, t289, t290⟩, A160, H⟩ := H
      replace H : ((frame_Head_Measured.f s0_0 s0_1 s0_2 a1).bind fun t291 => (if t291 = true then ((octet_In_Safe.f t286 t287 t288 t289 t290).bind fun bt292 => (frame_Frame_content.j1 kj6 a1 t285 bt292.1 s0_0 s0_1 s0_2 x1003_6 s0_4 s0_5 bt292.2.1 bt292.2.2.1 bt292.2.2.2.1 bt292.2.2.2.2.1 bt292.2.2.2.2.2)) else (frame_Frame_content.j1 kj6 a1 t285 (-1) s0_0 s0_1 s0_2 x1003_6 s0_4 s0_5 t286 t287 t288 t289 t290))) = some (r1, r2, r3, r4, r5, r6, r7, r8) := H
      have A16 := Aside0.mk A160
      clear A160
      replace H := Option.bind_eq_some_iff.mp H
      obtain ⟨t291, A170, H⟩ := H
      replace H : (if t291 = true then ((octet_In_Safe.f t286 t287 t288 t289 t290).bind fun bt292 => (frame_Frame_content.j1 kj6 a1 t285 bt292.1 s0_0 s0_1 s0_2 x1003_6 s0_4 s0_5 bt292.2.1 bt292.2.2.1 bt292.2.2.2.1 bt292.2.2.2.2.1 bt292.2.2.2.2.2)) else (frame_Frame_content.j1 kj6 a1 t285 (-1) s0_0 s0_1 s0_2 x1003_6 s0_4 s0_5 t286 t287 t288 t289 t290)) = some (r1, r2, r3, r4, r5, r6, r7, r8) := H
      have A17 := Aside0.mk A170
      clear A170
      have HC18 := Aside0.mk H
      clear H
      go_upto_if 34 with (first | ((with_reducible refine gate_callee (f := 54) rfl ?_); refine goesL_ (some 28) rfl rfl Tryd.func54 (by kernel_rfl) rfl #[.pointer (some ⟨g277, 0, none⟩)] rfl q_7 ?_; (with_reducible refine (octet_In_At.calls g277 x278000_6 x278001_6 x278002_6 x278003_6 x278004_6 t285 t286 t287 t288 t289 t290 w0 _ ?side1 ?side2 A16.out).mono ?_); (case side1 => repeat (first | (with_reducible first | exact HI277.out | apply IsS70.alloc | apply IsS70.drewN | apply IsS70.drew | apply IsS70.set_0 | apply IsS70.set_1 | apply IsS70.set_2 | apply IsS70.set_3 | apply IsS70.set_4 | refine IsS70.far ?_ NB277_271.out _ | apply IsS70.far (hne := NB277_271.out) | refine IsS70.far ?_ NB277_0.out _ | apply IsS70.far (hne := NB277_0.out)) | exact HI277.out)); (case side2 => repeat (first | (with_reducible first | exact HB.out | apply below_alloc | apply pw_below_drewN | apply below_drew1 | refine below_set ?_ (IsS36.ge HI0.out) | refine below_set ?_ (IsS70.ge HI277.out) | refine below_set ?_ GE271.out) | exact HB.out)); rintro e w19 ⟨rfl, hi, hb, hk⟩; refine ⟨_, rfl, ?_⟩; have n0_ := Aside0.mk (KeepBut.blk hk (g' := gb271) (o := .cells #[.int .i64 0, .int .i64 0] 39 (0, 0)) q_49 NB271_277.out (by simp)); have n1_ := Aside0.mk (IsS36.keep q_50 hk NB0_277.out); have n2_ := Aside0.mk (keep_other_ q_52 hk GS277.out); have n3_ := Aside0.mk (hb); have n4_ := Aside0.mk (hi); clear BK271; clear HI0; clear HK; clear HB; clear HI277; have BK271 := n0_; have HI0 := n1_; have HK := n2_; have HB := n3_; have HI277 := n4_; clear n0_ n1_ n2_ n3_ n4_; (try clear hb); (try clear hb2); (try clear hk); (try clear hi); obtain ⟨HGz20, hgz20⟩ := HI0.out; have hcz20_0 := cellS36_0 HGz20; have hcz20_1 := cellS36_1 HGz20; have hcz20_2 := cellS36_2 HGz20; have hcz20_3 := cellS36_3 HGz20; have hcz20_4 := cellS36_4 HGz20; have hcz20_5 := cellS36_5 HGz20; have hfz20_0 := blk_frozen HGz20 0; have hfz20_1 := blk_frozen HGz20 1; have hfz20_2 := blk_frozen HGz20 2; have hfz20_3 := blk_frozen HGz20 3; have hfz20_4 := blk_frozen HGz20 4; have hfz20_5 := blk_frozen HGz20 5; clear HGz20 hgz20) | ((with_reducible refine gate_callee (f := 23) rfl ?_); refine goesL_ (some 34) rfl rfl Tryd.func23 (by kernel_rfl) rfl #[.agg #[.string s0_0, .int .u8 s0_1, .int .u8 s0_2], .int .i64 a1] rfl q_7 ?_; (with_reducible refine (frame_Head_Measured.calls s0_0 s0_1 s0_2 a1 t291 _ A17.out).mono ?_); rintro e w21 ⟨rfl, hb⟩; refine ⟨_, rfl, ?_⟩; have n0_ := Aside0.mk (blk_below (g := gb271) (o := .cells #[.int .i64 0, .int .i64 0] 39 (0, 0)) q_49 hb); have n1_ := Aside0.mk (IsS36.below q_50 hb); have n2_ := Aside0.mk (IsS70.below q_51 hb); have n3_ := Aside0.mk (KeepBut.trans q_52 (KeepBut.of_below hb g none) (.inl rfl)); have n4_ := Aside0.mk (below_step q_53 hb); clear BK271; clear HI0; clear HI277; clear HK; clear HB; have BK271 := n0_; have HI0 := n1_; have HI277 := n2_; have HK := n3_; have HB := n4_; clear n0_ n1_ n2_ n3_ n4_; (try clear hb); (try clear hb2); (try clear hk); (try clear hi)))
      (try simp only [Act.put, List.setIfInBounds_toArray, List.set_cons_zero, List.set_cons_succ])
      go_cut [11] (fun v11 wc => ∃ (kq : Nat) (x11_17 : Int) (x278000_17 : ByteArray) (x278001_17 : Int) (x278002_17 : Int) (x278003_17 : Int) (x278004_17 : Int), v11 = .int .i64 x11_17 ∧ Aside0 (frame_Frame_content.j1 kq a1 t285 x11_17 s0_0 s0_1 s0_2 x1003_6 s0_4 s0_5 x278000_17 x278001_17 x278002_17 x278003_17 x278004_17 = some (r1, r2, r3, r4, r5, r6, r7, r8)) ∧ Aside0 (kq ≤ kj6) ∧ Aside0 (wc.heap[gb271]? = some (.cells #[.int .i64 0, .int .i64 0] 39 (0, 0))) ∧ Aside0 (IsS36 w0 wc g s0_0 s0_1 s0_2 x1003_6 s0_4 s0_5) ∧ Aside0 (IsS70 w0 wc g277 x278000_17 x278001_17 x278002_17 x278003_17 x278004_17) ∧ Aside0 (KeepBut w wc g none) ∧ Aside0 (Below w0.heap.size w0 wc))
      case first =>
        have H := HC18.out
        clear HC18
        by_cases c22 : t291 = true
        · subst c22
          have H1 : ((octet_In_Safe.f t286 t287 t288 t289 t290).bind fun bt292 => (frame_Frame_content.j1 kj6 a1 t285 bt292.1 s0_0 s0_1 s0_2 x1003_6 s0_4 s0_5 bt292.2.1 bt292.2.2.1 bt292.2.2.2.1 bt292.2.2.2.2.1 bt292.2.2.2.2.2)) = some (r1, r2, r3, r4, r5, r6, r7, r8) := by rw [if_pos rfl] at H; exact H
          clear H
          have H := H1
          clear H1
          replace H := Option.bind_eq_some_iff.mp H
          obtain ⟨⟨t292, t293, t294, t295, t296, t297⟩, A230, H⟩ := H
          replace H : (frame_Frame_content.j1 kj6 a1 t285 t292 s0_0 s0_1 s0_2 x1003_6 s0_4 s0_5 t293 t294 t295 t296 t297) = some (r1, r2, r3, r4, r5, r6, r7, r8) := H
          have A23 := Aside0.mk A230
          clear A230
          have H' := Aside0.mk H
          clear H
          go_wp2_with (first | ((with_reducible refine gate_callee (f := 67) rfl ?_); refine goesL_ (some 36) rfl rfl Tryd.func67 (by kernel_rfl) rfl #[.pointer (some ⟨g277, 0, none⟩)] rfl q_7 ?_; (with_reducible refine (octet_In_Safe.calls g277 t286 t287 t288 t289 t290 t292 t293 t294 t295 t296 t297 w0 _ ?side1 ?side2 A23.out).mono ?_); (case side1 => repeat (first | (with_reducible first | exact HI277.out | apply IsS70.alloc | apply IsS70.drewN | apply IsS70.drew | apply IsS70.set_0 | apply IsS70.set_1 | apply IsS70.set_2 | apply IsS70.set_3 | apply IsS70.set_4 | refine IsS70.far ?_ NB277_271.out _ | apply IsS70.far (hne := NB277_271.out) | refine IsS70.far ?_ NB277_0.out _ | apply IsS70.far (hne := NB277_0.out)) | exact HI277.out)); (case side2 => repeat (first | (with_reducible first | exact HB.out | apply below_alloc | apply pw_below_drewN | apply below_drew1 | refine below_set ?_ (IsS36.ge HI0.out) | refine below_set ?_ (IsS70.ge HI277.out) | refine below_set ?_ GE271.out) | exact HB.out)); rintro e w24 ⟨rfl, hi, hb, hk⟩; refine ⟨_, rfl, ?_⟩; have n0_ := Aside0.mk (KeepBut.blk hk (g' := gb271) (o := .cells #[.int .i64 0, .int .i64 0] 39 (0, 0)) q_49 NB271_277.out (by simp)); have n1_ := Aside0.mk (IsS36.keep q_50 hk NB0_277.out); have n2_ := Aside0.mk (keep_other_ q_52 hk GS277.out); have n3_ := Aside0.mk (hb); have n4_ := Aside0.mk (hi); clear BK271; clear HI0; clear HK; clear HB; clear HI277; have BK271 := n0_; have HI0 := n1_; have HK := n2_; have HB := n3_; have HI277 := n4_; clear n0_ n1_ n2_ n3_ n4_; (try clear hb); (try clear hb2); (try clear hk); (try clear hi)))
          go_meet
          case rel => exact ⟨_, (t292), (t293), (t294), (t295), (t296), (t297), q_1, H', ⟨by have := HJ6.out; first | omega | exact Nat.le_refl _⟩, ⟨q_49⟩, ⟨q_50⟩, ⟨q_51⟩, ⟨q_52⟩, ⟨q_53⟩⟩
        · replace c22 := Bool.eq_false_iff.mpr c22
          subst c22
          have H1 : (frame_Frame_content.j1 kj6 a1 t285 (-1) s0_0 s0_1 s0_2 x1003_6 s0_4 s0_5 t286 t287 t288 t289 t290) = some (r1, r2, r3, r4, r5, r6, r7, r8) := by rw [if_neg (show ¬ (false = true) by decide)] at H; exact H
          clear H
          have H := H1
          clear H1
          have H' := Aside0.mk H
          clear H
          go_wp2
          go_meet
          case rel => exact ⟨_, ((-1)), (t286), (t287), (t288), (t289), (t290), q_1, H', ⟨by have := HJ6.out; first | omega | exact Nat.le_refl _⟩, ⟨q_49⟩, ⟨q_50⟩, ⟨q_51⟩, ⟨q_52⟩, ⟨q_53⟩⟩
      case rest =>
        clear HC18
        try clear c1; try clear c2; try clear p2; try clear c4; try clear c5; try clear c6; try clear c12; try clear c21; try clear c22; try clear c23; try clear hcz10_0; try clear hcz10_1; try clear hcz10_2; try clear hcz10_3; try clear hcz10_4; try clear hcz10_5; try clear hcz15_0; try clear hcz15_1; try clear hcz15_2; try clear hcz15_3; try clear hcz15_4; try clear hcz15_5; try clear hcz20_0; try clear hcz20_1; try clear hcz20_2; try clear hcz20_3; try clear hcz20_4; try clear hcz20_5; try clear hfz10_0; try clear hfz10_1; try clear hfz10_2; try clear hfz10_3; try clear hfz10_4; try clear hfz10_5; try clear hfz15_0; try clear hfz15_1; try clear hfz15_2; try clear hfz15_3; try clear hfz15_4; try clear hfz15_5; try clear hfz20_0; try clear hfz20_1; try clear hfz20_2; try clear hfz20_3; try clear hfz20_4; try clear hfz20_5; try clear p2
        obtain ⟨kq, x11_17, x278000_17, x278001_17, x278002_17, x278003_17, x278004_17, rfl, HA, HJ17, BK271, HI0, HI277, HK, HB⟩ := hcut
        cases kq with
        | zero => exact absurd HA.out (by simp [frame_Frame_content.j1])
        | succ kj17 =>
          have H := HA.out
          clear HA
          simp only [frame_Frame_content.j1] at H
          replace H := Option.bind_eq_some_iff.mp H
          obtain ⟨⟨t298, t299, t300, t301, t302, t303⟩, A250, H⟩ := H
          replace H : ((frame_Head_Spread.f s0_0 s0_1 s0_2 a1).bind fun t304 => (if t304 = true then ((unsync_Drop.f t298).bind fun t305 => (frame_Frame_content.j2 kj17 t285 x11_17 s0_0 s0_1 s0_2 x1003_6 t305 s0_5 t299 t300 t301 t302 t303)) else (frame_Frame_content.j2 kj17 t285 x11_17 s0_0 s0_1 s0_2 x1003_6 t298 s0_5 t299 t300 t301 t302 t303))) = some (r1, r2, r3, r4, r5, r6, r7, r8) := H
          have A25 := Aside0.mk A250
          clear A250
          replace H := Option.bind_eq_some_iff.mp H
          obtain ⟨t304, A260, H⟩ := H
          replace H : (if t304 = true then ((unsync_Drop.f t298).bind fun t305 => (frame_Frame_content.j2 kj17 t285 x11_17 s0_0 s0_1 s0_2 x1003_6 t305 s0_5 t299 t300 t301 t302 t303)) else (frame_Frame_content.j2 kj17 t285 x11_17 s0_0 s0_1 s0_2 x1003_6 t298 s0_5 t299 t300 t301 t302 t303)) = some (r1, r2, r3, r4, r5, r6, r7, r8) := H
          have A26 := Aside0.mk A260
          clear A260
          have HC27 := Aside0.mk H
          clear H
          go_upto_if 47 with (first | ((with_reducible refine gate_callee (f := 38) rfl ?_); refine goesL_ (some 39) rfl rfl Tryd.func38 (by kernel_rfl) rfl #[.pointer (some ⟨g277, 0, none⟩)] rfl q_7 ?_; (with_reducible refine (octet_In_Rest.calls g277 x278000_17 x278001_17 x278002_17 x278003_17 x278004_17 t298 t299 t300 t301 t302 t303 w0 _ ?side1 ?side2 A25.out).mono ?_); (case side1 => repeat (first | (with_reducible first | exact HI277.out | apply IsS70.alloc | apply IsS70.drewN | apply IsS70.drew | apply IsS70.set_0 | apply IsS70.set_1 | apply IsS70.set_2 | apply IsS70.set_3 | apply IsS70.set_4 | refine IsS70.far ?_ NB277_271.out _ | apply IsS70.far (hne := NB277_271.out) | refine IsS70.far ?_ NB277_0.out _ | apply IsS70.far (hne := NB277_0.out)) | exact HI277.out)); (case side2 => repeat (first | (with_reducible first | exact HB.out | apply below_alloc | apply pw_below_drewN | apply below_drew1 | refine below_set ?_ (IsS36.ge HI0.out) | refine below_set ?_ (IsS70.ge HI277.out) | refine below_set ?_ GE271.out) | exact HB.out)); rintro e w28 ⟨rfl, hi, hb, hk⟩; refine ⟨_, rfl, ?_⟩; have n0_ := Aside0.mk (KeepBut.blk hk (g' := gb271) (o := .cells #[.int .i64 0, .int .i64 0] 39 (0, 0)) q_49 NB271_277.out (by simp)); have n1_ := Aside0.mk (IsS36.keep q_50 hk NB0_277.out); have n2_ := Aside0.mk (keep_other_ q_52 hk GS277.out); have n3_ := Aside0.mk (hb); have n4_ := Aside0.mk (hi); clear BK271; clear HI0; clear HK; clear HB; clear HI277; have BK271 := n0_; have HI0 := n1_; have HK := n2_; have HB := n3_; have HI277 := n4_; clear n0_ n1_ n2_ n3_ n4_; (try clear hb); (try clear hb2); (try clear hk); (try clear hi); obtain ⟨HGz29, hgz29⟩ := HI0.out; have hcz29_0 := cellS36_0 HGz29; have hcz29_1 := cellS36_1 HGz29; have hcz29_2 := cellS36_2 HGz29; have hcz29_3 := cellS36_3 HGz29; have hcz29_4 := cellS36_4 HGz29; have hcz29_5 := cellS36_5 HGz29; have hfz29_0 := blk_frozen HGz29 0; have hfz29_1 := blk_frozen HGz29 1; have hfz29_2 := blk_frozen HGz29 2; have hfz29_3 := blk_frozen HGz29 3; have hfz29_4 := blk_frozen HGz29 4; have hfz29_5 := blk_frozen HGz29 5; clear HGz29 hgz29) | ((with_reducible refine gate_callee (f := 25) rfl ?_); refine goesL_ (some 47) rfl rfl Tryd.func25 (by kernel_rfl) rfl #[.agg #[.string s0_0, .int .u8 s0_1, .int .u8 s0_2], .int .i64 a1] rfl q_7 ?_; (with_reducible refine (frame_Head_Spread.calls s0_0 s0_1 s0_2 a1 t304 _ A26.out).mono ?_); rintro e w30 ⟨rfl, hb⟩; refine ⟨_, rfl, ?_⟩; have n0_ := Aside0.mk (blk_below (g := gb271) (o := .cells #[.int .i64 0, .int .i64 0] 39 (0, 0)) q_54 hb); have n1_ := Aside0.mk (IsS36.below (show IsS36 w0 (w28.setCell ⟨g, 4, none⟩ (.string t298)) g s0_0 s0_1 s0_2 x1003_6 t298 s0_5 from by repeat (first | (with_reducible first | exact HI0.out | apply IsS36.alloc | apply IsS36.drewN | apply IsS36.drew | apply IsS36.set_0 | apply IsS36.set_1 | apply IsS36.set_2 | apply IsS36.set_3 | apply IsS36.set_4 | apply IsS36.set_5 | refine IsS36.far ?_ NB0_271.out _ | apply IsS36.far (hne := NB0_271.out) | refine IsS36.far ?_ NB0_277.out _ | apply IsS36.far (hne := NB0_277.out)) | exact HI0.out)) hb); have n2_ := Aside0.mk (IsS70.below (show IsS70 w0 (w28.setCell ⟨g, 4, none⟩ (.string t298)) g277 t299 t300 t301 t302 t303 from by repeat (first | (with_reducible first | exact HI277.out | apply IsS70.alloc | apply IsS70.drewN | apply IsS70.drew | apply IsS70.set_0 | apply IsS70.set_1 | apply IsS70.set_2 | apply IsS70.set_3 | apply IsS70.set_4 | refine IsS70.far ?_ NB277_271.out _ | apply IsS70.far (hne := NB277_271.out) | refine IsS70.far ?_ NB277_0.out _ | apply IsS70.far (hne := NB277_0.out)) | exact HI277.out)) hb); have n3_ := Aside0.mk (KeepBut.trans q_52 (KeepBut.of_below hb g none) (.inl rfl)); have n4_ := Aside0.mk (below_step q_53 hb); clear BK271; clear HI0; clear HI277; clear HK; clear HB; have BK271 := n0_; have HI0 := n1_; have HI277 := n2_; have HK := n3_; have HB := n4_; clear n0_ n1_ n2_ n3_ n4_; (try clear hb); (try clear hb2); (try clear hk); (try clear hi)))
          (try simp only [Act.put, List.setIfInBounds_toArray, List.set_cons_zero, List.set_cons_succ])
          go_cut [] (fun wc => ∃ (kq : Nat) (x1004_26 : ByteArray), Aside0 (frame_Frame_content.j2 kq t285 x11_17 s0_0 s0_1 s0_2 x1003_6 x1004_26 s0_5 t299 t300 t301 t302 t303 = some (r1, r2, r3, r4, r5, r6, r7, r8)) ∧ Aside0 (kq ≤ kj17) ∧ Aside0 (wc.heap[gb271]? = some (.cells #[.int .i64 0, .int .i64 0] 39 (0, 0))) ∧ Aside0 (IsS36 w0 wc g s0_0 s0_1 s0_2 x1003_6 x1004_26 s0_5) ∧ Aside0 (IsS70 w0 wc g277 t299 t300 t301 t302 t303) ∧ Aside0 (KeepBut w wc g none) ∧ Aside0 (Below w0.heap.size w0 wc))
          case first =>
            have H := HC27.out
            clear HC27
            by_cases c31 : t304 = true
            · subst c31
              have H1 : ((unsync_Drop.f t298).bind fun t305 => (frame_Frame_content.j2 kj17 t285 x11_17 s0_0 s0_1 s0_2 x1003_6 t305 s0_5 t299 t300 t301 t302 t303)) = some (r1, r2, r3, r4, r5, r6, r7, r8) := by rw [if_pos rfl] at H; exact H
              clear H
              have H := H1
              clear H1
              replace H := Option.bind_eq_some_iff.mp H
              obtain ⟨t305, A320, H⟩ := H
              replace H : (frame_Frame_content.j2 kj17 t285 x11_17 s0_0 s0_1 s0_2 x1003_6 t305 s0_5 t299 t300 t301 t302 t303) = some (r1, r2, r3, r4, r5, r6, r7, r8) := H
              have A32 := Aside0.mk A320
              clear A320
              have H' := Aside0.mk H
              clear H
              obtain ⟨HGz33, hgz33⟩ := HI0.out
              have hcz33_0 := cellS36_0 HGz33
              have hcz33_1 := cellS36_1 HGz33
              have hcz33_2 := cellS36_2 HGz33
              have hcz33_3 := cellS36_3 HGz33
              have hcz33_4 := cellS36_4 HGz33
              have hcz33_5 := cellS36_5 HGz33
              have hfz33_0 := blk_frozen HGz33 0
              have hfz33_1 := blk_frozen HGz33 1
              have hfz33_2 := blk_frozen HGz33 2
              have hfz33_3 := blk_frozen HGz33 3
              have hfz33_4 := blk_frozen HGz33 4
              have hfz33_5 := blk_frozen HGz33 5
              clear HGz33 hgz33
              go_wp2_with (first | ((with_reducible refine gate_callee (f := 12) rfl ?_); refine goesL_ (some 53) rfl rfl Tryd.func12 (by kernel_rfl) rfl #[.string t298] rfl q_7 ?_; (with_reducible refine (unsync_Drop.calls t298 t305 _ (GM.below HG.out q_53) A32.out).mono ?_); rintro e w34 ⟨rfl, hb⟩; refine ⟨_, rfl, ?_⟩; have n0_ := Aside0.mk (blk_below (g := gb271) (o := .cells #[.int .i64 0, .int .i64 0] 39 (0, 0)) q_49 hb); have n1_ := Aside0.mk (IsS36.below q_50 hb); have n2_ := Aside0.mk (IsS70.below q_51 hb); have n3_ := Aside0.mk (KeepBut.trans q_52 (KeepBut.of_below hb g none) (.inl rfl)); have n4_ := Aside0.mk (below_step q_53 hb); clear BK271; clear HI0; clear HI277; clear HK; clear HB; have BK271 := n0_; have HI0 := n1_; have HI277 := n2_; have HK := n3_; have HB := n4_; clear n0_ n1_ n2_ n3_ n4_; (try clear hb); (try clear hb2); (try clear hk); (try clear hi); obtain ⟨HGz35, hgz35⟩ := HI0.out; have hcz35_0 := cellS36_0 HGz35; have hcz35_1 := cellS36_1 HGz35; have hcz35_2 := cellS36_2 HGz35; have hcz35_3 := cellS36_3 HGz35; have hcz35_4 := cellS36_4 HGz35; have hcz35_5 := cellS36_5 HGz35; have hfz35_0 := blk_frozen HGz35 0; have hfz35_1 := blk_frozen HGz35 1; have hfz35_2 := blk_frozen HGz35 2; have hfz35_3 := blk_frozen HGz35 3; have hfz35_4 := blk_frozen HGz35 4; have hfz35_5 := blk_frozen HGz35 5; clear HGz35 hgz35))
              go_meet
              case rel => exact ⟨_, (t305), H', ⟨by have := HJ6.out; have := HJ17.out; first | omega | exact Nat.le_refl _⟩, ⟨q_54⟩, ⟨q_50⟩, ⟨q_51⟩, ⟨q_52⟩, ⟨q_53⟩⟩
            · replace c31 := Bool.eq_false_iff.mpr c31
              subst c31
              have H1 : (frame_Frame_content.j2 kj17 t285 x11_17 s0_0 s0_1 s0_2 x1003_6 t298 s0_5 t299 t300 t301 t302 t303) = some (r1, r2, r3, r4, r5, r6, r7, r8) := by rw [if_neg (show ¬ (false = true) by decide)] at H; exact H
              clear H
              have H := H1
              clear H1
              have H' := Aside0.mk H
              clear H
              go_wp2
              go_meet
              case rel => exact ⟨_, (t298), H', ⟨by have := HJ6.out; have := HJ17.out; first | omega | exact Nat.le_refl _⟩, ⟨q_49⟩, ⟨q_50⟩, ⟨q_51⟩, ⟨q_52⟩, ⟨q_53⟩⟩
          case rest =>
            clear HC27
            try clear c1; try clear c2; try clear p2; try clear c3; try clear c4; try clear c5; try clear c6; try clear c12; try clear c21; try clear c22; try clear c23; try clear c25; try clear c31; try clear hcz10_0; try clear hcz10_1; try clear hcz10_2; try clear hcz10_3; try clear hcz10_4; try clear hcz10_5; try clear hcz15_0; try clear hcz15_1; try clear hcz15_2; try clear hcz15_3; try clear hcz15_4; try clear hcz15_5; try clear hcz20_0; try clear hcz20_1; try clear hcz20_2; try clear hcz20_3; try clear hcz20_4; try clear hcz20_5; try clear hcz29_0; try clear hcz29_1; try clear hcz29_2; try clear hcz29_3; try clear hcz29_4; try clear hcz29_5; try clear hcz33_0; try clear hcz33_1; try clear hcz33_2; try clear hcz33_3; try clear hcz33_4; try clear hcz33_5; try clear hcz35_0; try clear hcz35_1; try clear hcz35_2; try clear hcz35_3; try clear hcz35_4; try clear hcz35_5; try clear hfz10_0; try clear hfz10_1; try clear hfz10_2; try clear hfz10_3; try clear hfz10_4; try clear hfz10_5; try clear hfz15_0; try clear hfz15_1; try clear hfz15_2; try clear hfz15_3; try clear hfz15_4; try clear hfz15_5; try clear hfz20_0; try clear hfz20_1; try clear hfz20_2; try clear hfz20_3; try clear hfz20_4; try clear hfz20_5; try clear hfz29_0; try clear hfz29_1; try clear hfz29_2; try clear hfz29_3; try clear hfz29_4; try clear hfz29_5; try clear hfz33_0; try clear hfz33_1; try clear hfz33_2; try clear hfz33_3; try clear hfz33_4; try clear hfz33_5; try clear hfz35_0; try clear hfz35_1; try clear hfz35_2; try clear hfz35_3; try clear hfz35_4; try clear hfz35_5; try clear p2
            obtain ⟨kq, x1004_26, HA, HJ26, BK271, HI0, HI277, HK, HB⟩ := hcut
            cases kq with
            | zero => exact absurd HA.out (by simp [frame_Frame_content.j2])
            | succ kj26 =>
              have H := HA.out
              clear HA
              simp only [frame_Frame_content.j2] at H
              have HC36 := Aside0.mk H
              clear H
              go_upto_region 10 with (fail)
              go_cut [66] (fun v66 wc => ∃ (kq : Nat) (x66_35 : Bool), v66 = .bool x66_35 ∧ Aside0 (frame_Frame_content.j3 kq t285 x66_35 s0_0 s0_1 s0_2 x1003_6 x1004_26 s0_5 t299 t300 t301 t302 t303 = some (r1, r2, r3, r4, r5, r6, r7, r8)) ∧ Aside0 (kq ≤ kj26) ∧ Aside0 (wc.heap[gb271]? = some (.cells #[.int .i64 0, .int .i64 0] 39 (0, 0))) ∧ Aside0 (IsS36 w0 wc g s0_0 s0_1 s0_2 x1003_6 x1004_26 s0_5) ∧ Aside0 (IsS70 w0 wc g277 t299 t300 t301 t302 t303) ∧ Aside0 (KeepBut w wc g none) ∧ Aside0 (Below w0.heap.size w0 wc))
              case first =>
                have H := HC36.out
                clear HC36
                by_cases c37 : x11_17 ≥ 0
                · rw [if_pos c37] at H
                  have c37b0 : decide (0 ≤ x11_17) = true := decide_eq_true c37
                  clear c37
                  (first | rw [c37b0] | (simp only [i64_w, i32_w]; rw [c37b0]) | skip)
                  have H' := Aside0.mk H
                  clear H
                  obtain ⟨HGz38, hgz38⟩ := HI0.out
                  have hcz38_0 := cellS36_0 HGz38
                  have hcz38_1 := cellS36_1 HGz38
                  have hcz38_2 := cellS36_2 HGz38
                  have hcz38_3 := cellS36_3 HGz38
                  have hcz38_4 := cellS36_4 HGz38
                  have hcz38_5 := cellS36_5 HGz38
                  have hfz38_0 := blk_frozen HGz38 0
                  have hfz38_1 := blk_frozen HGz38 1
                  have hfz38_2 := blk_frozen HGz38 2
                  have hfz38_3 := blk_frozen HGz38 3
                  have hfz38_4 := blk_frozen HGz38 4
                  have hfz38_5 := blk_frozen HGz38 5
                  clear HGz38 hgz38
                  go_wp2
                  go_meet
                  case rel => exact ⟨_, ((x11_17 != (x1004_26.size : Int))), q_1, H', ⟨by have := HJ6.out; have := HJ17.out; have := HJ26.out; first | omega | exact Nat.le_refl _⟩, ⟨q_49⟩, ⟨q_50⟩, ⟨q_51⟩, ⟨q_52⟩, ⟨q_53⟩⟩
                · rw [if_neg c37] at H
                  have c37b0 : decide (0 ≤ x11_17) = false := decide_eq_false c37
                  clear c37
                  (first | rw [c37b0] | (simp only [i64_w, i32_w]; rw [c37b0]) | skip)
                  have H' := Aside0.mk H
                  clear H
                  go_wp2
                  go_meet
                  case rel => exact ⟨_, (false), q_1, H', ⟨by have := HJ6.out; have := HJ17.out; have := HJ26.out; first | omega | exact Nat.le_refl _⟩, ⟨q_49⟩, ⟨q_50⟩, ⟨q_51⟩, ⟨q_52⟩, ⟨q_53⟩⟩
              case rest =>
                clear HC36
                try clear c1; try clear c2; try clear p2; try clear c3; try clear c4; try clear c5; try clear c6; try clear c12; try clear c21; try clear c22; try clear c23; try clear c25; try clear c31; try clear c37; try clear c37b0; try clear c38; try clear hcz10_0; try clear hcz10_1; try clear hcz10_2; try clear hcz10_3; try clear hcz10_4; try clear hcz10_5; try clear hcz15_0; try clear hcz15_1; try clear hcz15_2; try clear hcz15_3; try clear hcz15_4; try clear hcz15_5; try clear hcz20_0; try clear hcz20_1; try clear hcz20_2; try clear hcz20_3; try clear hcz20_4; try clear hcz20_5; try clear hcz29_0; try clear hcz29_1; try clear hcz29_2; try clear hcz29_3; try clear hcz29_4; try clear hcz29_5; try clear hcz33_0; try clear hcz33_1; try clear hcz33_2; try clear hcz33_3; try clear hcz33_4; try clear hcz33_5; try clear hcz35_0; try clear hcz35_1; try clear hcz35_2; try clear hcz35_3; try clear hcz35_4; try clear hcz35_5; try clear hcz38_0; try clear hcz38_1; try clear hcz38_2; try clear hcz38_3; try clear hcz38_4; try clear hcz38_5; try clear hfz10_0; try clear hfz10_1; try clear hfz10_2; try clear hfz10_3; try clear hfz10_4; try clear hfz10_5; try clear hfz15_0; try clear hfz15_1; try clear hfz15_2; try clear hfz15_3; try clear hfz15_4; try clear hfz15_5; try clear hfz20_0; try clear hfz20_1; try clear hfz20_2; try clear hfz20_3; try clear hfz20_4; try clear hfz20_5; try clear hfz29_0; try clear hfz29_1; try clear hfz29_2; try clear hfz29_3; try clear hfz29_4; try clear hfz29_5; try clear hfz33_0; try clear hfz33_1; try clear hfz33_2; try clear hfz33_3; try clear hfz33_4; try clear hfz33_5; try clear hfz35_0; try clear hfz35_1; try clear hfz35_2; try clear hfz35_3; try clear hfz35_4; try clear hfz35_5; try clear hfz38_0; try clear hfz38_1; try clear hfz38_2; try clear hfz38_3; try clear hfz38_4; try clear hfz38_5; try clear p2
                obtain ⟨kq, x66_35, rfl, HA, HJ35, BK271, HI0, HI277, HK, HB⟩ := hcut
                cases kq with
                | zero => exact absurd HA.out (by simp [frame_Frame_content.j3])
                | succ kj35 =>
                  have H := HA.out
                  clear HA
                  simp only [frame_Frame_content.j3] at H
                  by_cases c39 : x66_35 = true
                  · subst c39
                    have H1 : ((octet_In_Fail.f t299 t300 t301 t302 t303 1 t285).bind fun bt306 => ((octet_In_Fault.f bt306.1 bt306.2.1 bt306.2.2.1 bt306.2.2.2.1 bt306.2.2.2.2).bind fun bt311 => (some (bt311.1, bt311.2.1, s0_0, s0_1, s0_2, x1003_6, x1004_26, s0_5)))) = some (r1, r2, r3, r4, r5, r6, r7, r8) := by rw [if_pos rfl] at H; exact H
                    clear H
                    have H := H1
                    clear H1
                    replace H := Option.bind_eq_some_iff.mp H
                    obtain ⟨⟨t306, t307, t308, t309, t310⟩, A400, H⟩ := H
                    replace H : ((octet_In_Fault.f t306 t307 t308 t309 t310).bind fun bt311 => (some (bt311.1, bt311.2.1, s0_0, s0_1, s0_2, x1003_6, x1004_26, s0_5))) = some (r1, r2, r3, r4, r5, r6, r7, r8) := H
                    have A40 := Aside0.mk A400
                    clear A400
                    replace H := Option.bind_eq_some_iff.mp H
                    obtain ⟨⟨t311, t312, t313, t314, t315, t316, t317⟩, A410, H⟩ := H
                    replace H : (some (t311, t312, s0_0, s0_1, s0_2, x1003_6, x1004_26, s0_5)) = some (r1, r2, r3, r4, r5, r6, r7, r8) := H
                    have A41 := Aside0.mk A410
                    clear A410
                    simp only [Option.some.injEq, Prod.mk.injEq] at H
                    obtain ⟨rfl, rfl, rfl, rfl, rfl, rfl, rfl, rfl⟩ := H
                    go_wp2_with (first | ((with_reducible refine gate_callee (f := 60) rfl ?_); refine goesL_ (some 69) rfl rfl Tryd.func60 (by kernel_rfl) rfl #[.pointer (some ⟨g277, 0, none⟩), .int .i64 1, .int .i64 t285] rfl q_7 ?_; (with_reducible refine (octet_In_Fail.calls g277 t299 t300 t301 t302 t303 1 t285 t306 t307 t308 t309 t310 w0 _ ?side1 ?side2 A40.out).mono ?_); (case side1 => repeat (first | (with_reducible first | exact HI277.out | apply IsS70.alloc | apply IsS70.drewN | apply IsS70.drew | apply IsS70.set_0 | apply IsS70.set_1 | apply IsS70.set_2 | apply IsS70.set_3 | apply IsS70.set_4 | refine IsS70.far ?_ NB277_271.out _ | apply IsS70.far (hne := NB277_271.out) | refine IsS70.far ?_ NB277_0.out _ | apply IsS70.far (hne := NB277_0.out)) | exact HI277.out)); (case side2 => repeat (first | (with_reducible first | exact HB.out | apply below_alloc | apply pw_below_drewN | apply below_drew1 | refine below_set ?_ (IsS36.ge HI0.out) | refine below_set ?_ (IsS70.ge HI277.out) | refine below_set ?_ GE271.out) | exact HB.out)); rintro e w42 ⟨rfl, hi, hb, hk⟩; refine ⟨_, rfl, ?_⟩; have n0_ := Aside0.mk (KeepBut.blk hk (g' := gb271) (o := .cells #[.int .i64 0, .int .i64 0] 39 (0, 0)) q_49 NB271_277.out (by simp)); have n1_ := Aside0.mk (IsS36.keep q_50 hk NB0_277.out); have n2_ := Aside0.mk (keep_other_ q_52 hk GS277.out); have n3_ := Aside0.mk (hb); have n4_ := Aside0.mk (hi); clear BK271; clear HI0; clear HK; clear HB; clear HI277; have BK271 := n0_; have HI0 := n1_; have HK := n2_; have HB := n3_; have HI277 := n4_; clear n0_ n1_ n2_ n3_ n4_; (try clear hb); (try clear hb2); (try clear hk); (try clear hi)) | ((with_reducible refine gate_callee (f := 41) rfl ?_); refine goesL_ (some 71) rfl rfl Tryd.func41 (by kernel_rfl) rfl #[.pointer (some ⟨g277, 0, none⟩)] rfl q_7 ?_; (with_reducible refine (octet_In_Fault.calls g277 t306 t307 t308 t309 t310 t311 t312 t313 t314 t315 t316 t317 w0 _ ?side1 ?side2 A41.out).mono ?_); (case side1 => repeat (first | (with_reducible first | exact HI277.out | apply IsS70.alloc | apply IsS70.drewN | apply IsS70.drew | apply IsS70.set_0 | apply IsS70.set_1 | apply IsS70.set_2 | apply IsS70.set_3 | apply IsS70.set_4 | refine IsS70.far ?_ NB277_271.out _ | apply IsS70.far (hne := NB277_271.out) | refine IsS70.far ?_ NB277_0.out _ | apply IsS70.far (hne := NB277_0.out)) | exact HI277.out)); (case side2 => repeat (first | (with_reducible first | exact HB.out | apply below_alloc | apply pw_below_drewN | apply below_drew1 | refine below_set ?_ (IsS36.ge HI0.out) | refine below_set ?_ (IsS70.ge HI277.out) | refine below_set ?_ GE271.out) | exact HB.out)); rintro e w43 ⟨rfl, hi, hb, hk⟩; refine ⟨_, rfl, ?_⟩; have n0_ := Aside0.mk (KeepBut.blk hk (g' := gb271) (o := .cells #[.int .i64 0, .int .i64 0] 39 (0, 0)) q_49 NB271_277.out (by simp)); have n1_ := Aside0.mk (IsS36.keep q_50 hk NB0_277.out); have n2_ := Aside0.mk (keep_other_ q_52 hk GS277.out); have n3_ := Aside0.mk (hb); have n4_ := Aside0.mk (hi); clear BK271; clear HI0; clear HK; clear HB; clear HI277; have BK271 := n0_; have HI0 := n1_; have HK := n2_; have HB := n3_; have HI277 := n4_; clear n0_ n1_ n2_ n3_ n4_; (try clear hb); (try clear hb2); (try clear hk); (try clear hi); have hnb44 := NB271_0.out; have hnc44 := NB0_271.out; have hnb45 := NB271_277.out; have hnc45 := NB277_271.out; obtain ⟨hcz46_0, hcz46_1, hfz46_0, hfz46_1⟩ := cells2_ BK271.out))
                    refine bodyPost_ret (results_cell_row rfl _ _ gb271 39 #[.int .i64 t311, .int .i64 t312] (0, 0) _ rfl (by (with_reducible repeat (first | refine blk_drewN ?_ _ | refine blk_drew ?_ | refine blk_alloc ?_ _)); refine blk_put (cs := #[.int .i64 t311, .int .i64 0]) ?_ 1 _ rfl; (with_reducible repeat (first | refine blk_drewN ?_ _ | refine blk_drew ?_ | refine blk_alloc ?_ _)); refine blk_put (cs := #[.int .i64 0, .int .i64 0]) ?_ 0 _ rfl; (with_reducible repeat (first | refine blk_drewN ?_ _ | refine blk_drew ?_ | refine blk_alloc ?_ _)); exact BK271.out) Tryd.underlying39 rfl (by kernel_rfl)) rfl ?_
                    exact ⟨q_11, q_50, q_53, q_52⟩
                  · replace c39 := Bool.eq_false_iff.mpr c39
                    subst c39
                    have H1 : ((octet_In_Fault.f t299 t300 t301 t302 t303).bind fun bt318 => (some (bt318.1, bt318.2.1, s0_0, s0_1, s0_2, x1003_6, x1004_26, s0_5))) = some (r1, r2, r3, r4, r5, r6, r7, r8) := by rw [if_neg (show ¬ (false = true) by decide)] at H; exact H
                    clear H
                    have H := H1
                    clear H1
                    replace H := Option.bind_eq_some_iff.mp H
                    obtain ⟨⟨t318, t319, t320, t321, t322, t323, t324⟩, A470, H⟩ := H
                    replace H : (some (t318, t319, s0_0, s0_1, s0_2, x1003_6, x1004_26, s0_5)) = some (r1, r2, r3, r4, r5, r6, r7, r8) := H
                    have A47 := Aside0.mk A470
                    clear A470
                    simp only [Option.some.injEq, Prod.mk.injEq] at H
                    obtain ⟨rfl, rfl, rfl, rfl, rfl, rfl, rfl, rfl⟩ := H
                    go_wp2_with (first | ((with_reducible refine gate_callee (f := 41) rfl ?_); refine goesL_ (some 71) rfl rfl Tryd.func41 (by kernel_rfl) rfl #[.pointer (some ⟨g277, 0, none⟩)] rfl q_7 ?_; (with_reducible refine (octet_In_Fault.calls g277 t299 t300 t301 t302 t303 t318 t319 t320 t321 t322 t323 t324 w0 _ ?side1 ?side2 A47.out).mono ?_); (case side1 => repeat (first | (with_reducible first | exact HI277.out | apply IsS70.alloc | apply IsS70.drewN | apply IsS70.drew | apply IsS70.set_0 | apply IsS70.set_1 | apply IsS70.set_2 | apply IsS70.set_3 | apply IsS70.set_4 | refine IsS70.far ?_ NB277_271.out _ | apply IsS70.far (hne := NB277_271.out) | refine IsS70.far ?_ NB277_0.out _ | apply IsS70.far (hne := NB277_0.out)) | exact HI277.out)); (case side2 => repeat (first | (with_reducible first | exact HB.out | apply below_alloc | apply pw_below_drewN | apply below_drew1 | refine below_set ?_ (IsS36.ge HI0.out) | refine below_set ?_ (IsS70.ge HI277.out) | refine below_set ?_ GE271.out) | exact HB.out)); rintro e w48 ⟨rfl, hi, hb, hk⟩; refine ⟨_, rfl, ?_⟩; have n0_ := Aside0.mk (KeepBut.blk hk (g' := gb271) (o := .cells #[.int .i64 0, .int .i64 0] 39 (0, 0)) q_49 NB271_277.out (by simp)); have n1_ := Aside0.mk (IsS36.keep q_50 hk NB0_277.out); have n2_ := Aside0.mk (keep_other_ q_52 hk GS277.out); have n3_ := Aside0.mk (hb); have n4_ := Aside0.mk (hi); clear BK271; clear HI0; clear HK; clear HB; clear HI277; have BK271 := n0_; have HI0 := n1_; have HK := n2_; have HB := n3_; have HI277 := n4_; clear n0_ n1_ n2_ n3_ n4_; (try clear hb); (try clear hb2); (try clear hk); (try clear hi); have hnb49 := NB271_0.out; have hnc49 := NB0_271.out; have hnb50 := NB271_277.out; have hnc50 := NB277_271.out; obtain ⟨hcz51_0, hcz51_1, hfz51_0, hfz51_1⟩ := cells2_ BK271.out))
                    refine bodyPost_ret (results_cell_row rfl _ _ gb271 39 #[.int .i64 t318, .int .i64 t319] (0, 0) _ rfl (by (with_reducible repeat (first | refine blk_drewN ?_ _ | refine blk_drew ?_ | refine blk_alloc ?_ _)); refine blk_put (cs := #[.int .i64 t318, .int .i64 0]) ?_ 1 _ rfl; (with_reducible repeat (first | refine blk_drewN ?_ _ | refine blk_drew ?_ | refine blk_alloc ?_ _)); refine blk_put (cs := #[.int .i64 0, .int .i64 0]) ?_ 0 _ rfl; (with_reducible repeat (first | refine blk_drewN ?_ _ | refine blk_drew ?_ | refine blk_alloc ?_ _)); exact BK271.out) Tryd.underlying39 rfl (by kernel_rfl)) rfl ?_
                    exact ⟨q_11, q_50, q_53, q_52⟩

end Go.Proofs.YtlmhlmendnjmlaaDoor.PAll
