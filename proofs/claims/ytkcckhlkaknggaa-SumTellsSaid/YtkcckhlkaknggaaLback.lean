/- A text's bytes the other way about. -/
import Derived.Test.YtkcckhlkaknggaaPAllx7
import Derived.Test.YtkcckhlkaknggaaLnum
namespace Go.Proofs.Ytkcckhlkaknggaa.Pl
open Go.RowKit Go.Proofs.Ytkcckhlkaknggaa.PAll Go.Proofs.YtkcckhlkaknggaaW.PrintWords Go.Proofs.YtkcckhlkaknggaaW.PrintLast Go.Proofs.YtkcckhlkaknggaaW.PrintMore
set_option linter.unusedVariables false
set_option linter.unusedSimpArgs false

/-- A text, the last byte first. -/
def rev (s : ByteArray) : ByteArray := strOfNums (bytesOf s).reverse
theorem refback_loop (s : ByteArray) (hs : s.size ≤ 140737488355328) : ∀ (d i : Nat) (t : ByteArray), i + d = s.size → t.size ≤ i →
    Ev (fun k => diacriticref01_Back.l0 k s t (i : Int)) (strOfNums ((bytesOf s).drop i).reverse ++ t)
  | 0, i, t, hi, ht => by
    refine Ev.step (fun k => by rw [diacriticref01_Back.l0]) ?_
    refine Ev.iten (by omega) (Ev.some ?_)
    rw [List.drop_eq_nil_of_le (by rw [len_bytesOf]; omega), List.reverse_nil, str_nil, ba_nil_app]
  | d + 1, i, t, hi, ht => by
    refine Ev.step (fun k => by rw [diacriticref01_Back.l0]) ?_
    rw [show wrap64 ((i : Int) + 1) = ((i + 1 : Nat) : Int) by rw [w64 (by omega)]; omega]
    simp only [Int.toNat_natCast]
    have hz : (s.extract i (i + 1)).size = 1 := by rw [size_ext _ _ _ (by omega) (by omega)]; omega
    refine Ev.itep (by omega) (Ev.itep (by omega) (Ev.itep (by omega) (Ev.itep (by omega) (Ev.itep (by omega) ?_))))
    refine Ev.eq (refback_loop s hs d (i + 1) _ (by omega) (by rw [size_app]; omega)) ?_
    rw [drop_cons s i (by omega), List.reverse_cons, str_app, ba_assoc]
    congr 2
    apply bytesOf_inj
    rw [bytesOf_ext, drop_cons s i (by omega), bytesOf_str]
    · simp
    · intro x hx
      simp only [List.mem_singleton] at hx
      subst hx
      exact bt_range _ _
theorem refback_ev (s : ByteArray) (hs : s.size ≤ 140737488355328) : Ev (fun k => diacriticref01_Back.f k s) (rev s) := by
  refine Ev.eq (refback_loop s hs s.size 0 ⟨#[]⟩ (by omega) (Nat.le_refl _)) ?_
  rw [ba_app_nil]; rfl
theorem rev_str (l : List Nat) (h : ∀ x ∈ l, x < 256) : rev (strOfNums (ints l)) = strOfNums (ints l.reverse) := by
  unfold rev
  rw [bytesOf_str (ints_range l h)]
  simp [ints]
end Go.Proofs.Ytkcckhlkaknggaa.Pl
