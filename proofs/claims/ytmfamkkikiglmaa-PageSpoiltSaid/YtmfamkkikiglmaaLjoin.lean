/- Texts that are joined: plain lemmas. -/
import Derived.Test.YtmfamkkikiglmaaPAllx4
import Derived.Test.YtmfamkkikiglmaaLa
namespace Go.Proofs.Ytmfamkkikiglmaa.Pl
open Go.RowKit Go.Proofs.Ytmfamkkikiglmaa.PAll Go.Proofs.YtmfamkkikiglmaaW.PrintWords Go.Proofs.YtmfamkkikiglmaaW.PrintLast Go.Proofs.YtmfamkkikiglmaaW.PrintMore
set_option linter.unusedVariables false
set_option linter.unusedSimpArgs false

/-! ### joining -/
theorem join_flat : ∀ (l : List (List UInt8)), Lib.join l [] = l.flatten := by
  intro l
  unfold Lib.join
  induction l with
  | nil => rfl
  | cons a t ih => cases t with
    | nil => simp
    | cons b t => simp [List.intercalate_cons_cons, ih]
def cat (l : List ByteArray) : ByteArray := ⟨((l.map (·.data.toList)).flatten).toArray⟩
theorem bytesOf_cat (l : List ByteArray) : bytesOf (cat l) = (l.map bytesOf).flatten := by
  unfold cat bytesOf
  simp only [List.map_flatten, List.map_map]
  rfl
theorem cat_nil : cat [] = (⟨#[]⟩ : ByteArray) := rfl
theorem cat_snoc (l : List ByteArray) (x : ByteArray) : cat (l ++ [x]) = cat l ++ x := by
  apply bytesOf_inj
  rw [bytesOf_app, bytesOf_cat, bytesOf_cat]
  simp
theorem size_cat (l : List ByteArray) : (cat l).size = (l.map (·.size)).sum := by
  rw [← len_bytesOf, bytesOf_cat, List.length_flatten, List.map_map]
  congr 1
  apply List.map_congr_left
  intro x _
  exact len_bytesOf x
theorem sum_le (l : List ByteArray) (b : Nat) (h : ∀ x ∈ l, x.size ≤ b) : (l.map (·.size)).sum ≤ l.length * b := by
  induction l with
  | nil => simp
  | cons a t ih =>
    have h1 := h a (by simp)
    have h2 := ih (fun x hx => h x (by simp [hx]))
    simp only [List.map_cons, List.sum_cons, List.length_cons]
    rw [Nat.add_mul]
    omega
theorem join_ok (l : List ByteArray) (h1 : l.length ≤ 140737488355328) (h2 : (cat l).size ≤ 140737488355328) : octet_Join.f l = some (cat l) := by
  have e : Lib.join (l.map (·.data.toList)) (⟨#[]⟩ : ByteArray).data.toList = (l.map (·.data.toList)).flatten := join_flat _
  unfold octet_Join.f strings_Join.f
  rw [e, if_pos ⟨h1, by exact h2⟩]; rfl

end Go.Proofs.Ytmfamkkikiglmaa.Pl
