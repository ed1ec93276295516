/- Texts as lists of whole numbers below 256. -/

import Derived.Test.YtkhiiilfokijgaaDoorLa
namespace Go.Proofs.YtkhiiilfokijgaaDoor.Pl
open Go.RowKit Go.Proofs.YtkhiiilfokijgaaDoor.PAll Go.Proofs.YtkhiiilfokijgaaDoorW.PrintWords Go.Proofs.YtkhiiilfokijgaaDoorW.PrintLast Go.Proofs.YtkhiiilfokijgaaDoorW.PrintMore
set_option linter.unusedVariables false
set_option linter.unusedSimpArgs false

def nats (s : ByteArray) : List Nat := s.data.toList.map UInt8.toNat
def ints (l : List Nat) : List Int := l.map fun n : Nat => (n : Int)
theorem ints_app (a b : List Nat) : ints (a ++ b) = ints a ++ ints b := by simp [ints]
theorem ints_range (l : List Nat) (h : ∀ x ∈ l, x < 256) : ∀ x ∈ ints l, 0 ≤ x ∧ x ≤ 255 := by
  intro x hx
  simp only [ints, List.mem_map] at hx
  obtain ⟨n, hn, rfl⟩ := hx
  have := h n hn
  omega
theorem str_app (a b : List Int) : strOfNums (a ++ b) = strOfNums a ++ strOfNums b := by
  apply ba_ext; simp [strOfNums_data, ByteArray.data_append]
theorem nats_lt (s : ByteArray) : ∀ c ∈ nats s, c < 256 := by
  intro c hc
  simp only [nats, List.mem_map] at hc
  obtain ⟨b, _, rfl⟩ := hc
  exact b.toNat_lt
theorem nats_bytes (s : ByteArray) : bytesOf s = (nats s).map fun n : Nat => (n : Int) := by simp [bytesOf, nats]
theorem nats_len (s : ByteArray) : (nats s).length = s.size := by rw [← len_bytesOf, nats_bytes, List.length_map]
theorem nats_app (s t : ByteArray) : nats (s ++ t) = nats s ++ nats t := by simp [nats, ByteArray.data_append]
def strN (l : List Nat) : ByteArray := strOfNums (ints l)
theorem bytes_ints (s : ByteArray) : bytesOf s = ints (nats s) := nats_bytes s
theorem ints_inj {a b : List Nat} (h : ints a = ints b) : a = b := by
  refine (List.map_inj_right (f := fun n : Nat => (n : Int)) ?_).mp h
  intro x y hxy; exact Int.ofNat.inj hxy
theorem strN_nats (s : ByteArray) : strN (nats s) = s := by rw [strN, ← bytes_ints, str_bytesOf]
theorem nats_strN {l : List Nat} (h : ∀ x ∈ l, x < 256) : nats (strN l) = l := by
  apply ints_inj
  rw [← bytes_ints, strN, bytesOf_str (ints_range l h)]
theorem nats_inj {s t : ByteArray} (h : nats s = nats t) : s = t := by rw [← strN_nats s, ← strN_nats t, h]
theorem strN_app (a b : List Nat) : strN (a ++ b) = strN a ++ strN b := by rw [strN, ints_app, str_app]; rfl
theorem size_strN (l : List Nat) : (strN l).size = l.length := by rw [strN, size_str]; simp [ints]
theorem nats_ext (s : ByteArray) (i j : Nat) : nats (s.extract i j) = ((nats s).drop i).take (j - i) := by
  apply ints_inj
  rw [← bytes_ints, bytesOf_ext, bytes_ints]
  simp [ints, List.map_drop, List.map_take]
theorem bt_nats (s : ByteArray) (i : Nat) (h : i < s.size) : bt s (i : Int) = (((nats s).getD i 0 : Nat) : Int) := by
  rw [bt_getD, bytes_ints, Int.toNat_natCast, List.getD_eq_getElem?_getD, List.getD_eq_getElem?_getD, ints, List.getElem?_map]
  have : i < (nats s).length := by rw [nats_len]; exact h
  rw [List.getElem?_eq_getElem this]; rfl
theorem ext_strN (l : List Nat) (h : ∀ x ∈ l, x < 256) (i j : Nat) : (strN l).extract i j = strN ((l.drop i).take (j - i)) := by
  apply nats_inj
  rw [nats_ext, nats_strN h, nats_strN (fun x hx => h x (List.mem_of_mem_drop (List.mem_of_mem_take hx)))]
theorem bt_strN (l : List Nat) (h : ∀ x ∈ l, x < 256) (i : Nat) (hi : i < l.length) : bt (strN l) (i : Int) = ((l[i] : Nat) : Int) := by
  rw [bt_nats _ _ (by rw [size_strN]; exact hi), nats_strN h, List.getD_eq_getElem?_getD, List.getElem?_eq_getElem hi]; rfl

end Go.Proofs.YtkhiiilfokijgaaDoor.Pl
