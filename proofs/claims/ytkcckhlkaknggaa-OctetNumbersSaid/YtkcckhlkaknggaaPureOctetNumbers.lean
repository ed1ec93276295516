/- Numbers as bytes, of any size, are the document's, and are read as they were: the plain law. -/
import Derived.Test.YtkcckhlkaknggaaPAllx2
import Derived.Test.YtkcckhlkaknggaaPAllx3
import Derived.Test.YtkcckhlkaknggaaPAllx7
import Derived.Test.YtkcckhlkaknggaaPAllx8
import Derived.Test.YtkcckhlkaknggaaLrd
import Derived.Test.YtkcckhlkaknggaaLback
namespace Go.Proofs.Ytkcckhlkaknggaa.Pure
open Go.RowKit Go.Proofs.Ytkcckhlkaknggaa.PAll Go.Proofs.Ytkcckhlkaknggaa.Pl Go.Proofs.YtkcckhlkaknggaaW.PrintWords Go.Proofs.YtkcckhlkaknggaaW.PrintLast
set_option linter.unusedSimpArgs false

theorem awake01 : Ev (fun k => diacriticlaw01_awake.f k) true := Ev.of diacriticlaw01_awake.mono (k := 40) (by kernel_rfl)
theorem power_loop (c : Nat) (hc : c ≤ 7) : ∀ (d i : Nat), i + d = c → Ev (fun k => diacriticref01_Power.l0 k (c : Int) ((256 ^ i : Nat) : Int) (i : Int)) ((256 ^ c : Nat) : Int)
  | 0, i, hi => by
    obtain rfl : i = c := by omega
    exact Ev.step (fun k => by rw [diacriticref01_Power.l0]) (Ev.iten (by omega) (Ev.some rfl))
  | d + 1, i, hi => by
    refine Ev.step (fun k => by rw [diacriticref01_Power.l0]) (Ev.itep (by omega) ?_)
    have hp : 256 ^ (i + 1) ≤ 256 ^ 7 := pow_le8 (by omega)
    have e : ((256 ^ i : Nat) : Int) * 256 = ((256 ^ (i + 1) : Nat) : Int) := by rw [Nat.pow_succ]; omega
    have h7 : (256 : Nat) ^ 7 = 72057594037927936 := by decide
    rw [h7] at hp
    generalize hg : 256 ^ (i + 1) = g at e hp
    rw [e, wu64 (by omega), show wrap64 ((i : Int) + 1) = ((i + 1 : Nat) : Int) by rw [w64 (by omega)]; omega]
    rw [← hg]
    exact power_loop c hc d (i + 1) (by omega)
theorem power_ev (c : Nat) (hc : c ≤ 7) : Ev (fun k => diacriticref01_Power.f k (c : Int)) ((256 ^ c : Nat) : Int) := power_loop c hc c 0 (by omega)
theorem read_big (x : List Nat) (hx : ∀ y ∈ x, y < 256) (size : Int) (hc : x.length = clamp size) :
    octet_In_Big.f (strN x) 0 0 0 0 size = some (((bigN x : Nat) : Int), strN x, ((x.length : Nat) : Int), 0, 0, 0) := by
  have h : Pl.Rest (strN x) 0 (x ++ []) := by rw [List.append_nil]; exact Pl.Rest.strN hx
  have ok : Ok (strN x) 0 := ⟨by rw [size_strN, hc]; have := clamp_le size; omega, by omega⟩
  have := rbig h ok 0 (x.length : Int) rfl (by rw [hc]; exact clamp_le size)
  unfold octet_In_Big.f at this ⊢
  rw [clamp_id _ (by rw [hc]; exact clamp_le size)] at this
  rw [Nat.zero_add] at this
  rw [clamp_mn, ← hc]
  exact this
theorem read_small (x : List Nat) (hx : ∀ y ∈ x, y < 256) (size : Int) (hc : x.length = clamp size) :
    octet_In_Small.f (strN x) 0 0 0 0 size = some (((smN x : Nat) : Int), strN x, ((x.length : Nat) : Int), 0, 0, 0) := by
  have h : Pl.Rest (strN x) 0 (x ++ []) := by rw [List.append_nil]; exact Pl.Rest.strN hx
  have ok : Ok (strN x) 0 := ⟨by rw [size_strN, hc]; have := clamp_le size; omega, by omega⟩
  have := rsmall h ok 0 (x.length : Int) rfl (by rw [hc]; exact clamp_le size)
  unfold octet_In_Small.f at this ⊢
  rw [clamp_id _ (by rw [hc]; exact clamp_le size)] at this
  rw [Nat.zero_add] at this
  rw [clamp_mn, ← hc]
  exact this
theorem numbers_end (n : Nat) (hn : n < 18446744073709551616) (size : Int) :
    Ev (fun k => diacriticlaw01_OctetNumbers.j1 k size (strN (sm n (clamp size)).reverse) (strN (sm n (clamp size))) ((n % 256 ^ clamp size : Nat) : Int)) true := by
  have hl := sm_lt n (clamp size)
  have hl2 : ∀ y ∈ (sm n (clamp size)).reverse, y < 256 := fun y hy => hl y (List.mem_reverse.mp hy)
  have b := read_big (sm n (clamp size)).reverse hl2 size (by rw [List.length_reverse, sm_len])
  have s := read_small (sm n (clamp size)) hl size (sm_len _ _)
  rw [bigN_sm] at b
  rw [smN_sm] at s
  refine Ev.step (fun k => by rw [diacriticlaw01_OctetNumbers.j1]) ?_
  refine Ev.bindc rfl (Ev.bindc rfl (Ev.bind awake01 (Ev.itep rfl (Ev.bindc b (Ev.itep rfl (Ev.bindc s (Ev.itep rfl ?_)))))))
  have hsz : (strN (sm n (clamp size)).reverse).size = (sm n (clamp size)).reverse.length := size_strN _
  refine Ev.bindc (show octet_In_Left.f (strN (sm n (clamp size)).reverse) (((sm n (clamp size)).reverse.length : Nat) : Int) 0 0 0 = some (0, strN (sm n (clamp size)).reverse, (((sm n (clamp size)).reverse.length : Nat) : Int), 0, 0, 0) by
    unfold octet_In_Left.f api_Fault_Bad.f
    rw [Option.bind_some, if_neg (by decide), hsz, Int.sub_self, w64 (by omega)]) ?_
  exact Ev.itep rfl (Ev.bindc rfl (Ev.bindc rfl (Ev.some rfl)))
theorem OctetNumbers : diacriticlaw01_OctetNumbers.Pure := by
  intro a0 size h0 _
  have hr := wf_u64 h0
  obtain ⟨n, rfl⟩ := Int.eq_ofNat_of_zero_le hr.1
  have hn : n < 18446744073709551616 := by omega
  apply Ev.rounds
  have hl := sm_lt n (clamp size)
  have hc := clamp_le size
  unfold diacriticlaw01_OctetNumbers.f
  refine Ev.bind (big_ev n size) (Ev.bind (small_ev n size) (Ev.bind (refbig_ev n hn size) (Ev.itep rfl (Ev.bind (refsmall_ev n hn size) (Ev.itep rfl ?_)))))
  refine Ev.bind (refback_ev _ (by rw [size_str]; simp [ints, sm_len]; omega)) ?_
  rw [rev_str _ hl, bne_self_eq_false]
  refine Ev.step (fun k => by rw [diacriticlaw01_OctetNumbers.j0]) (Ev.iten (by decide) (Ev.bindc (refsize size) ?_))
  by_cases h8 : clamp size < 8
  · refine Ev.itep (by omega) (Ev.bind (power_ev (clamp size) (by omega)) ?_)
    have hp : 0 < 256 ^ clamp size := Nat.pow_pos (by decide)
    refine Ev.iten (by omega) ?_
    rw [show Int.tmod (n : Int) ((256 ^ clamp size : Nat) : Int) = ((n % 256 ^ clamp size : Nat) : Int) by rw [Int.tmod_eq_emod_of_nonneg (by omega)]; omega]
    exact numbers_end n hn size
  · refine Ev.iten (by omega) ?_
    have e : clamp size = 8 := by omega
    have h := numbers_end n hn size
    rw [e] at h ⊢
    rw [Nat.mod_eq_of_lt (show n < 256 ^ 8 by omega)] at h
    exact h

end Go.Proofs.Ytkcckhlkaknggaa.Pure
