/- Reading a page that is cut off: plain lemmas. -/
import Derived.Test.YtmfamkkikiglmaaPAllx10
import Derived.Test.YtmfamkkikiglmaaLpage
namespace Go.Proofs.Ytmfamkkikiglmaa.Pl
open Go.RowKit Go.Proofs.Ytmfamkkikiglmaa.PAll Go.Proofs.YtmfamkkikiglmaaW.PrintWords Go.Proofs.YtmfamkkikiglmaaW.PrintLast Go.Proofs.YtmfamkkikiglmaaW.PrintMore
set_option linter.unusedVariables false
set_option linter.unusedSimpArgs false

/-- A text that goes on as a piece and a rest, cut off somewhere: behind the piece, or within it. -/
theorem cut_or {l suf x r : List Nat} (h : l ++ suf = x ++ r) : (∃ l', l = x ++ l' ∧ l' ++ suf = r) ∨ (∃ y, y ≠ [] ∧ x = l ++ y) := by
  rcases Nat.lt_or_ge l.length x.length with hl | hl
  · right
    refine ⟨x.drop l.length, ?_, ?_⟩
    · intro e
      have := congrArg List.length e
      rw [List.length_drop, List.length_nil] at this; omega
    · have e : x.take l.length = l := by
        have := congrArg (List.take l.length) h
        rw [List.take_left, List.take_append_of_le_length (by omega)] at this
        exact this.symm
      calc x = x.take l.length ++ x.drop l.length := (List.take_append_drop _ _).symm
        _ = l ++ x.drop l.length := by rw [e]
  · left
    have e : l.take x.length = x := by
      have := congrArg (List.take x.length) h
      rw [List.take_left, List.take_append_of_le_length hl] at this
      exact this
    refine ⟨l.drop x.length, ?_, ?_⟩
    · calc l = l.take x.length ++ l.drop x.length := (List.take_append_drop _ _).symm
        _ = x ++ l.drop x.length := by rw [e]
    · have := congrArg (List.drop x.length) h
      rwa [List.drop_left, List.drop_append_of_le_length hl] at this
theorem short_lt {l y x : List Nat} (hy : y ≠ []) (hx : x = l ++ y) : l.length < x.length := by
  have := List.length_pos_iff.mpr hy
  rw [hx, List.length_append]; omega
theorem parse_short {fl po se nu : Nat} (hf : fl < 256) (la bo : ByteArray) (hc : chkN la bo = 0) {s : ByteArray} {p b : Nat} {l suf : List Nat}
    (hcut : l ++ suf = pgL fl po se nu la bo) (hl : l ≠ []) (hsuf : suf ≠ []) (h : Rest s p l) (ok : Ok s b) (fa : Int) :
    ∃ q : Nat, Ev (fun k => page_Parse.f k s (p : Int) (b : Int) 0 fa) (0, 0, 0, 0, (⟨#[]⟩ : ByteArray), (⟨#[]⟩ : ByteArray), false, s, (q : Int), (b : Int), 1, (b : Int) + s.size) := by
  have hl2 : la.size ≤ 255 := by
    unfold chkN at hc
    split at hc <;> omega
  have hlong : longN (nats la) = bo.size := by
    unfold chkN at hc
    rw [if_neg (by omega)] at hc
    split at hc
    · assumption
    · omega
  have hlen : 0 < l.length := List.length_pos_iff.mpr hl
  have hok := ok
  obtain ⟨o1, o2⟩ := hok
  have e0 : pgL fl po se nu la bo = nats (⟨#[79, 103, 103, 83]⟩ : ByteArray) ++ (nats (⟨#[0]⟩ : ByteArray) ++ ([fl] ++ (sm po 8 ++ (sm se 4 ++ (sm nu 4 ++ (sm (sumP fl po se nu la bo) 4 ++ ([la.size] ++ (nats la ++ (nats bo ++ []))))))))) := by
    rw [show nats (⟨#[79, 103, 103, 83]⟩ : ByteArray) = [79, 103, 103, 83] from rfl, show nats (⟨#[0]⟩ : ByteArray) = [0] from rfl]
    simp [pgL, hdL, bkL]
  rw [e0] at hcut
  have z1 : (nats (⟨#[79, 103, 103, 83]⟩ : ByteArray)).length = 4 := rfl
  have z2 : (nats (⟨#[0]⟩ : ByteArray)).length = 1 := rfl
  have b2 : bigN [la.size] = la.size := by simp [bigN]
  have hsz := h.size
  have hS := h
  rcases cut_or hcut with ⟨l1, el, hcut⟩ | ⟨y, hy, hx⟩
  case inr =>
    have hL := short_lt hy hx
    have hq : p ≤ s.size := hS.2
    try simp only [z1, z2, sm_len, nats_len, List.length_cons, List.length_nil] at hL
    refine ⟨p, ?_⟩
    unfold page_Parse.f
    refine Ev.bindc (rleft h ok fa) (Ev.iten (by simp only; omega) ?_)
    refine Ev.bind (rwant_short _ hx hy hS ok fa (by decide)) ?_
    refine Ev.bind (want_bad _ _ _ _ _) ?_
    refine Ev.bindc (big_bad s p b ok hq _ _) ?_
    refine Ev.bindc (small_bad s p b ok hq _ _) ?_
    refine Ev.bindc (small_bad s p b ok hq _ _) ?_
    refine Ev.bindc (small_bad s p b ok hq _ _) (Ev.bindc rfl ?_)
    refine Ev.bindc (take_bad s p b ok hq _ _) ?_
    refine Ev.bindc (big_bad s p b ok hq _ _) ?_
    refine Ev.bindc (take_bad s p b ok hq _ _) ?_
    refine Ev.bind (long_ev (⟨#[]⟩ : ByteArray) (by decide)) ?_
    refine Ev.bindc (take_bad s p b ok hq _ _) ?_
    refine Ev.bindc rfl (Ev.bindc rfl (Ev.itep rfl ?_))
    refine Ev.step (fun k => by rw [page_Parse.j0]) (Ev.iten (by decide) ?_)
    refine Ev.step (fun k => by rw [page_Parse.j1]) ?_
    exact Ev.bindc rfl (Ev.bindc rfl (Ev.itep rfl (Ev.some rfl)))
  have hS0 := hS
  rw [el] at hS0
  have h0' := hS0
  replace hS := hS0.next
  try simp only [z1, z2, sm_len, nats_len, List.length_cons, List.length_nil, Nat.zero_add] at hS
  rcases cut_or hcut with ⟨l2, el, hcut⟩ | ⟨y, hy, hx⟩
  case inr =>
    have hL := short_lt hy hx
    have hq : (p + 4) ≤ s.size := hS.2
    try simp only [z1, z2, sm_len, nats_len, List.length_cons, List.length_nil] at hL
    refine ⟨(p + 4), ?_⟩
    unfold page_Parse.f
    refine Ev.bindc (rleft h ok fa) (Ev.iten (by simp only; omega) ?_)
    refine Ev.bind (rwant _ h0' ok fa (by decide)) ?_
    refine Ev.bind (rwant_short _ hx hy hS ok fa (by decide)) ?_
    refine Ev.bindc (big_bad s (p + 4) b ok hq _ _) ?_
    refine Ev.bindc (small_bad s (p + 4) b ok hq _ _) ?_
    refine Ev.bindc (small_bad s (p + 4) b ok hq _ _) ?_
    refine Ev.bindc (small_bad s (p + 4) b ok hq _ _) (Ev.bindc rfl ?_)
    refine Ev.bindc (take_bad s (p + 4) b ok hq _ _) ?_
    refine Ev.bindc (big_bad s (p + 4) b ok hq _ _) ?_
    refine Ev.bindc (take_bad s (p + 4) b ok hq _ _) ?_
    refine Ev.bind (long_ev (⟨#[]⟩ : ByteArray) (by decide)) ?_
    refine Ev.bindc (take_bad s (p + 4) b ok hq _ _) ?_
    refine Ev.bindc rfl (Ev.bindc rfl (Ev.itep rfl ?_))
    refine Ev.step (fun k => by rw [page_Parse.j0]) (Ev.iten (by decide) ?_)
    refine Ev.step (fun k => by rw [page_Parse.j1]) ?_
    exact Ev.bindc rfl (Ev.bindc rfl (Ev.itep rfl (Ev.some rfl)))
  have hS1 := hS
  rw [el] at hS1
  have h1 := hS1
  replace hS := hS1.next
  try simp only [z1, z2, sm_len, nats_len, List.length_cons, List.length_nil, Nat.zero_add] at hS
  rcases cut_or hcut with ⟨l3, el, hcut⟩ | ⟨y, hy, hx⟩
  case inr =>
    have hL := short_lt hy hx
    have hq : (p + 4 + 1) ≤ s.size := hS.2
    try simp only [z1, z2, sm_len, nats_len, List.length_cons, List.length_nil] at hL
    refine ⟨(p + 4 + 1), ?_⟩
    unfold page_Parse.f
    refine Ev.bindc (rleft h ok fa) (Ev.iten (by simp only; omega) ?_)
    refine Ev.bind (rwant _ h0' ok fa (by decide)) ?_
    refine Ev.bind (rwant _ h1 ok fa (by decide)) ?_
    refine Ev.bindc (rbig_short hS ok fa 1 (by decide) hL) ?_
    refine Ev.bindc (small_bad s (p + 4 + 1) b ok hq _ _) ?_
    refine Ev.bindc (small_bad s (p + 4 + 1) b ok hq _ _) ?_
    refine Ev.bindc (small_bad s (p + 4 + 1) b ok hq _ _) (Ev.bindc rfl ?_)
    refine Ev.bindc (take_bad s (p + 4 + 1) b ok hq _ _) ?_
    refine Ev.bindc (big_bad s (p + 4 + 1) b ok hq _ _) ?_
    refine Ev.bindc (take_bad s (p + 4 + 1) b ok hq _ _) ?_
    refine Ev.bind (long_ev (⟨#[]⟩ : ByteArray) (by decide)) ?_
    refine Ev.bindc (take_bad s (p + 4 + 1) b ok hq _ _) ?_
    refine Ev.bindc rfl (Ev.bindc rfl (Ev.itep rfl ?_))
    refine Ev.step (fun k => by rw [page_Parse.j0]) (Ev.iten (by decide) ?_)
    refine Ev.step (fun k => by rw [page_Parse.j1]) ?_
    exact Ev.bindc rfl (Ev.bindc rfl (Ev.itep rfl (Ev.some rfl)))
  have hS2 := hS
  rw [el] at hS2
  have h2 := hS2
  replace hS := hS2.next
  try simp only [z1, z2, sm_len, nats_len, List.length_cons, List.length_nil, Nat.zero_add] at hS
  rcases cut_or hcut with ⟨l4, el, hcut⟩ | ⟨y, hy, hx⟩
  case inr =>
    have hL := short_lt hy hx
    have hq : (p + 4 + 1 + 1) ≤ s.size := hS.2
    try simp only [z1, z2, sm_len, nats_len, List.length_cons, List.length_nil] at hL
    refine ⟨(p + 4 + 1 + 1), ?_⟩
    unfold page_Parse.f
    refine Ev.bindc (rleft h ok fa) (Ev.iten (by simp only; omega) ?_)
    refine Ev.bind (rwant _ h0' ok fa (by decide)) ?_
    refine Ev.bind (rwant _ h1 ok fa (by decide)) ?_
    refine Ev.bindc (rbig h2 ok fa 1 rfl (by simp)) ?_
    refine Ev.bindc (rsmall_short hS ok fa 8 (by decide) hL) ?_
    refine Ev.bindc (small_bad s (p + 4 + 1 + 1) b ok hq _ _) ?_
    refine Ev.bindc (small_bad s (p + 4 + 1 + 1) b ok hq _ _) (Ev.bindc rfl ?_)
    refine Ev.bindc (take_bad s (p + 4 + 1 + 1) b ok hq _ _) ?_
    refine Ev.bindc (big_bad s (p + 4 + 1 + 1) b ok hq _ _) ?_
    refine Ev.bindc (take_bad s (p + 4 + 1 + 1) b ok hq _ _) ?_
    refine Ev.bind (long_ev (⟨#[]⟩ : ByteArray) (by decide)) ?_
    refine Ev.bindc (take_bad s (p + 4 + 1 + 1) b ok hq _ _) ?_
    refine Ev.bindc rfl (Ev.bindc rfl (Ev.itep rfl ?_))
    refine Ev.step (fun k => by rw [page_Parse.j0]) (Ev.iten (by decide) ?_)
    refine Ev.step (fun k => by rw [page_Parse.j1]) ?_
    exact Ev.bindc rfl (Ev.bindc rfl (Ev.itep rfl (Ev.some rfl)))
  have hS3 := hS
  rw [el] at hS3
  have h3 := hS3
  replace hS := hS3.next
  try simp only [z1, z2, sm_len, nats_len, List.length_cons, List.length_nil, Nat.zero_add] at hS
  rcases cut_or hcut with ⟨l5, el, hcut⟩ | ⟨y, hy, hx⟩
  case inr =>
    have hL := short_lt hy hx
    have hq : (p + 4 + 1 + 1 + 8) ≤ s.size := hS.2
    try simp only [z1, z2, sm_len, nats_len, List.length_cons, List.length_nil] at hL
    refine ⟨(p + 4 + 1 + 1 + 8), ?_⟩
    unfold page_Parse.f
    refine Ev.bindc (rleft h ok fa) (Ev.iten (by simp only; omega) ?_)
    refine Ev.bind (rwant _ h0' ok fa (by decide)) ?_
    refine Ev.bind (rwant _ h1 ok fa (by decide)) ?_
    refine Ev.bindc (rbig h2 ok fa 1 rfl (by simp)) ?_
    refine Ev.bindc (rsmall h3 ok fa 8 (by rw [sm_len]; rfl) (by rw [sm_len]; omega)) ?_
    refine Ev.bindc (rsmall_short hS ok fa 4 (by decide) hL) ?_
    refine Ev.bindc (small_bad s (p + 4 + 1 + 1 + 8) b ok hq _ _) (Ev.bindc rfl ?_)
    refine Ev.bindc (take_bad s (p + 4 + 1 + 1 + 8) b ok hq _ _) ?_
    refine Ev.bindc (big_bad s (p + 4 + 1 + 1 + 8) b ok hq _ _) ?_
    refine Ev.bindc (take_bad s (p + 4 + 1 + 1 + 8) b ok hq _ _) ?_
    refine Ev.bind (long_ev (⟨#[]⟩ : ByteArray) (by decide)) ?_
    refine Ev.bindc (take_bad s (p + 4 + 1 + 1 + 8) b ok hq _ _) ?_
    refine Ev.bindc rfl (Ev.bindc rfl (Ev.itep rfl ?_))
    refine Ev.step (fun k => by rw [page_Parse.j0]) (Ev.iten (by decide) ?_)
    refine Ev.step (fun k => by rw [page_Parse.j1]) ?_
    exact Ev.bindc rfl (Ev.bindc rfl (Ev.itep rfl (Ev.some rfl)))
  have hS4 := hS
  rw [el] at hS4
  have h4 := hS4
  replace hS := hS4.next
  try simp only [z1, z2, sm_len, nats_len, List.length_cons, List.length_nil, Nat.zero_add] at hS
  rcases cut_or hcut with ⟨l6, el, hcut⟩ | ⟨y, hy, hx⟩
  case inr =>
    have hL := short_lt hy hx
    have hq : (p + 4 + 1 + 1 + 8 + 4) ≤ s.size := hS.2
    try simp only [z1, z2, sm_len, nats_len, List.length_cons, List.length_nil] at hL
    refine ⟨(p + 4 + 1 + 1 + 8 + 4), ?_⟩
    unfold page_Parse.f
    refine Ev.bindc (rleft h ok fa) (Ev.iten (by simp only; omega) ?_)
    refine Ev.bind (rwant _ h0' ok fa (by decide)) ?_
    refine Ev.bind (rwant _ h1 ok fa (by decide)) ?_
    refine Ev.bindc (rbig h2 ok fa 1 rfl (by simp)) ?_
    refine Ev.bindc (rsmall h3 ok fa 8 (by rw [sm_len]; rfl) (by rw [sm_len]; omega)) ?_
    refine Ev.bindc (rsmall (by rw [sm_len]; exact h4) ok fa 4 (by rw [sm_len]; rfl) (by rw [sm_len]; omega)) ?_
    refine Ev.bindc (rsmall_short hS ok fa 4 (by decide) hL) (Ev.bindc rfl ?_)
    refine Ev.bindc (take_bad s (p + 4 + 1 + 1 + 8 + 4) b ok hq _ _) ?_
    refine Ev.bindc (big_bad s (p + 4 + 1 + 1 + 8 + 4) b ok hq _ _) ?_
    refine Ev.bindc (take_bad s (p + 4 + 1 + 1 + 8 + 4) b ok hq _ _) ?_
    refine Ev.bind (long_ev (⟨#[]⟩ : ByteArray) (by decide)) ?_
    refine Ev.bindc (take_bad s (p + 4 + 1 + 1 + 8 + 4) b ok hq _ _) ?_
    refine Ev.bindc rfl (Ev.bindc rfl (Ev.itep rfl ?_))
    refine Ev.step (fun k => by rw [page_Parse.j0]) (Ev.iten (by decide) ?_)
    refine Ev.step (fun k => by rw [page_Parse.j1]) ?_
    exact Ev.bindc rfl (Ev.bindc rfl (Ev.itep rfl (Ev.some rfl)))
  have hS5 := hS
  rw [el] at hS5
  have h5 := hS5
  replace hS := hS5.next
  try simp only [z1, z2, sm_len, nats_len, List.length_cons, List.length_nil, Nat.zero_add] at hS
  rcases cut_or hcut with ⟨l7, el, hcut⟩ | ⟨y, hy, hx⟩
  case inr =>
    have hL := short_lt hy hx
    have hq : (p + 4 + 1 + 1 + 8 + 4 + 4) ≤ s.size := hS.2
    try simp only [z1, z2, sm_len, nats_len, List.length_cons, List.length_nil] at hL
    refine ⟨(p + 4 + 1 + 1 + 8 + 4 + 4), ?_⟩
    unfold page_Parse.f
    refine Ev.bindc (rleft h ok fa) (Ev.iten (by simp only; omega) ?_)
    refine Ev.bind (rwant _ h0' ok fa (by decide)) ?_
    refine Ev.bind (rwant _ h1 ok fa (by decide)) ?_
    refine Ev.bindc (rbig h2 ok fa 1 rfl (by simp)) ?_
    refine Ev.bindc (rsmall h3 ok fa 8 (by rw [sm_len]; rfl) (by rw [sm_len]; omega)) ?_
    refine Ev.bindc (rsmall (by rw [sm_len]; exact h4) ok fa 4 (by rw [sm_len]; rfl) (by rw [sm_len]; omega)) ?_
    refine Ev.bindc (rsmall (by rw [sm_len, sm_len]; exact h5) ok fa 4 (by rw [sm_len]; rfl) (by rw [sm_len]; omega)) (Ev.bindc rfl ?_)
    simp only [sm_len, List.length_cons, List.length_nil]
    refine Ev.bindc (rtake_short hS ok fa 4 (by omega)) ?_
    refine Ev.bindc (big_bad s (p + 4 + 1 + 1 + 8 + 4 + 4) b ok hq _ _) ?_
    refine Ev.bindc (take_bad s (p + 4 + 1 + 1 + 8 + 4 + 4) b ok hq _ _) ?_
    refine Ev.bind (long_ev (⟨#[]⟩ : ByteArray) (by decide)) ?_
    refine Ev.bindc (take_bad s (p + 4 + 1 + 1 + 8 + 4 + 4) b ok hq _ _) ?_
    refine Ev.bindc rfl (Ev.bindc rfl (Ev.itep rfl ?_))
    refine Ev.step (fun k => by rw [page_Parse.j0]) (Ev.iten (by decide) ?_)
    refine Ev.step (fun k => by rw [page_Parse.j1]) ?_
    exact Ev.bindc rfl (Ev.bindc rfl (Ev.itep rfl (Ev.some rfl)))
  have hS6 := hS
  rw [el] at hS6
  have h6 := hS6
  replace hS := hS6.next
  try simp only [z1, z2, sm_len, nats_len, List.length_cons, List.length_nil, Nat.zero_add] at hS
  rcases cut_or hcut with ⟨l8, el, hcut⟩ | ⟨y, hy, hx⟩
  case inr =>
    have hL := short_lt hy hx
    have hq : (p + 4 + 1 + 1 + 8 + 4 + 4 + 4) ≤ s.size := hS.2
    try simp only [z1, z2, sm_len, nats_len, List.length_cons, List.length_nil] at hL
    refine ⟨(p + 4 + 1 + 1 + 8 + 4 + 4 + 4), ?_⟩
    unfold page_Parse.f
    refine Ev.bindc (rleft h ok fa) (Ev.iten (by simp only; omega) ?_)
    refine Ev.bind (rwant _ h0' ok fa (by decide)) ?_
    refine Ev.bind (rwant _ h1 ok fa (by decide)) ?_
    refine Ev.bindc (rbig h2 ok fa 1 rfl (by simp)) ?_
    refine Ev.bindc (rsmall h3 ok fa 8 (by rw [sm_len]; rfl) (by rw [sm_len]; omega)) ?_
    refine Ev.bindc (rsmall (by rw [sm_len]; exact h4) ok fa 4 (by rw [sm_len]; rfl) (by rw [sm_len]; omega)) ?_
    refine Ev.bindc (rsmall (by rw [sm_len, sm_len]; exact h5) ok fa 4 (by rw [sm_len]; rfl) (by rw [sm_len]; omega)) (Ev.bindc rfl ?_)
    simp only [sm_len, List.length_cons, List.length_nil]
    refine Ev.bindc (rtake h6 ok fa 4 (by rw [sm_len]; rfl)) ?_
    simp only [sm_len]
    refine Ev.bindc (rbig_short hS ok fa 1 (by decide) hL) ?_
    refine Ev.bindc (take_bad s (p + 4 + 1 + 1 + 8 + 4 + 4 + 4) b ok hq _ _) ?_
    refine Ev.bind (long_ev (⟨#[]⟩ : ByteArray) (by decide)) ?_
    refine Ev.bindc (take_bad s (p + 4 + 1 + 1 + 8 + 4 + 4 + 4) b ok hq _ _) ?_
    refine Ev.bindc rfl (Ev.bindc rfl (Ev.itep rfl ?_))
    refine Ev.step (fun k => by rw [page_Parse.j0]) (Ev.iten (by decide) ?_)
    refine Ev.step (fun k => by rw [page_Parse.j1]) ?_
    exact Ev.bindc rfl (Ev.bindc rfl (Ev.itep rfl (Ev.some rfl)))
  have hS7 := hS
  rw [el] at hS7
  have h7 := hS7
  replace hS := hS7.next
  try simp only [z1, z2, sm_len, nats_len, List.length_cons, List.length_nil, Nat.zero_add] at hS
  rcases cut_or hcut with ⟨l9, el, hcut⟩ | ⟨y, hy, hx⟩
  case inr =>
    have hL := short_lt hy hx
    have hq : (p + 4 + 1 + 1 + 8 + 4 + 4 + 4 + 1) ≤ s.size := hS.2
    try simp only [z1, z2, sm_len, nats_len, List.length_cons, List.length_nil] at hL
    refine ⟨(p + 4 + 1 + 1 + 8 + 4 + 4 + 4 + 1), ?_⟩
    unfold page_Parse.f
    refine Ev.bindc (rleft h ok fa) (Ev.iten (by simp only; omega) ?_)
    refine Ev.bind (rwant _ h0' ok fa (by decide)) ?_
    refine Ev.bind (rwant _ h1 ok fa (by decide)) ?_
    refine Ev.bindc (rbig h2 ok fa 1 rfl (by simp)) ?_
    refine Ev.bindc (rsmall h3 ok fa 8 (by rw [sm_len]; rfl) (by rw [sm_len]; omega)) ?_
    refine Ev.bindc (rsmall (by rw [sm_len]; exact h4) ok fa 4 (by rw [sm_len]; rfl) (by rw [sm_len]; omega)) ?_
    refine Ev.bindc (rsmall (by rw [sm_len, sm_len]; exact h5) ok fa 4 (by rw [sm_len]; rfl) (by rw [sm_len]; omega)) (Ev.bindc rfl ?_)
    simp only [sm_len, List.length_cons, List.length_nil]
    refine Ev.bindc (rtake h6 ok fa 4 (by rw [sm_len]; rfl)) ?_
    simp only [sm_len]
    refine Ev.bindc (rbig h7 ok fa 1 rfl (by simp)) ?_
    simp only [b2, List.length_cons, List.length_nil]
    rw [w64 (n := (la.size : Int)) (by omega)]
    refine Ev.bindc (rtake_short hS ok fa _ (by omega)) ?_
    refine Ev.bind (long_ev (⟨#[]⟩ : ByteArray) (by decide)) ?_
    refine Ev.bindc (take_bad s (p + 4 + 1 + 1 + 8 + 4 + 4 + 4 + 1) b ok hq _ _) ?_
    refine Ev.bindc rfl (Ev.bindc rfl (Ev.itep rfl ?_))
    refine Ev.step (fun k => by rw [page_Parse.j0]) (Ev.iten (by decide) ?_)
    refine Ev.step (fun k => by rw [page_Parse.j1]) ?_
    exact Ev.bindc rfl (Ev.bindc rfl (Ev.itep rfl (Ev.some rfl)))
  have hS8 := hS
  rw [el] at hS8
  have h8 := hS8
  replace hS := hS8.next
  try simp only [z1, z2, sm_len, nats_len, List.length_cons, List.length_nil, Nat.zero_add] at hS
  rcases cut_or hcut with ⟨l10, el, hcut⟩ | ⟨y, hy, hx⟩
  case inr =>
    have hL := short_lt hy hx
    have hq : (p + 4 + 1 + 1 + 8 + 4 + 4 + 4 + 1 + la.size) ≤ s.size := hS.2
    try simp only [z1, z2, sm_len, nats_len, List.length_cons, List.length_nil] at hL
    refine ⟨(p + 4 + 1 + 1 + 8 + 4 + 4 + 4 + 1 + la.size), ?_⟩
    unfold page_Parse.f
    refine Ev.bindc (rleft h ok fa) (Ev.iten (by simp only; omega) ?_)
    refine Ev.bind (rwant _ h0' ok fa (by decide)) ?_
    refine Ev.bind (rwant _ h1 ok fa (by decide)) ?_
    refine Ev.bindc (rbig h2 ok fa 1 rfl (by simp)) ?_
    refine Ev.bindc (rsmall h3 ok fa 8 (by rw [sm_len]; rfl) (by rw [sm_len]; omega)) ?_
    refine Ev.bindc (rsmall (by rw [sm_len]; exact h4) ok fa 4 (by rw [sm_len]; rfl) (by rw [sm_len]; omega)) ?_
    refine Ev.bindc (rsmall (by rw [sm_len, sm_len]; exact h5) ok fa 4 (by rw [sm_len]; rfl) (by rw [sm_len]; omega)) (Ev.bindc rfl ?_)
    simp only [sm_len, List.length_cons, List.length_nil]
    refine Ev.bindc (rtake h6 ok fa 4 (by rw [sm_len]; rfl)) ?_
    simp only [sm_len]
    refine Ev.bindc (rbig h7 ok fa 1 rfl (by simp)) ?_
    simp only [b2, List.length_cons, List.length_nil]
    rw [w64 (n := (la.size : Int)) (by omega)]
    refine Ev.bindc (rtake h8 ok fa _ (by rw [nats_len])) ?_
    simp only [strN_nats, nats_len]
    refine Ev.bind (long_ev la (by omega)) ?_
    refine Ev.bindc (rtake_short hS ok fa _ (by omega)) ?_
    refine Ev.bindc rfl (Ev.bindc rfl (Ev.itep rfl ?_))
    refine Ev.step (fun k => by rw [page_Parse.j0]) (Ev.iten (by decide) ?_)
    refine Ev.step (fun k => by rw [page_Parse.j1]) ?_
    exact Ev.bindc rfl (Ev.bindc rfl (Ev.itep rfl (Ev.some rfl)))
  have hcut' := congrArg List.length hcut
  rw [List.length_append, List.length_nil] at hcut'
  have := List.length_pos_iff.mpr hsuf
  omega

end Go.Proofs.Ytmfamkkikiglmaa.Pl
