/- Updates' walks: Right, fair. -/
import Derived.Test.YtpldkplfdbjidaaUpdPure
import Derived.Test.YtpldkplfdbjidaaIdsW
import Derived.Test.YtpldkplfdbjidaaEqF
set_option linter.unusedVariables false
set_option linter.unusedSimpArgs false
namespace Go.Proofs.Ytpldkplfdbjidaa.Upd
open Go.RowKit Go.Proofs.Ytpldkplfdbjidaa.Wd Go.Proofs.Ytpldkplfdbjidaa.Use Go.Proofs.Ytpldkplfdbjidaa.Lay Go.Proofs.Ytpldkplfdbjidaa.Ids

/-- an update's cells -/
def ucs (u : U) (pv : Value) : List Value := [.int .i64 u.au, .int .u64 u.ct, pv, .int .i64 u.kd, .string (str u.ky), .string (str u.vl)]
structure UIn (W : World) (u : U) (pv : Value) : Prop where
  ps : Rd W 32 pv u.ps.length (ix u.ps)
  w32 : W32 u.ps
  au : I64 u.au
  kd : I64 u.kd
  ct : u.ct < 18446744073709551616
  ky : u.ky.length ≤ 9223372036854775807
  vl : u.vl.length ≤ 9223372036854775807
theorem UIn.below {W W1 : World} {u : U} {pv : Value} (h : UIn W u pv) (hb : Below W.heap.size W W1) : UIn W1 u pv := ⟨h.ps.below hb, h.w32, h.au, h.kd, h.ct, h.ky, h.vl⟩
theorem ucells {W : World} {g : Nat} {a b c d e f : Value} {t : TypeId} (h : W.heap[g]? = some (.cells #[a, b, c, d, e, f] t (0, 0))) : W.cell? ⟨g, 0, none⟩ = some a ∧ W.cell? ⟨g, 1, none⟩ = some b ∧ W.cell? ⟨g, 2, none⟩ = some c ∧ W.cell? ⟨g, 3, none⟩ = some d ∧ W.cell? ⟨g, 4, none⟩ = some e ∧ W.cell? ⟨g, 5, none⟩ = some f := by
  refine ⟨?_, ?_, ?_, ?_, ?_, ?_⟩ <;> (rw [blk_cell h]; rfl)
set_option maxRecDepth 100000 in
set_option maxHeartbeats 4000000 in
theorem Right_any (u : U) (pv : Value) (w : World) (hu : UIn w u pv) : Calls Try.prog 109 #[.agg #[.int .i64 u.au, .int .u64 u.ct, pv, .int .i64 u.kd, .string (str u.ky), .string (str u.vl)]] w fun r w' => r = .returned (.bool u.right) ∧ Below w.heap.size w w' := by
  obtain ⟨A, c, rfl, hc1, hc2, -⟩ := hu.ps.slice_
  unfold maxLen at hc2
  obtain ⟨hps, h32, ⟨a1, a2⟩, ⟨k1, k2⟩, hct, hky, hvl⟩ := hu
  obtain ⟨au, ct, ps, kd, ky, vl⟩ := u
  simp only at hps h32 a1 a2 k1 k2 hct hky hvl hc1 ⊢
  have hr : U.right ⟨au, ct, ps, kd, ky, vl⟩ = (decide (0 ≤ au ∧ au < 16) && decide (ct ≠ 0) && decide (ps.length ≤ 8) && up ps && decide (0 ≤ kd ∧ kd ≤ 2) && decide (ky.length ≤ 64) && decide (vl.length ≤ 64) && (decide (kd = 2) || decide (vl = []))) := rfl
  generalize U.right ⟨au, ct, ps, kd, ky, vl⟩ = r at hr ⊢
  have hri := fun (hn : ps.length ≤ 1000000) (W : World) (h : Below w.heap.size w W) => Ids.Right_any (.slice A ps.length c) ps h32 hn W (hps.below h)
  generalize up ps = U1 at hr hri
  obtain ⟨n, hn⟩ : ∃ n, n = ps.length := ⟨_, rfl⟩
  rw [← hn] at hr hri hc1 ⊢
  have Hr := Lib.hid hr
  have Hri := Lib.hid hri
  clear hr hri hps h32 hn
  by_cases h1 : 0 ≤ au
  rotate_left
  · have d1 : decide (au < 0) = true := decide_eq_true (by omega)
    have Hf := Lib.hid (show r = false by rw [Hr.out, decide_eq_false (show ¬ (0 ≤ au ∧ au < 16) by omega)]; rfl)
    go_enter Try.func109, Try.ntmps109
    go_wp2_with (go_at_call 25; refine (Hri.out (by omega) _ (below_one _ _)).mono ?_; rintro e w5 ⟨rfl, hb5⟩; obtain ⟨x0, x1, x2, x3, x4, x5⟩ := ucells (blk_below (heap_alloc_new w _) hb5))
    go_ret
    exact ⟨ret_b Hf.out.symm, below_one _ _⟩
  have d1 : decide (au < 0) = false := decide_eq_false (by omega)
  by_cases h2 : au < 16
  rotate_left
  · have d2 : decide (16 ≤ au) = true := decide_eq_true (by omega)
    have Hf := Lib.hid (show r = false by rw [Hr.out, decide_eq_false (show ¬ (0 ≤ au ∧ au < 16) by omega)]; rfl)
    go_enter Try.func109, Try.ntmps109
    go_wp2_with (go_at_call 25; refine (Hri.out (by omega) _ (below_one _ _)).mono ?_; rintro e w5 ⟨rfl, hb5⟩; obtain ⟨x0, x1, x2, x3, x4, x5⟩ := ucells (blk_below (heap_alloc_new w _) hb5))
    go_ret
    exact ⟨ret_b Hf.out.symm, below_one _ _⟩
  have d2 : decide (16 ≤ au) = false := decide_eq_false (by omega)
  by_cases h3 : ct ≠ 0
  rotate_left
  · obtain rfl : ct = 0 := by omega
    have d3 : (((0 : Nat) : Int) == 0) = true := rfl
    have Hf := Lib.hid (show r = false by rw [Hr.out, decide_eq_false h3]; simp)
    go_enter Try.func109, Try.ntmps109
    go_wp2_with (go_at_call 25; refine (Hri.out (by omega) _ (below_one _ _)).mono ?_; rintro e w5 ⟨rfl, hb5⟩; obtain ⟨x0, x1, x2, x3, x4, x5⟩ := ucells (blk_below (heap_alloc_new w _) hb5))
    go_ret
    exact ⟨ret_b Hf.out.symm, below_one _ _⟩
  have d3 : ((ct : Int) == 0) = false := by rw [beq_eq_false_iff_ne]; omega
  by_cases h4 : n ≤ 8
  rotate_left
  · have d4 : decide (8 < (n : Int)) = true := decide_eq_true (by omega)
    have Hf := Lib.hid (show r = false by rw [Hr.out, decide_eq_false h4]; simp)
    go_enter Try.func109, Try.ntmps109
    go_wp2_with (go_at_call 25; refine (Hri.out (by omega) _ (below_one _ _)).mono ?_; rintro e w5 ⟨rfl, hb5⟩; obtain ⟨x0, x1, x2, x3, x4, x5⟩ := ucells (blk_below (heap_alloc_new w _) hb5))
    go_ret
    exact ⟨ret_b Hf.out.symm, below_one _ _⟩
  have d4 : decide (8 < (n : Int)) = false := decide_eq_false (by omega)
  by_cases h5 : U1 = true
  rotate_left
  · obtain rfl : U1 = false := by simpa using h5
    have Hf := Lib.hid (show r = false by rw [Hr.out]; simp)
    go_enter Try.func109, Try.ntmps109
    go_wp2_with (go_at_call 25; refine (Hri.out (by omega) _ (below_one _ _)).mono ?_; rintro e w5 ⟨rfl, hb5⟩; obtain ⟨x0, x1, x2, x3, x4, x5⟩ := ucells (blk_below (heap_alloc_new w _) hb5))
    go_ret
    exact ⟨ret_b Hf.out.symm, below_go hb5 (below_one _ _)⟩
  subst h5
  by_cases h6 : 0 ≤ kd
  rotate_left
  · have d6 : decide (kd < 0) = true := decide_eq_true (by omega)
    have Hf := Lib.hid (show r = false by rw [Hr.out, decide_eq_false (show ¬ (0 ≤ kd ∧ kd ≤ 2) by omega)]; simp)
    go_enter Try.func109, Try.ntmps109
    go_wp2_with (go_at_call 25; refine (Hri.out (by omega) _ (below_one _ _)).mono ?_; rintro e w5 ⟨rfl, hb5⟩; obtain ⟨x0, x1, x2, x3, x4, x5⟩ := ucells (blk_below (heap_alloc_new w _) hb5))
    go_ret
    exact ⟨ret_b Hf.out.symm, below_go hb5 (below_one _ _)⟩
  have d6 : decide (kd < 0) = false := decide_eq_false (by omega)
  by_cases h7 : kd ≤ 2
  rotate_left
  · have d7 : decide (2 < kd) = true := decide_eq_true (by omega)
    have Hf := Lib.hid (show r = false by rw [Hr.out, decide_eq_false (show ¬ (0 ≤ kd ∧ kd ≤ 2) by omega)]; simp)
    go_enter Try.func109, Try.ntmps109
    go_wp2_with (go_at_call 25; refine (Hri.out (by omega) _ (below_one _ _)).mono ?_; rintro e w5 ⟨rfl, hb5⟩; obtain ⟨x0, x1, x2, x3, x4, x5⟩ := ucells (blk_below (heap_alloc_new w _) hb5))
    go_ret
    exact ⟨ret_b Hf.out.symm, below_go hb5 (below_one _ _)⟩
  have d7 : decide (2 < kd) = false := decide_eq_false (by omega)
  by_cases h8 : ky.length ≤ 64
  rotate_left
  · have d8 : decide (64 < (ky.length : Int)) = true := decide_eq_true (by omega)
    have Hf := Lib.hid (show r = false by rw [Hr.out, decide_eq_false h8]; simp)
    go_enter Try.func109, Try.ntmps109
    go_wp2_with (go_at_call 25; refine (Hri.out (by omega) _ (below_one _ _)).mono ?_; rintro e w5 ⟨rfl, hb5⟩; obtain ⟨x0, x1, x2, x3, x4, x5⟩ := ucells (blk_below (heap_alloc_new w _) hb5))
    go_ret
    exact ⟨ret_b Hf.out.symm, below_go hb5 (below_one _ _)⟩
  have d8 : decide (64 < (ky.length : Int)) = false := decide_eq_false (by omega)
  by_cases h9 : vl.length ≤ 64
  rotate_left
  · have d9 : decide (64 < (vl.length : Int)) = true := decide_eq_true (by omega)
    have Hf := Lib.hid (show r = false by rw [Hr.out, decide_eq_false h9]; simp)
    go_enter Try.func109, Try.ntmps109
    go_wp2_with (go_at_call 25; refine (Hri.out (by omega) _ (below_one _ _)).mono ?_; rintro e w5 ⟨rfl, hb5⟩; obtain ⟨x0, x1, x2, x3, x4, x5⟩ := ucells (blk_below (heap_alloc_new w _) hb5))
    go_ret
    exact ⟨ret_b Hf.out.symm, below_go hb5 (below_one _ _)⟩
  have d9 : decide (64 < (vl.length : Int)) = false := decide_eq_false (by omega)
  by_cases h10 : kd = 2
  · subst h10
    have Hf := Lib.hid (show r = true by rw [Hr.out, decide_eq_true (show 0 ≤ au ∧ au < 16 from ⟨h1, h2⟩), decide_eq_true h3, decide_eq_true h4, decide_eq_true h8, decide_eq_true h9]; simp)
    go_enter Try.func109, Try.ntmps109
    go_wp2_with (go_at_call 25; refine (Hri.out (by omega) _ (below_one _ _)).mono ?_; rintro e w5 ⟨rfl, hb5⟩; obtain ⟨x0, x1, x2, x3, x4, x5⟩ := ucells (blk_below (heap_alloc_new w _) hb5))
    go_ret
    exact ⟨ret_b Hf.out.symm, below_go hb5 (below_one _ _)⟩
  have d10 : (kd == 2) = false := by rw [beq_eq_false_iff_ne]; exact h10
  have Hf := Lib.hid (show r = decide (vl = []) by rw [Hr.out, decide_eq_true (show 0 ≤ au ∧ au < 16 from ⟨h1, h2⟩), decide_eq_true (show 0 ≤ kd ∧ kd ≤ 2 from ⟨h6, h7⟩), decide_eq_true h3, decide_eq_true h4, decide_eq_true h8, decide_eq_true h9, decide_eq_false h10]; simp)
  rw [show decide (vl = []) = vl.isEmpty by cases vl <;> rfl] at Hf
  go_enter Try.func109, Try.ntmps109
  go_wp2_with (go_at_call 25; refine (Hri.out (by omega) _ (below_one _ _)).mono ?_; rintro e w5 ⟨rfl, hb5⟩; obtain ⟨x0, x1, x2, x3, x4, x5⟩ := ucells (blk_below (heap_alloc_new w _) hb5))
  go_ret
  exact ⟨ret_b Hf.out.symm, below_go hb5 (below_one _ _)⟩
end Go.Proofs.Ytpldkplfdbjidaa.Upd
