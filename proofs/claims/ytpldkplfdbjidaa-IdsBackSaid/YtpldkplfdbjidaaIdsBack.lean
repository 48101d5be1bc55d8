/- IdsBack's walk: a set is read from its bytes as it was. -/
import Derived.Test.YtpldkplfdbjidaaSetOps
import Derived.Test.YtpldkplfdbjidaaIdsOne
import Derived.Test.YtpldkplfdbjidaaIdsBackP
set_option linter.unusedVariables false
set_option linter.unusedSimpArgs false
namespace Go.Proofs.Ytpldkplfdbjidaa.Ids
open Go.RowKit Go.Proofs.Ytpldkplfdbjidaa.Wd Go.Proofs.Ytpldkplfdbjidaa.Use Go.Proofs.Ytpldkplfdbjidaa.Lay

set_option maxRecDepth 100000 in
set_option maxHeartbeats 16000000 in
theorem IdsBack_walk (l S : List Id) (hS : rof l = S) (hl32 : W32 l) (hl : l.length ≤ 60) (v : Value) (w : World) (hv : Rd w 32 v l.length (ix l)) :
    Calls Try.prog 6 #[v] w fun r w' => r = .returned (.bool true) ∧ Below w.heap.size w w' := by
  have HO1 := Lib.hid (Of_any l hl32 (by omega) v w hv)
  rw [hS] at HO1
  have hSw : W32 S := hS ▸ rof_w l [] W32.nil hl32
  have hSs : Sorted S := hS ▸ rof_sorted l
  have hSl : S.length ≤ 60 := by have := rof_len l []; rw [← hS]; simp only [rof] at *; simp at this; omega
  have hup := (up_iff S).2 hSs
  obtain ⟨p1, p2⟩ := put_len hSw
  have p3 := putN_le S.length (by omega)
  have hbl : (put S).length ≤ 2000 := by omega
  have hR1 := fun W => Read_any (put S) (S.length : Int) (by omega) (by omega) W
  rw [show Ids.read (put S) (S.length : Int) = (S, 0) from read_put_m hSw (Nat.le_refl _) (by omega) hup] at hR1
  have hR2 := fun W => Read_any (put S) ((S.length : Int) - 1) (by omega) (by omega) W
  rw [read_few (by omega) (by omega)] at hR2
  have hR3 := fun W => Read_any (put S).dropLast 100 (by rw [List.length_dropLast]; omega) (by omega) W
  have hne : (Ids.read (put S).dropLast 100).2 ≠ 0 := read_cut (m := 100) hSw (by omega) (by omega) hup
  have hR4 := fun W => Read_any (put S ++ [120]) 100 (by rw [List.length_append, List.length_singleton]; omega) (by omega) W
  rw [show (Ids.read (put S ++ [120]) 100).2 = 11 from read_more_m (m := 100) hSw (by omega) (by omega) 120] at hR4
  obtain ⟨e3, he3⟩ : ∃ e, e = (Ids.read (put S).dropLast 100).2 := ⟨_, rfl⟩
  rw [← he3] at hR3 hne
  obtain ⟨E, hE⟩ : ∃ E, E = (e3 : Int) := ⟨_, rfl⟩
  rw [← hE] at hR3
  have hE0 : ¬ E = 0 := by omega
  have hd3 : (E != 0) = true := by simpa using hE0
  obtain ⟨B, hB⟩ : ∃ B, B = str (put S) := ⟨_, rfl⟩
  obtain ⟨C, hC⟩ : ∃ C, C = str (put S).dropLast := ⟨_, rfl⟩
  obtain ⟨D, hD⟩ : ∃ D, D = str (put S ++ [120]) := ⟨_, rfl⟩
  obtain ⟨q, hq⟩ : ∃ q, q = (put S).length - 1 := ⟨_, rfl⟩
  obtain ⟨z, hz⟩ : ∃ z, z = q + 1 := ⟨_, rfl⟩
  have hBs : B.size = z := by rw [hB, str_size]; omega
  have hBC : B.extract 0 q = C := by rw [hB, hC, str_take, hq, List.dropLast_eq_take]
  have hBD : B ++ ⟨#[120]⟩ = D := by rw [hB, hD]; exact str_append _ [120]
  have hwr : IntKind.i64.wrap ((z : Int) - 1) = (q : Int) := by rw [IntKind.wrap_i64]; omega
  have hwn : IntKind.i64.wrap ((S.length : Int) - 1) = (S.length : Int) - 1 := by rw [IntKind.wrap_i64]; omega
  rw [← hB] at hR1 hR2
  rw [← hC] at hR3
  rw [← hD] at hR4
  have HR1 := Lib.hid hR1
  have HR2 := Lib.hid hR2
  have HR3 := Lib.hid hR3
  have HR4 := Lib.hid hR4
  have HB := Lib.hid hB
  have hz2 : z ≤ 2000 := by omega
  have hqz : q < z := by omega
  have hqz2 : (q : Int) ≤ (z : Int) := by omega
  have hq0 : (0 : Int) ≤ (q : Int) := by omega
  have HP := Lib.hid (fun v W h => Put_any v S hSw (by omega) W h)
  have hd1 : decide ((60 : Int) < (l.length : Int)) = false := decide_eq_false (by omega)
  have hd2 : decide ((z : Int) = 0) = false := decide_eq_false (by omega)
  obtain ⟨A0, c0, rfl, -, -, -⟩ := hv.slice_
  clear hR1 hR2 hR3 hR4 hB hC hD hq hz hv hS he3 hne hE p1 p2 p3 hbl
  go_enter Try.func6, Try.ntmps6
  go_wp2_with (first
    | (go_at_call 18; refine (one_any w7).mono ?_; rintro e w8 ⟨rfl, b8⟩)
    | (go_at_call 23; refine (Same_true rfl (SA3.out _ (below_go b6 (below_go b5 b4))) (SA1.out _ (below_go b6 (below_go b5 (below_go b4 (below_go b3 b2)))))).mono ?_; rintro e w7 ⟨rfl, b7⟩)
    | (go_at_call 26; refine (HR4.out w5).mono ?_; rintro e w6 ⟨v6, rfl, -, -, b6⟩)
    | (go_at_call 26; refine (HR3.out w4).mono ?_; rintro e w5 ⟨v5, rfl, -, -, b5⟩)
    | (go_at_call 26; refine (HR2.out w3).mono ?_; rintro e w4 ⟨v4, rfl, -, -, b4⟩)
    | (go_at_call 26; refine (HR1.out w2).mono ?_; rintro e w3 ⟨v3, rfl, -, ho3, b3⟩; have SA3 := Lib.hid (fun W (h : Below w3.heap.size w3 W) => (SetAt.own ho3 hSw hSs (Nat.le_trans hSl (by decide))).below h); clear ho3)
    | (go_at_call 28; refine (HP.out _ _ HS1.out).mono ?_; rintro e w2 ⟨v2, rfl, ho2, b2⟩; have hcv := conv_rd (put S) (Rd.of_own ho2); rw [← HB.out] at hcv; clear ho2)
    | (go_at_call 19; refine HO1.out.mono ?_; rintro e w1 ⟨v1, rfl, ho1, b1⟩; have HS1 := Lib.hid (Rd.of_own ho1); have SA1 := Lib.hid (fun W (h : Below w1.heap.size w1 W) => (SetAt.own ho1 hSw hSs (Nat.le_trans hSl (by decide))).below h); obtain ⟨A1, c1, rfl, -, -, -⟩ := (Rd.of_own ho1).slice_; clear ho1))
  go_ret
  exact ⟨rfl, below_go b8 (below_go b7 (below_go b6 (below_go b5 (below_go b4 (below_go b3 (below_go b2 b1))))))⟩
set_option maxRecDepth 100000 in
set_option maxHeartbeats 4000000 in
theorem IdsBack_any (v : Value) (l : List Id) (w : World) (hv : Rd w 32 v l.length (ix l)) (hl32 : W32 l) :
    Calls Try.prog 6 #[v] w fun r w' => r = .returned (.bool true) ∧ Below w.heap.size w w' := by
  by_cases h1 : 60 < l.length
  · obtain ⟨A1, c1', rfl, -, -, -⟩ := hv.slice_
    have hd1 : decide ((60 : Int) < (l.length : Int)) = true := decide_eq_true (by omega)
    clear hv
    go_enter Try.func6, Try.ntmps6
    go_wp2_with fail
    go_ret
    exact ⟨rfl, Below.refl _ _⟩
  exact IdsBack_walk l _ rfl hl32 (by omega) v w hv
end Go.Proofs.Ytpldkplfdbjidaa.Ids
