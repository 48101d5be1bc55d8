/- IdsLaws' walk: what is taken away and put together again is what there was, and so on. -/
import Derived.Test.YtpldkplfdbjidaaSetOps
import Derived.Test.YtpldkplfdbjidaaIdsOne
set_option linter.unusedVariables false
set_option linter.unusedSimpArgs false
namespace Go.Proofs.Ytpldkplfdbjidaa.Ids
open Go.RowKit Go.Proofs.Ytpldkplfdbjidaa.Wd Go.Proofs.Ytpldkplfdbjidaa.Use Go.Proofs.Ytpldkplfdbjidaa.Lay

theorem Same_true {s t : List Id} {v u : Value} {w : World} (h : s = t) (hs : SetAt w v s) (ht : SetAt w u t) :
    Calls Try.prog 23 #[v, u] w fun e w' => e = .returned (.bool true) ∧ Below w.heap.size w w' := by
  have h2 := Same_any s t v u w hs ht
  rwa [beq_iff_eq.2 h] at h2
theorem Within_is {b : Bool} {s t : List Id} {v u : Value} {w : World} (h : decide (sless s t = []) = b) (hs : SetAt w v s) (ht : SetAt w u t) :
    Calls Try.prog 24 #[v, u] w fun e w' => e = .returned (.bool b) ∧ Below w.heap.size w w' := by
  have h2 := Within_any s t v u w hs ht
  rwa [h] at h2
theorem Right_true {s : List Id} {v : Value} {w : World} (hs : SetAt w v s) :
    Calls Try.prog 25 #[v] w fun e w' => e = .returned (.bool true) ∧ Below w.heap.size w w' := by
  have h2 := Right_any v s hs.w32 (Nat.le_trans hs.len (by decide)) w hs.rd
  rwa [(up_iff s).2 hs.up] at h2
set_option maxRecDepth 100000 in
set_option maxHeartbeats 16000000 in
theorem IdsLaws_walkF (l o S T : List Id) (hS : rof l = S) (hT : rof o = T) (hl32 : W32 l) (ho32 : W32 o) (hl : l.length ≤ 60) (ho : o.length ≤ 60) (v u : Value) (w : World) (hv : Rd w 32 v l.length (ix l)) (hu : Rd w 32 u o.length (ix o)) (hb : decide (sless S T = []) = false) :
    Calls Try.prog 4 #[v, u] w fun r w' => r = .returned (.bool true) ∧ Below w.heap.size w w' := by
  have HO1 := Lib.hid (Of_any l hl32 (by omega) v w hv)
  have HO2 := Lib.hid (fun W (h : Below w.heap.size w W) => Of_any o ho32 (by omega) u W (hu.below h))
  rw [hS] at HO1
  rw [hT] at HO2
  have hSw : W32 S := hS ▸ rof_w l [] W32.nil hl32
  have hTw : W32 T := hT ▸ rof_w o [] W32.nil ho32
  have hSs : Sorted S := hS ▸ rof_sorted l
  have hTs : Sorted T := hT ▸ rof_sorted o
  have hSl : S.length ≤ 60 := by have := rof_len l []; rw [← hS]; simp only [rof] at *; simp at this; omega
  have hTl : T.length ≤ 60 := by have := rof_len o []; rw [← hT]; simp only [rof] at *; simp at this; omega
  have HB := Lib.hid hb
  obtain ⟨A1, c1', rfl, -, -, -⟩ := hv.slice_
  obtain ⟨A2, c2', rfl, -, -, -⟩ := hu.slice_
  have hd1 : decide ((60 : Int) < (l.length : Int)) = false := decide_eq_false (by omega)
  have hd2 : decide ((60 : Int) < (o.length : Int)) = false := decide_eq_false (by omega)
  clear hb hv hu hS hT
  go_enter Try.func4, Try.ntmps4
  go_wp2_with (first
    | (go_at_call 18; refine (one_any w20).mono ?_; rintro e w21 ⟨rfl, b21⟩; have c21 := below_go b21 c20)
    | (go_at_call 25; refine (Right_true (KM.out _ (Below.refl _ _))).mono ?_; rintro e w20 ⟨rfl, b20⟩; have c20 := below_go b20 c19)
    | (go_at_call 21; refine (Or_any _ _ _ _ _ (KS.out _ c18) (KT.out _ c18)).mono ?_; rintro e w19 ⟨v19, rfl, ho19, b19⟩; have c19 := below_go b19 c18; have KM := Lib.hid (fun W (h : Below w19.heap.size w19 W) => (SetAt.own ho19 (sor_w hSw hTw) (sor_sorted _ _) (Nat.le_trans (Nat.le_trans (sor_len _ _) (Nat.add_le_add hSl hTl)) (by decide))).below h); clear ho19)
    | (go_at_call 24; refine (Within_is HB.out (KS.out _ c17) (KT.out _ c17)).mono ?_; rintro e w18 ⟨rfl, b18⟩; have c18 := below_go b18 c17)
    | (go_at_call 24; refine (Within_is (decide_eq_true (law_4 S T)) (KJ.out _ (Below.refl _ _)) (KT.out _ c16)).mono ?_; rintro e w17 ⟨rfl, b17⟩; have c17 := below_go b17 c16)
    | (go_at_call 22; refine (And_any _ _ _ _ _ (KS.out _ c15) (KT.out _ c15)).mono ?_; rintro e w16 ⟨v16, rfl, ho16, b16⟩; have c16 := below_go b16 c15; have KJ := Lib.hid (fun W (h : Below w16.heap.size w16 W) => (SetAt.own ho16 (sand_w hSw _) (sand_sorted hSs _) (Nat.le_trans (Nat.le_trans (sand_len _ _) hSl) (by decide))).below h); clear ho16)
    | (go_at_call 24; refine (Within_is (decide_eq_true (law_3 S T)) (KS.out _ c14) (KI.out _ (Below.refl _ _))).mono ?_; rintro e w15 ⟨rfl, b15⟩; have c15 := below_go b15 c14)
    | (go_at_call 21; refine (Or_any _ _ _ _ _ (KS.out _ c13) (KT.out _ c13)).mono ?_; rintro e w14 ⟨v14, rfl, ho14, b14⟩; have c14 := below_go b14 c13; have KI := Lib.hid (fun W (h : Below w14.heap.size w14 W) => (SetAt.own ho14 (sor_w hSw hTw) (sor_sorted _ _) (Nat.le_trans (Nat.le_trans (sor_len _ _) (Nat.add_le_add hSl hTl)) (by decide))).below h); clear ho14)
    | (go_at_call 23; refine (Same_true (law_2 hSs hTs) (KG.out _ (below_go b12 (Below.refl _ _))) (KH.out _ (Below.refl _ _))).mono ?_; rintro e w13 ⟨rfl, b13⟩; have c13 := below_go b13 c12)
    | (go_at_call 22; refine (And_any _ _ _ _ _ (KS.out _ c11) (KT.out _ c11)).mono ?_; rintro e w12 ⟨v12, rfl, ho12, b12⟩; have c12 := below_go b12 c11; have KH := Lib.hid (fun W (h : Below w12.heap.size w12 W) => (SetAt.own ho12 (sand_w hSw _) (sand_sorted hSs _) (Nat.le_trans (Nat.le_trans (sand_len _ _) hSl) (by decide))).below h); clear ho12)
    | (go_at_call 20; refine (Less_set_any _ _ _ _ _ (KF.out _ (Below.refl _ _)) (KO.out _ (below_go b10 (below_go b9 (below_go b8 (below_go b7 (below_go b6 (Below.refl _ _)))))))).mono ?_; rintro e w11 ⟨v11, rfl, ho11, b11⟩; have c11 := below_go b11 c10; have KG := Lib.hid (fun W (h : Below w11.heap.size w11 W) => (SetAt.own ho11 (sless_w (sor_w hSw hTw) _) (sless_sorted (sor_sorted _ _) _) (Nat.le_trans (Nat.le_trans (sless_len _ _) (Nat.le_trans (sor_len _ _) (Nat.add_le_add hSl hTl))) (by decide))).below h); clear ho11)
    | (go_at_call 21; refine (Or_any _ _ _ _ _ (KS.out _ c9) (KT.out _ c9)).mono ?_; rintro e w10 ⟨v10, rfl, ho10, b10⟩; have c10 := below_go b10 c9; have KF := Lib.hid (fun W (h : Below w10.heap.size w10 W) => (SetAt.own ho10 (sor_w hSw hTw) (sor_sorted _ _) (Nat.le_trans (Nat.le_trans (sor_len _ _) (Nat.add_le_add hSl hTl)) (by decide))).below h); clear ho10)
    | (go_at_call 23; refine (Same_true (law_1 hSs) (KE.out _ (Below.refl _ _)) (KS.out _ c8)).mono ?_; rintro e w9 ⟨rfl, b9⟩; have c9 := below_go b9 c8)
    | (go_at_call 21; refine (Or_any _ _ _ _ _ (KC.out _ (below_go b7 (Below.refl _ _))) (KD.out _ (Below.refl _ _))).mono ?_; rintro e w8 ⟨v8, rfl, ho8, b8⟩; have c8 := below_go b8 c7; have KE := Lib.hid (fun W (h : Below w8.heap.size w8 W) => (SetAt.own ho8 (sor_w (sless_w hSw _) (sand_w hSw _)) (sor_sorted _ _) (Nat.le_trans (Nat.le_trans (sor_len _ _) (Nat.add_le_add (Nat.le_trans (sless_len _ _) hSl) (Nat.le_trans (sand_len _ _) hSl))) (by decide))).below h); clear ho8)
    | (go_at_call 22; refine (And_any _ _ _ _ _ (KS.out _ c6) (KT.out _ c6)).mono ?_; rintro e w7 ⟨v7, rfl, ho7, b7⟩; have c7 := below_go b7 c6; have KD := Lib.hid (fun W (h : Below w7.heap.size w7 W) => (SetAt.own ho7 (sand_w hSw _) (sand_sorted hSs _) (Nat.le_trans (Nat.le_trans (sand_len _ _) hSl) (by decide))).below h); clear ho7)
    | (go_at_call 20; refine (Less_set_any _ _ _ _ _ (KS.out _ c5) (KT.out _ c5)).mono ?_; rintro e w6 ⟨v6, rfl, ho6, b6⟩; have c6 := below_go b6 c5; have KC := Lib.hid (fun W (h : Below w6.heap.size w6 W) => (SetAt.own ho6 (sless_w hSw _) (sless_sorted hSs _) (Nat.le_trans (Nat.le_trans (sless_len _ _) hSl) (by decide))).below h); clear ho6)
    | (go_at_call 21; refine (Or_any _ _ _ _ _ (KA.out _ (below_go b4 (Below.refl _ _))) (KB.out _ (Below.refl _ _))).mono ?_; rintro e w5 ⟨v5, rfl, ho5, b5⟩; have c5 := below_go b5 c4; have KO := Lib.hid (fun W (h : Below w5.heap.size w5 W) => (SetAt.own ho5 (sor_w (sless_w hSw _) (sless_w hTw _)) (sor_sorted _ _) (Nat.le_trans (Nat.le_trans (sor_len _ _) (Nat.add_le_add (Nat.le_trans (sless_len _ _) hSl) (Nat.le_trans (sless_len _ _) hTl))) (by decide))).below h); clear ho5)
    | (go_at_call 20; refine (Less_set_any _ _ _ _ _ (KT.out _ c3) (KS.out _ c3)).mono ?_; rintro e w4 ⟨v4, rfl, ho4, b4⟩; have c4 := below_go b4 c3; have KB := Lib.hid (fun W (h : Below w4.heap.size w4 W) => (SetAt.own ho4 (sless_w hTw _) (sless_sorted hTs _) (Nat.le_trans (Nat.le_trans (sless_len _ _) hTl) (by decide))).below h); clear ho4)
    | (go_at_call 20; refine (Less_set_any _ _ _ _ _ (KS.out _ c2) (KT.out _ c2)).mono ?_; rintro e w3 ⟨v3, rfl, ho3, b3⟩; have c3 := below_go b3 c2; have KA := Lib.hid (fun W (h : Below w3.heap.size w3 W) => (SetAt.own ho3 (sless_w hSw _) (sless_sorted hSs _) (Nat.le_trans (Nat.le_trans (sless_len _ _) hSl) (by decide))).below h); clear ho3)
    | (go_at_call 19; refine HO3.out.mono ?_; rintro e w2 ⟨v2, rfl, ho2, b2⟩; have KS := Lib.hid (fun W (h : Below w2.heap.size w2 W) => (SetAt.own ho1 hSw hSs (Nat.le_trans hSl (by decide))).below (below_go h b2)); have KT := Lib.hid (fun W (h : Below w2.heap.size w2 W) => (SetAt.own ho2 hTw hTs (Nat.le_trans hTl (by decide))).below h); clear ho1 ho2 HO1 HO2; have c2 := Below.refl w2.heap.size w2)
    | (go_at_call 19; refine HO1.out.mono ?_; rintro e w1 ⟨v1, rfl, ho1, b1⟩; have HO3 := Lib.hid (HO2.out w1 b1)))
  go_ret
  exact ⟨rfl, below_go c21 (below_go b2 b1)⟩
set_option maxRecDepth 100000 in
set_option maxHeartbeats 16000000 in
theorem IdsLaws_walkT (l o S T : List Id) (hS : rof l = S) (hT : rof o = T) (hl32 : W32 l) (ho32 : W32 o) (hl : l.length ≤ 60) (ho : o.length ≤ 60) (v u : Value) (w : World) (hv : Rd w 32 v l.length (ix l)) (hu : Rd w 32 u o.length (ix o)) (hb : decide (sless S T = []) = true) :
    Calls Try.prog 4 #[v, u] w fun r w' => r = .returned (.bool true) ∧ Below w.heap.size w w' := by
  have HO1 := Lib.hid (Of_any l hl32 (by omega) v w hv)
  have HO2 := Lib.hid (fun W (h : Below w.heap.size w W) => Of_any o ho32 (by omega) u W (hu.below h))
  rw [hS] at HO1
  rw [hT] at HO2
  have hSw : W32 S := hS ▸ rof_w l [] W32.nil hl32
  have hTw : W32 T := hT ▸ rof_w o [] W32.nil ho32
  have hSs : Sorted S := hS ▸ rof_sorted l
  have hTs : Sorted T := hT ▸ rof_sorted o
  have hSl : S.length ≤ 60 := by have := rof_len l []; rw [← hS]; simp only [rof] at *; simp at this; omega
  have hTl : T.length ≤ 60 := by have := rof_len o []; rw [← hT]; simp only [rof] at *; simp at this; omega
  have HB := Lib.hid hb
  obtain ⟨A1, c1', rfl, -, -, -⟩ := hv.slice_
  obtain ⟨A2, c2', rfl, -, -, -⟩ := hu.slice_
  have hd1 : decide ((60 : Int) < (l.length : Int)) = false := decide_eq_false (by omega)
  have hd2 : decide ((60 : Int) < (o.length : Int)) = false := decide_eq_false (by omega)
  clear hb hv hu hS hT
  go_enter Try.func4, Try.ntmps4
  go_wp2_with (first
    | (go_at_call 18; refine (one_any w22).mono ?_; rintro e w23 ⟨rfl, b23⟩; have c23 := below_go b23 c22)
    | (go_at_call 25; refine (Right_true (KM.out _ (Below.refl _ _))).mono ?_; rintro e w22 ⟨rfl, b22⟩; have c22 := below_go b22 c21)
    | (go_at_call 21; refine (Or_any _ _ _ _ _ (KS.out _ c20) (KT.out _ c20)).mono ?_; rintro e w21 ⟨v21, rfl, ho21, b21⟩; have c21 := below_go b21 c20; have KM := Lib.hid (fun W (h : Below w21.heap.size w21 W) => (SetAt.own ho21 (sor_w hSw hTw) (sor_sorted _ _) (Nat.le_trans (Nat.le_trans (sor_len _ _) (Nat.add_le_add hSl hTl)) (by decide))).below h); clear ho21)
    | (go_at_call 23; refine (Same_true (law_5 hTs (of_decide_eq_true HB.out)) (KL.out _ (Below.refl _ _)) (KT.out _ c19)).mono ?_; rintro e w20 ⟨rfl, b20⟩; have c20 := below_go b20 c19)
    | (go_at_call 21; refine (Or_any _ _ _ _ _ (KS.out _ c18) (KT.out _ c18)).mono ?_; rintro e w19 ⟨v19, rfl, ho19, b19⟩; have c19 := below_go b19 c18; have KL := Lib.hid (fun W (h : Below w19.heap.size w19 W) => (SetAt.own ho19 (sor_w hSw hTw) (sor_sorted _ _) (Nat.le_trans (Nat.le_trans (sor_len _ _) (Nat.add_le_add hSl hTl)) (by decide))).below h); clear ho19)
    | (go_at_call 24; refine (Within_is HB.out (KS.out _ c17) (KT.out _ c17)).mono ?_; rintro e w18 ⟨rfl, b18⟩; have c18 := below_go b18 c17)
    | (go_at_call 24; refine (Within_is (decide_eq_true (law_4 S T)) (KJ.out _ (Below.refl _ _)) (KT.out _ c16)).mono ?_; rintro e w17 ⟨rfl, b17⟩; have c17 := below_go b17 c16)
    | (go_at_call 22; refine (And_any _ _ _ _ _ (KS.out _ c15) (KT.out _ c15)).mono ?_; rintro e w16 ⟨v16, rfl, ho16, b16⟩; have c16 := below_go b16 c15; have KJ := Lib.hid (fun W (h : Below w16.heap.size w16 W) => (SetAt.own ho16 (sand_w hSw _) (sand_sorted hSs _) (Nat.le_trans (Nat.le_trans (sand_len _ _) hSl) (by decide))).below h); clear ho16)
    | (go_at_call 24; refine (Within_is (decide_eq_true (law_3 S T)) (KS.out _ c14) (KI.out _ (Below.refl _ _))).mono ?_; rintro e w15 ⟨rfl, b15⟩; have c15 := below_go b15 c14)
    | (go_at_call 21; refine (Or_any _ _ _ _ _ (KS.out _ c13) (KT.out _ c13)).mono ?_; rintro e w14 ⟨v14, rfl, ho14, b14⟩; have c14 := below_go b14 c13; have KI := Lib.hid (fun W (h : Below w14.heap.size w14 W) => (SetAt.own ho14 (sor_w hSw hTw) (sor_sorted _ _) (Nat.le_trans (Nat.le_trans (sor_len _ _) (Nat.add_le_add hSl hTl)) (by decide))).below h); clear ho14)
    | (go_at_call 23; refine (Same_true (law_2 hSs hTs) (KG.out _ (below_go b12 (Below.refl _ _))) (KH.out _ (Below.refl _ _))).mono ?_; rintro e w13 ⟨rfl, b13⟩; have c13 := below_go b13 c12)
    | (go_at_call 22; refine (And_any _ _ _ _ _ (KS.out _ c11) (KT.out _ c11)).mono ?_; rintro e w12 ⟨v12, rfl, ho12, b12⟩; have c12 := below_go b12 c11; have KH := Lib.hid (fun W (h : Below w12.heap.size w12 W) => (SetAt.own ho12 (sand_w hSw _) (sand_sorted hSs _) (Nat.le_trans (Nat.le_trans (sand_len _ _) hSl) (by decide))).below h); clear ho12)
    | (go_at_call 20; refine (Less_set_any _ _ _ _ _ (KF.out _ (Below.refl _ _)) (KO.out _ (below_go b10 (below_go b9 (below_go b8 (below_go b7 (below_go b6 (Below.refl _ _)))))))).mono ?_; rintro e w11 ⟨v11, rfl, ho11, b11⟩; have c11 := below_go b11 c10; have KG := Lib.hid (fun W (h : Below w11.heap.size w11 W) => (SetAt.own ho11 (sless_w (sor_w hSw hTw) _) (sless_sorted (sor_sorted _ _) _) (Nat.le_trans (Nat.le_trans (sless_len _ _) (Nat.le_trans (sor_len _ _) (Nat.add_le_add hSl hTl))) (by decide))).below h); clear ho11)
    | (go_at_call 21; refine (Or_any _ _ _ _ _ (KS.out _ c9) (KT.out _ c9)).mono ?_; rintro e w10 ⟨v10, rfl, ho10, b10⟩; have c10 := below_go b10 c9; have KF := Lib.hid (fun W (h : Below w10.heap.size w10 W) => (SetAt.own ho10 (sor_w hSw hTw) (sor_sorted _ _) (Nat.le_trans (Nat.le_trans (sor_len _ _) (Nat.add_le_add hSl hTl)) (by decide))).below h); clear ho10)
    | (go_at_call 23; refine (Same_true (law_1 hSs) (KE.out _ (Below.refl _ _)) (KS.out _ c8)).mono ?_; rintro e w9 ⟨rfl, b9⟩; have c9 := below_go b9 c8)
    | (go_at_call 21; refine (Or_any _ _ _ _ _ (KC.out _ (below_go b7 (Below.refl _ _))) (KD.out _ (Below.refl _ _))).mono ?_; rintro e w8 ⟨v8, rfl, ho8, b8⟩; have c8 := below_go b8 c7; have KE := Lib.hid (fun W (h : Below w8.heap.size w8 W) => (SetAt.own ho8 (sor_w (sless_w hSw _) (sand_w hSw _)) (sor_sorted _ _) (Nat.le_trans (Nat.le_trans (sor_len _ _) (Nat.add_le_add (Nat.le_trans (sless_len _ _) hSl) (Nat.le_trans (sand_len _ _) hSl))) (by decide))).below h); clear ho8)
    | (go_at_call 22; refine (And_any _ _ _ _ _ (KS.out _ c6) (KT.out _ c6)).mono ?_; rintro e w7 ⟨v7, rfl, ho7, b7⟩; have c7 := below_go b7 c6; have KD := Lib.hid (fun W (h : Below w7.heap.size w7 W) => (SetAt.own ho7 (sand_w hSw _) (sand_sorted hSs _) (Nat.le_trans (Nat.le_trans (sand_len _ _) hSl) (by decide))).below h); clear ho7)
    | (go_at_call 20; refine (Less_set_any _ _ _ _ _ (KS.out _ c5) (KT.out _ c5)).mono ?_; rintro e w6 ⟨v6, rfl, ho6, b6⟩; have c6 := below_go b6 c5; have KC := Lib.hid (fun W (h : Below w6.heap.size w6 W) => (SetAt.own ho6 (sless_w hSw _) (sless_sorted hSs _) (Nat.le_trans (Nat.le_trans (sless_len _ _) hSl) (by decide))).below h); clear ho6)
    | (go_at_call 21; refine (Or_any _ _ _ _ _ (KA.out _ (below_go b4 (Below.refl _ _))) (KB.out _ (Below.refl _ _))).mono ?_; rintro e w5 ⟨v5, rfl, ho5, b5⟩; have c5 := below_go b5 c4; have KO := Lib.hid (fun W (h : Below w5.heap.size w5 W) => (SetAt.own ho5 (sor_w (sless_w hSw _) (sless_w hTw _)) (sor_sorted _ _) (Nat.le_trans (Nat.le_trans (sor_len _ _) (Nat.add_le_add (Nat.le_trans (sless_len _ _) hSl) (Nat.le_trans (sless_len _ _) hTl))) (by decide))).below h); clear ho5)
    | (go_at_call 20; refine (Less_set_any _ _ _ _ _ (KT.out _ c3) (KS.out _ c3)).mono ?_; rintro e w4 ⟨v4, rfl, ho4, b4⟩; have c4 := below_go b4 c3; have KB := Lib.hid (fun W (h : Below w4.heap.size w4 W) => (SetAt.own ho4 (sless_w hTw _) (sless_sorted hTs _) (Nat.le_trans (Nat.le_trans (sless_len _ _) hTl) (by decide))).below h); clear ho4)
    | (go_at_call 20; refine (Less_set_any _ _ _ _ _ (KS.out _ c2) (KT.out _ c2)).mono ?_; rintro e w3 ⟨v3, rfl, ho3, b3⟩; have c3 := below_go b3 c2; have KA := Lib.hid (fun W (h : Below w3.heap.size w3 W) => (SetAt.own ho3 (sless_w hSw _) (sless_sorted hSs _) (Nat.le_trans (Nat.le_trans (sless_len _ _) hSl) (by decide))).below h); clear ho3)
    | (go_at_call 19; refine HO3.out.mono ?_; rintro e w2 ⟨v2, rfl, ho2, b2⟩; have KS := Lib.hid (fun W (h : Below w2.heap.size w2 W) => (SetAt.own ho1 hSw hSs (Nat.le_trans hSl (by decide))).below (below_go h b2)); have KT := Lib.hid (fun W (h : Below w2.heap.size w2 W) => (SetAt.own ho2 hTw hTs (Nat.le_trans hTl (by decide))).below h); clear ho1 ho2 HO1 HO2; have c2 := Below.refl w2.heap.size w2)
    | (go_at_call 19; refine HO1.out.mono ?_; rintro e w1 ⟨v1, rfl, ho1, b1⟩; have HO3 := Lib.hid (HO2.out w1 b1)))
  go_ret
  exact ⟨rfl, below_go c23 (below_go b2 b1)⟩
set_option maxRecDepth 100000 in
set_option maxHeartbeats 4000000 in
theorem IdsLaws_any (v : Value) (l : List Id) (u : Value) (o : List Id) (w : World) (hv : Rd w 32 v l.length (ix l)) (hl32 : W32 l) (hu : Rd w 32 u o.length (ix o)) (ho32 : W32 o) :
    Calls Try.prog 4 #[v, u] w fun r w' => r = .returned (.bool true) ∧ Below w.heap.size w w' := by
  by_cases h1 : 60 < l.length
  · obtain ⟨A1, c1', rfl, -, -, -⟩ := hv.slice_
    obtain ⟨A2, c2', rfl, -, -, -⟩ := hu.slice_
    have hd1 : decide ((60 : Int) < (l.length : Int)) = true := decide_eq_true (by omega)
    clear hv hu
    go_enter Try.func4, Try.ntmps4
    go_wp2_with fail
    go_ret
    exact ⟨rfl, Below.refl _ _⟩
  by_cases h2 : 60 < o.length
  · obtain ⟨A1, c1', rfl, -, -, -⟩ := hv.slice_
    obtain ⟨A2, c2', rfl, -, -, -⟩ := hu.slice_
    have hd1 : decide ((60 : Int) < (l.length : Int)) = false := decide_eq_false (by omega)
    have hd2 : decide ((60 : Int) < (o.length : Int)) = true := decide_eq_true (by omega)
    clear hv hu
    go_enter Try.func4, Try.ntmps4
    go_wp2_with fail
    go_ret
    exact ⟨rfl, Below.refl _ _⟩
  cases hb : decide (sless (rof l) (rof o) = [])
  · exact IdsLaws_walkF l o _ _ rfl rfl hl32 ho32 (by omega) (by omega) v u w hv hu hb
  · exact IdsLaws_walkT l o _ _ rfl rfl hl32 ho32 (by omega) (by omega) v u w hv hu hb
end Go.Proofs.Ytpldkplfdbjidaa.Ids
