/- IdsBytes' walk: any list of ids has the reference's bytes; any bytes are a set's, or none. -/
import Derived.Test.YtpldkplfdbjidaaRef03W6
import Derived.Test.YtpldkplfdbjidaaIdsP
import Derived.Test.YtpldkplfdbjidaaIdsOne
set_option linter.unusedVariables false
set_option linter.unusedSimpArgs false
namespace Go.Proofs.Ytpldkplfdbjidaa.Ids
open Go.RowKit Go.Proofs.Ytpldkplfdbjidaa.Wd Go.Proofs.Ytpldkplfdbjidaa.Use Go.Proofs.Ytpldkplfdbjidaa.Lay

theorem rl_fits {b : List UInt8} : ∀ (n : Nat) (r : Rdr) (out : List Id), Fits b r out → Fits b (rl n r out).1 (rl n r out).2
  | 0, r, out, h => h
  | n + 1, r, out, h => by
    by_cases h0 : r.bad = 0
    · rw [rl_ok n r out h0]; exact rl_fits n _ _ (h.next h0)
    · rw [rl_bad (n + 1) r out h0]; exact h
theorem read_fits (b : List UInt8) (most : Int) : (Ids.read b most).1.length * 32 ≤ b.length + 32 := by
  have hF0 : Fits b ((⟨b, 0⟩ : Rdr).small most).2 [] := ⟨by simp, fun h => by have := rsmall_len ⟨b, 0⟩ most h; simpa using this⟩
  have h := (rl_fits ((⟨b, 0⟩ : Rdr).small most).1 _ _ hF0).1
  unfold Ids.read
  simp only
  split
  · simp
  · split
    · simp
    · exact h
set_option maxRecDepth 100000 in
set_option maxHeartbeats 16000000 in
theorem IdsBytes_walk (l : List Id) (h32 : W32 l) (hl : l.length ≤ 60) (v : Value) (b : List UInt8) (hb : b.length ≤ 3000) (u : Value) (most : Int) (hm : most < 9223372036854775808) (w : World) (hv : Rd w 32 v l.length (ix l)) (hu : Rd w 1 u b.length (bs b)) :
    Calls Try.prog 5 #[v, u, .int .i64 most] w fun r w' => r = .returned (.bool true) ∧ Below w.heap.size w w' := by
  have hR := Read_any b most (by omega) hm w
  have hR2 := fun W => rRead_any b most (by omega) hm W
  have HP := Lib.hid (fun W (h : Below w.heap.size w W) => Put_any v l h32 (by omega) W (hv.below h))
  have HO := Lib.hid (fun W (h : Below w.heap.size w W) => Own_any l h32 (by omega) v W (hv.below h))
  have HQ := Lib.hid (fun v' W (h : Rd W 32 v' l.length (ix l)) => rPut_any l h32 (by omega) v' W h)
  have hxl : (Ids.read b most).1.length ≤ 100000 := by have := read_fits b most; omega
  have hx32 : W32 (Ids.read b most).1 := read_w b most
  obtain ⟨X, hX⟩ : ∃ X, X = (Ids.read b most).1 := ⟨_, rfl⟩
  obtain ⟨n, hn⟩ : ∃ n, n = (((Ids.read b most).2 : Nat) : Int) := ⟨_, rfl⟩
  rw [← hX] at hR hR2 hxl hx32
  rw [← hn] at hR hR2
  have HO2 := Lib.hid (fun v' W (h : Rd W 32 v' X.length (ix X)) => Own_any X hx32 hxl v' W h)
  have hS := fun v1 v2 W (h1 : Rd W 32 v1 X.length (ix X)) (h2 : Rd W 32 v2 X.length (ix X)) => rSame_any X X hx32 hx32 v1 v2 W h1 h2
  rw [beq_self_eq_true] at hS
  have HS := Lib.hid hS
  have HR := Lib.hid hR
  have HR2 := Lib.hid hR2
  obtain ⟨T, hT⟩ : ∃ T, T = str (put l) := ⟨_, rfl⟩
  have HT := Lib.hid hT
  rw [← hT] at HQ
  have htt : (T.toList == T.toList) = true := beq_self_eq_true _
  have hd1 : decide ((60 : Int) < (l.length : Int)) = false := decide_eq_false (by omega)
  have hd2 : decide ((3000 : Int) < (b.length : Int)) = false := decide_eq_false (by omega)
  have Hcv := Lib.hid (fun W (h : Below w.heap.size w W) => conv_rd b (hu.below h))
  have hcv := conv_rd b hu
  obtain ⟨A1, c1, rfl, -, -, -⟩ := hv.slice_
  obtain ⟨A2, c2, rfl, -, -, -⟩ := hu.slice_
  clear hR hR2 hX hn hS hT hv hu hx32 hxl h32
  go_enter Try.func5, Try.ntmps5
  go_upto_region 4 with (go_at_call 26; refine HR.out.mono ?_; rintro e w3 ⟨v3, rfl, -, ho3, b3⟩; have KX := Lib.hid (fun W (h : Below w3.heap.size w3 W) => (Rd.of_own ho3).below h); clear ho3)
  have hcw := Hcv.out _ b3
  go_upto_region 5 with (go_at_call 27; refine (HR2.out _).mono ?_; rintro e w4 ⟨v4, rfl, ho4, b4⟩; have KY := Lib.hid (fun W (h : Below w4.heap.size w4 W) => (Rd.of_own ho4).below h); clear ho4)
  clear hcv hcw
  have Hc4 := Lib.hid (below_go b4 b3)
  have HB4 := Lib.hid b4
  clear b4 b3
  (refine Ord.wp_region_tree (Ord.OT.of [(false, 0), (false, 3), (true, 1)] (Ord.OT.two 2 (Ord.OT.of [(true, 4), (true, 5), (false, 6), (false, 7), (false, 8), (false, 9), (false, 10), (false, 11), (false, 12), (false, 13), (false, 15), (true, 14), (true, 16), (false, 17), (false, 18), (true, 19), (false, 20), (false, 21)] Ord.OT.nil) 4 (Ord.OT.of [] (Ord.OT.two 2 (Ord.OT.of [(true, 5), (false, 6), (false, 7), (false, 8), (false, 9), (false, 10), (false, 11), (false, 12), (false, 13), (false, 15), (true, 14), (true, 16), (false, 17), (false, 18), (true, 19), (false, 20), (false, 21)] Ord.OT.nil) 5 (Ord.OT.of [(true, 2), (false, 6), (false, 7), (false, 8), (false, 9), (false, 10), (false, 11), (false, 12), (false, 13), (false, 15), (true, 14), (true, 16), (false, 17), (false, 18), (true, 19), (false, 20), (false, 21)] Ord.OT.nil))))) (fun _ => True) (by kernel_rfl) (by kernel_rfl) (by kernel_rfl) (by kernel_rfl) (by trivial) ?_; simp only [Ord.OT.of, Ord.OT.opers, List.getElem?_toArray, List.getElem?_cons_succ, List.getElem?_cons_zero]; repeat (first | (refine Ord.wpT_skip ?_ ?_; (focus (go_simp; (try (intro h; cases h)); done)); simp only [Act.put, List.setIfInBounds_toArray, List.set_cons_zero, List.set_cons_succ]) | (refine Ord.wpT_take (v := ?_) ?_ ?_ ?_; rotate_left; (focus (go_simp; done)); (focus (intro w' hSw; (try dsimp only at hSw); go_simp; (try with_reducible rfl); done)); simp only [Act.put, List.setIfInBounds_toArray, List.set_cons_zero, List.set_cons_succ])))
  (refine Ord.wpT_call ?_ (fun K hK => ?_); (focus (go_simp; done)); go_simp)
  go_at_call 28
  refine (HP.out _ Hc4.out.drew).mono ?_
  rintro e w5 ⟨v5, rfl, ho5, b5⟩
  have d5 := below_go b5 (Below.refl w4.heap.size w4).drew
  have Ho5 := Lib.hid ho5
  clear ho5
  (refine hK _ _ (by trivial) ?_; clear hK K; (try simp only [Act.put, List.setIfInBounds_toArray, List.set_cons_zero, List.set_cons_succ]); repeat (first | (refine Ord.wpT_skip ?_ ?_; (focus (go_simp; (try (intro h; cases h)); done)); simp only [Act.put, List.setIfInBounds_toArray, List.set_cons_zero, List.set_cons_succ]) | (refine Ord.wpT_take (v := ?_) ?_ ?_ ?_; rotate_left; (focus (go_simp; done)); (focus (intro w' hSw; (try dsimp only at hSw); go_simp; (try with_reducible rfl); done)); simp only [Act.put, List.setIfInBounds_toArray, List.set_cons_zero, List.set_cons_succ])))
  refine Ord.wpT_two ?_ ?_
  · have hk := conv_rd (put l) (Rd.of_own Ho5.out)
    rw [← HT.out] at hk
    (refine Ord.wpT_call ?_ (fun K hK => ?_); (focus (go_simp; done)); go_simp)
    (refine hK _ _ (by trivial) ?_; clear hK K; (try simp only [Act.put, List.setIfInBounds_toArray, List.set_cons_zero, List.set_cons_succ]); repeat (first | (refine Ord.wpT_skip ?_ ?_; (focus (go_simp; (try (intro h; cases h)); done)); simp only [Act.put, List.setIfInBounds_toArray, List.set_cons_zero, List.set_cons_succ]) | (refine Ord.wpT_take (v := ?_) ?_ ?_ ?_; rotate_left; (focus (go_simp; done)); (focus (intro w' hSw; (try dsimp only at hSw); go_simp; (try with_reducible rfl); done)); simp only [Act.put, List.setIfInBounds_toArray, List.set_cons_zero, List.set_cons_succ])))
    clear hk
    (refine Ord.wpT_call ?_ (fun K hK => ?_); (focus (go_simp; done)); go_simp)
    go_at_call 30
    refine (HO.out _ (below_go d5 Hc4.out)).mono ?_
    rintro e w6 ⟨v6, rfl, ho6, b6⟩
    have d6 := below_go b6 d5
    have Ho6 := Lib.hid (Rd.of_own ho6)
    clear ho6
    (refine hK _ _ (by trivial) ?_; clear hK K; (try simp only [Act.put, List.setIfInBounds_toArray, List.set_cons_zero, List.set_cons_succ]); repeat (first | (refine Ord.wpT_skip ?_ ?_; (focus (go_simp; (try (intro h; cases h)); done)); simp only [Act.put, List.setIfInBounds_toArray, List.set_cons_zero, List.set_cons_succ]) | (refine Ord.wpT_take (v := ?_) ?_ ?_ ?_; rotate_left; (focus (go_simp; done)); (focus (intro w' hSw; (try dsimp only at hSw); go_simp; (try with_reducible rfl); done)); simp only [Act.put, List.setIfInBounds_toArray, List.set_cons_zero, List.set_cons_succ])))
    (refine Ord.wpT_call ?_ (fun K hK => ?_); (focus (go_simp; done)); go_simp)
    go_at_call 29
    refine (HQ.out _ _ Ho6.out).mono ?_
    rintro e w7 ⟨rfl, b7⟩
    have d7 := below_go b7 d6
    (refine hK _ _ (by trivial) ?_; clear hK K; (try simp only [Act.put, List.setIfInBounds_toArray, List.set_cons_zero, List.set_cons_succ]); repeat (first | (refine Ord.wpT_skip ?_ ?_; (focus (go_simp; (try (intro h; cases h)); done)); simp only [Act.put, List.setIfInBounds_toArray, List.set_cons_zero, List.set_cons_succ]) | (refine Ord.wpT_take (v := ?_) ?_ ?_ ?_; rotate_left; (focus (go_simp; done)); (focus (intro w' hSw; (try dsimp only at hSw); go_simp; (try with_reducible rfl); done)); simp only [Act.put, List.setIfInBounds_toArray, List.set_cons_zero, List.set_cons_succ])))
    (refine Ord.wpT_call ?_ (fun K hK => ?_); (focus (go_simp; done)); go_simp)
    go_at_call 30
    refine (HO2.out _ _ (KX.out _ (below_go d7 HB4.out))).mono ?_
    rintro e w8 ⟨v8, rfl, ho8, b8⟩
    have d8 := below_go b8 d7
    (refine hK _ _ (by trivial) ?_; clear hK K; (try simp only [Act.put, List.setIfInBounds_toArray, List.set_cons_zero, List.set_cons_succ]); repeat (first | (refine Ord.wpT_skip ?_ ?_; (focus (go_simp; (try (intro h; cases h)); done)); simp only [Act.put, List.setIfInBounds_toArray, List.set_cons_zero, List.set_cons_succ]) | (refine Ord.wpT_take (v := ?_) ?_ ?_ ?_; rotate_left; (focus (go_simp; done)); (focus (intro w' hSw; (try dsimp only at hSw); go_simp; (try with_reducible rfl); done)); simp only [Act.put, List.setIfInBounds_toArray, List.set_cons_zero, List.set_cons_succ])))
    (refine Ord.wpT_call ?_ (fun K hK => ?_); (focus (go_simp; done)); go_simp)
    go_at_call 31
    refine (HS.out _ _ _ (Rd.of_own ho8) (KY.out _ d8)).mono ?_
    rintro e w9 ⟨rfl, b9⟩
    have d9 := below_go b9 d8
    (refine hK _ _ (by trivial) ?_; clear hK K; (try simp only [Act.put, List.setIfInBounds_toArray, List.set_cons_zero, List.set_cons_succ]); repeat (first | (refine Ord.wpT_skip ?_ ?_; (focus (go_simp; (try (intro h; cases h)); done)); simp only [Act.put, List.setIfInBounds_toArray, List.set_cons_zero, List.set_cons_succ]) | (refine Ord.wpT_take (v := ?_) ?_ ?_ ?_; rotate_left; (focus (go_simp; done)); (focus (intro w' hSw; (try dsimp only at hSw); go_simp; (try with_reducible rfl); done)); simp only [Act.put, List.setIfInBounds_toArray, List.set_cons_zero, List.set_cons_succ])))
    (refine Ord.wpT_call ?_ (fun K hK => ?_); (focus (go_simp; done)); go_simp)
    go_at_call 18
    refine (one_any _).mono ?_
    rintro e w10 ⟨rfl, b10⟩
    have d10 := below_go b10 d9
    (refine hK _ _ (by trivial) ?_; clear hK K; (try simp only [Act.put, List.setIfInBounds_toArray, List.set_cons_zero, List.set_cons_succ]); repeat (first | (refine Ord.wpT_skip ?_ ?_; (focus (go_simp; (try (intro h; cases h)); done)); simp only [Act.put, List.setIfInBounds_toArray, List.set_cons_zero, List.set_cons_succ]) | (refine Ord.wpT_take (v := ?_) ?_ ?_ ?_; rotate_left; (focus (go_simp; done)); (focus (intro w' hSw; (try dsimp only at hSw); go_simp; (try with_reducible rfl); done)); simp only [Act.put, List.setIfInBounds_toArray, List.set_cons_zero, List.set_cons_succ])))
    refine Ord.wpT_nil ?_
    go_wp2_with fail
    go_ret
    exact ⟨rfl, below_go d10 Hc4.out⟩
  · (refine Ord.wpT_call ?_ (fun K hK => ?_); (focus (go_simp; done)); go_simp)
    go_at_call 30
    refine (HO.out _ (below_go d5 Hc4.out)).mono ?_
    rintro e w6 ⟨v6, rfl, ho6, b6⟩
    have d6 := below_go b6 d5
    have Ho6 := Lib.hid (Rd.of_own ho6)
    clear ho6
    (refine hK _ _ (by trivial) ?_; clear hK K; (try simp only [Act.put, List.setIfInBounds_toArray, List.set_cons_zero, List.set_cons_succ]); repeat (first | (refine Ord.wpT_skip ?_ ?_; (focus (go_simp; (try (intro h; cases h)); done)); simp only [Act.put, List.setIfInBounds_toArray, List.set_cons_zero, List.set_cons_succ]) | (refine Ord.wpT_take (v := ?_) ?_ ?_ ?_; rotate_left; (focus (go_simp; done)); (focus (intro w' hSw; (try dsimp only at hSw); go_simp; (try with_reducible rfl); done)); simp only [Act.put, List.setIfInBounds_toArray, List.set_cons_zero, List.set_cons_succ])))
    refine Ord.wpT_two ?_ ?_
    · have hk := conv_rd (put l) (Rd.of_own (own_below Ho5.out b6))
      rw [← HT.out] at hk
      (refine Ord.wpT_call ?_ (fun K hK => ?_); (focus (go_simp; done)); go_simp)
      (refine hK _ _ (by trivial) ?_; clear hK K; (try simp only [Act.put, List.setIfInBounds_toArray, List.set_cons_zero, List.set_cons_succ]); repeat (first | (refine Ord.wpT_skip ?_ ?_; (focus (go_simp; (try (intro h; cases h)); done)); simp only [Act.put, List.setIfInBounds_toArray, List.set_cons_zero, List.set_cons_succ]) | (refine Ord.wpT_take (v := ?_) ?_ ?_ ?_; rotate_left; (focus (go_simp; done)); (focus (intro w' hSw; (try dsimp only at hSw); go_simp; (try with_reducible rfl); done)); simp only [Act.put, List.setIfInBounds_toArray, List.set_cons_zero, List.set_cons_succ])))
      clear hk
      (refine Ord.wpT_call ?_ (fun K hK => ?_); (focus (go_simp; done)); go_simp)
      go_at_call 29
      refine (HQ.out _ _ Ho6.out).mono ?_
      rintro e w7 ⟨rfl, b7⟩
      have d7 := below_go b7 d6
      (refine hK _ _ (by trivial) ?_; clear hK K; (try simp only [Act.put, List.setIfInBounds_toArray, List.set_cons_zero, List.set_cons_succ]); repeat (first | (refine Ord.wpT_skip ?_ ?_; (focus (go_simp; (try (intro h; cases h)); done)); simp only [Act.put, List.setIfInBounds_toArray, List.set_cons_zero, List.set_cons_succ]) | (refine Ord.wpT_take (v := ?_) ?_ ?_ ?_; rotate_left; (focus (go_simp; done)); (focus (intro w' hSw; (try dsimp only at hSw); go_simp; (try with_reducible rfl); done)); simp only [Act.put, List.setIfInBounds_toArray, List.set_cons_zero, List.set_cons_succ])))
      (refine Ord.wpT_call ?_ (fun K hK => ?_); (focus (go_simp; done)); go_simp)
      go_at_call 30
      refine (HO2.out _ _ (KX.out _ (below_go d7 HB4.out))).mono ?_
      rintro e w8 ⟨v8, rfl, ho8, b8⟩
      have d8 := below_go b8 d7
      (refine hK _ _ (by trivial) ?_; clear hK K; (try simp only [Act.put, List.setIfInBounds_toArray, List.set_cons_zero, List.set_cons_succ]); repeat (first | (refine Ord.wpT_skip ?_ ?_; (focus (go_simp; (try (intro h; cases h)); done)); simp only [Act.put, List.setIfInBounds_toArray, List.set_cons_zero, List.set_cons_succ]) | (refine Ord.wpT_take (v := ?_) ?_ ?_ ?_; rotate_left; (focus (go_simp; done)); (focus (intro w' hSw; (try dsimp only at hSw); go_simp; (try with_reducible rfl); done)); simp only [Act.put, List.setIfInBounds_toArray, List.set_cons_zero, List.set_cons_succ])))
      (refine Ord.wpT_call ?_ (fun K hK => ?_); (focus (go_simp; done)); go_simp)
      go_at_call 31
      refine (HS.out _ _ _ (Rd.of_own ho8) (KY.out _ d8)).mono ?_
      rintro e w9 ⟨rfl, b9⟩
      have d9 := below_go b9 d8
      (refine hK _ _ (by trivial) ?_; clear hK K; (try simp only [Act.put, List.setIfInBounds_toArray, List.set_cons_zero, List.set_cons_succ]); repeat (first | (refine Ord.wpT_skip ?_ ?_; (focus (go_simp; (try (intro h; cases h)); done)); simp only [Act.put, List.setIfInBounds_toArray, List.set_cons_zero, List.set_cons_succ]) | (refine Ord.wpT_take (v := ?_) ?_ ?_ ?_; rotate_left; (focus (go_simp; done)); (focus (intro w' hSw; (try dsimp only at hSw); go_simp; (try with_reducible rfl); done)); simp only [Act.put, List.setIfInBounds_toArray, List.set_cons_zero, List.set_cons_succ])))
      (refine Ord.wpT_call ?_ (fun K hK => ?_); (focus (go_simp; done)); go_simp)
      go_at_call 18
      refine (one_any _).mono ?_
      rintro e w10 ⟨rfl, b10⟩
      have d10 := below_go b10 d9
      (refine hK _ _ (by trivial) ?_; clear hK K; (try simp only [Act.put, List.setIfInBounds_toArray, List.set_cons_zero, List.set_cons_succ]); repeat (first | (refine Ord.wpT_skip ?_ ?_; (focus (go_simp; (try (intro h; cases h)); done)); simp only [Act.put, List.setIfInBounds_toArray, List.set_cons_zero, List.set_cons_succ]) | (refine Ord.wpT_take (v := ?_) ?_ ?_ ?_; rotate_left; (focus (go_simp; done)); (focus (intro w' hSw; (try dsimp only at hSw); go_simp; (try with_reducible rfl); done)); simp only [Act.put, List.setIfInBounds_toArray, List.set_cons_zero, List.set_cons_succ])))
      refine Ord.wpT_nil ?_
      go_wp2_with fail
      go_ret
      exact ⟨rfl, below_go d10 Hc4.out⟩
    · (refine Ord.wpT_call ?_ (fun K hK => ?_); (focus (go_simp; done)); go_simp)
      go_at_call 29
      refine (HQ.out _ _ Ho6.out).mono ?_
      rintro e w7 ⟨rfl, b7⟩
      have d7 := below_go b7 d6
      (refine hK _ _ (by trivial) ?_; clear hK K; (try simp only [Act.put, List.setIfInBounds_toArray, List.set_cons_zero, List.set_cons_succ]); repeat (first | (refine Ord.wpT_skip ?_ ?_; (focus (go_simp; (try (intro h; cases h)); done)); simp only [Act.put, List.setIfInBounds_toArray, List.set_cons_zero, List.set_cons_succ]) | (refine Ord.wpT_take (v := ?_) ?_ ?_ ?_; rotate_left; (focus (go_simp; done)); (focus (intro w' hSw; (try dsimp only at hSw); go_simp; (try with_reducible rfl); done)); simp only [Act.put, List.setIfInBounds_toArray, List.set_cons_zero, List.set_cons_succ])))
      have hk := conv_rd (put l) (Rd.of_own (own_below (own_below Ho5.out b6) b7))
      rw [← HT.out] at hk
      (refine Ord.wpT_call ?_ (fun K hK => ?_); (focus (go_simp; done)); go_simp)
      (refine hK _ _ (by trivial) ?_; clear hK K; (try simp only [Act.put, List.setIfInBounds_toArray, List.set_cons_zero, List.set_cons_succ]); repeat (first | (refine Ord.wpT_skip ?_ ?_; (focus (go_simp; (try (intro h; cases h)); done)); simp only [Act.put, List.setIfInBounds_toArray, List.set_cons_zero, List.set_cons_succ]) | (refine Ord.wpT_take (v := ?_) ?_ ?_ ?_; rotate_left; (focus (go_simp; done)); (focus (intro w' hSw; (try dsimp only at hSw); go_simp; (try with_reducible rfl); done)); simp only [Act.put, List.setIfInBounds_toArray, List.set_cons_zero, List.set_cons_succ])))
      clear hk
      (refine Ord.wpT_call ?_ (fun K hK => ?_); (focus (go_simp; done)); go_simp)
      go_at_call 30
      refine (HO2.out _ _ (KX.out _ (below_go d7 HB4.out))).mono ?_
      rintro e w8 ⟨v8, rfl, ho8, b8⟩
      have d8 := below_go b8 d7
      (refine hK _ _ (by trivial) ?_; clear hK K; (try simp only [Act.put, List.setIfInBounds_toArray, List.set_cons_zero, List.set_cons_succ]); repeat (first | (refine Ord.wpT_skip ?_ ?_; (focus (go_simp; (try (intro h; cases h)); done)); simp only [Act.put, List.setIfInBounds_toArray, List.set_cons_zero, List.set_cons_succ]) | (refine Ord.wpT_take (v := ?_) ?_ ?_ ?_; rotate_left; (focus (go_simp; done)); (focus (intro w' hSw; (try dsimp only at hSw); go_simp; (try with_reducible rfl); done)); simp only [Act.put, List.setIfInBounds_toArray, List.set_cons_zero, List.set_cons_succ])))
      (refine Ord.wpT_call ?_ (fun K hK => ?_); (focus (go_simp; done)); go_simp)
      go_at_call 31
      refine (HS.out _ _ _ (Rd.of_own ho8) (KY.out _ d8)).mono ?_
      rintro e w9 ⟨rfl, b9⟩
      have d9 := below_go b9 d8
      (refine hK _ _ (by trivial) ?_; clear hK K; (try simp only [Act.put, List.setIfInBounds_toArray, List.set_cons_zero, List.set_cons_succ]); repeat (first | (refine Ord.wpT_skip ?_ ?_; (focus (go_simp; (try (intro h; cases h)); done)); simp only [Act.put, List.setIfInBounds_toArray, List.set_cons_zero, List.set_cons_succ]) | (refine Ord.wpT_take (v := ?_) ?_ ?_ ?_; rotate_left; (focus (go_simp; done)); (focus (intro w' hSw; (try dsimp only at hSw); go_simp; (try with_reducible rfl); done)); simp only [Act.put, List.setIfInBounds_toArray, List.set_cons_zero, List.set_cons_succ])))
      (refine Ord.wpT_call ?_ (fun K hK => ?_); (focus (go_simp; done)); go_simp)
      go_at_call 18
      refine (one_any _).mono ?_
      rintro e w10 ⟨rfl, b10⟩
      have d10 := below_go b10 d9
      (refine hK _ _ (by trivial) ?_; clear hK K; (try simp only [Act.put, List.setIfInBounds_toArray, List.set_cons_zero, List.set_cons_succ]); repeat (first | (refine Ord.wpT_skip ?_ ?_; (focus (go_simp; (try (intro h; cases h)); done)); simp only [Act.put, List.setIfInBounds_toArray, List.set_cons_zero, List.set_cons_succ]) | (refine Ord.wpT_take (v := ?_) ?_ ?_ ?_; rotate_left; (focus (go_simp; done)); (focus (intro w' hSw; (try dsimp only at hSw); go_simp; (try with_reducible rfl); done)); simp only [Act.put, List.setIfInBounds_toArray, List.set_cons_zero, List.set_cons_succ])))
      refine Ord.wpT_nil ?_
      go_wp2_with fail
      go_ret
      exact ⟨rfl, below_go d10 Hc4.out⟩
set_option maxRecDepth 100000 in
set_option maxHeartbeats 4000000 in
theorem IdsBytes_any (v : Value) (l : List Id) (u : Value) (b : List UInt8) (most : Int) (w : World) (hv : Rd w 32 v l.length (ix l)) (h32 : W32 l) (hu : Rd w 1 u b.length (bs b)) (hm : I64 most) :
    Calls Try.prog 5 #[v, u, .int .i64 most] w fun r w' => r = .returned (.bool true) ∧ Below w.heap.size w w' := by
  by_cases h1 : 60 < l.length
  · obtain ⟨A1, c1', rfl, -, -, -⟩ := hv.slice_
    have hd1 : decide ((60 : Int) < (l.length : Int)) = true := decide_eq_true (by omega)
    clear hv hu
    go_enter Try.func5, Try.ntmps5
    go_wp2_with fail
    go_ret
    exact ⟨rfl, Below.refl _ _⟩
  by_cases h2 : 3000 < b.length
  · obtain ⟨A1, c1', rfl, -, -, -⟩ := hv.slice_
    obtain ⟨A2, c2', rfl, -, -, -⟩ := hu.slice_
    have hd1 : decide ((60 : Int) < (l.length : Int)) = false := decide_eq_false (by omega)
    have hd2 : decide ((3000 : Int) < (b.length : Int)) = true := decide_eq_true (by omega)
    clear hv hu
    go_enter Try.func5, Try.ntmps5
    go_wp2_with fail
    go_ret
    exact ⟨rfl, Below.refl _ _⟩
  exact IdsBytes_walk l h32 (by omega) v b (by omega) u most hm.2 w hv hu
end Go.Proofs.Ytpldkplfdbjidaa.Ids
