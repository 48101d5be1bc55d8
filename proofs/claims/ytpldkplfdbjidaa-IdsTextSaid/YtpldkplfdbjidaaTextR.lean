/- The reference's text of an id, walked. -/
import Derived.Test.YtpldkplfdbjidaaTextW
set_option linter.unusedVariables false
set_option linter.unusedSimpArgs false
namespace Go.Proofs.Ytpldkplfdbjidaa.Ids
open Go.RowKit Go.Proofs.Ytpldkplfdbjidaa.Wd Go.Proofs.Ytpldkplfdbjidaa.Use Go.Proofs.Ytpldkplfdbjidaa.Lay

theorem cut_hex (d : Nat) (hd : d < 16) : (⟨#[48, 49, 50, 51, 52, 53, 54, 55, 56, 57, 97, 98, 99, 100, 101, 102]⟩ : ByteArray).extract d (d + 1) = str [hx d] := by
  have h : ∀ n : Fin 16, ((⟨#[48, 49, 50, 51, 52, 53, 54, 55, 56, 57, 97, 98, 99, 100, 101, 102]⟩ : ByteArray).extract n.val (n.val + 1)).data = #[hx n.val] := by decide
  exact ByteArray.ext (h ⟨d, hd⟩)
set_option maxRecDepth 100000 in
set_option maxHeartbeats 4000000 in
theorem rText_any (a : Id) (ha : a.length = 32) (w : World) :
    Calls Try.prog 15 #[.agg (bs a).toArray] w fun r w' => r = .returned (.string (str (tx a))) ∧ Below w.heap.size w w' := by
  obtain ⟨X, hX⟩ : ∃ X, X = bs a := ⟨_, rfl⟩
  obtain ⟨W0, hW0⟩ : ∃ W, W = w.alloc (.cells X.toArray 22) := ⟨_, rfl⟩
  have hb0 : Below w.heap.size w W0 := by rw [hW0]; exact below_one _ _
  have hblk : W0.heap[w.heap.size]? = some (.cells X.toArray 22 (0, 0)) := by rw [hW0]; exact heap_alloc_new _ _
  have HW0 := Lib.hid hW0
  rw [← hX]
  have Hcl := Lib.hid (show ∀ k : Nat, k < 32 → ∀ W, Below W0.heap.size W0 W → W.cell? ⟨w.heap.size, k, none⟩ = some (.int .u8 ((a.getD k 0).toNat : Int)) from fun k hk W h => by
    rw [blk_cell (blk_below hblk h)]; simp only [List.getElem?_toArray]; rw [hX]; exact bs_getElem? a k (by omega))
  have Ha := Lib.hid ha
  clear hX hblk hW0 ha
  go_enter Try.func15, Try.ntmps15
  go_upto_region 1 with fail
  rw [← HW0.out]
  go_wp2_with fail
  go_loopw [3, 4] (fun v_ i_ wr => ∃ (k : Nat), k ≤ 32 ∧ v_ = .string (str (tx (a.take k))) ∧ i_ = .int .i64 (k : Int) ∧ Below W0.heap.size W0 wr) (fun _ i_ _ => 32 - (intOf i_).toNat)
  case atStart => exact ⟨0, by omega, rfl, rfl, Below.refl _ _⟩
  case round =>
    obtain ⟨k, hk, rfl, rfl, hB⟩ := hrel
    by_cases hk32 : k < 32
    rotate_left
    · obtain rfl : k = 32 := by omega
      have He := Lib.hid (show a.take 32 = a from List.take_of_length_le (by rw [Ha.out]; exact Nat.le_refl _))
      go_wp2_with fail
      go_ret
      have h := congrArg (fun x => Ending.returned (.string (str (tx x)))) He.out
      exact ⟨h, below_go hB hb0⟩
    have d1 : decide ((k : Int) < 32) = true := decide_eq_true (by omega)
    have i0 : (0 : Int) ≤ (k : Int) := by omega
    have i1 : (k : Int) < 32 := by omega
    have hc := Hcl.out k hk32 wr hB
    have Hsn := Lib.hid (tx_snoc a (k := k) (by rw [Ha.out]; exact hk32))
    have hbl := (a.getD k 0).toNat_lt
    have hh2 : h2 (a.getD k 0) = [hx ((a.getD k 0).toNat / 16), hx ((a.getD k 0).toNat % 16)] := rfl
    rw [hh2] at Hsn
    generalize a.getD k 0 = b at hc Hsn hbl
    obtain ⟨n, hn⟩ : ∃ n, n = b.toNat := ⟨_, rfl⟩
    rw [← hn] at hc Hsn hbl
    clear hn hh2
    obtain ⟨q, hq⟩ : ∃ q, q = n / 16 := ⟨_, rfl⟩
    obtain ⟨r, hr⟩ : ∃ r, r = n % 16 := ⟨_, rfl⟩
    have e1 : (n : Int).tdiv 16 = (q : Int) := by rw [Int.tdiv_eq_ediv_of_nonneg (by omega)]; omega
    have e2 : (n : Int).tmod 16 = (r : Int) := by rw [Int.tmod_eq_emod_of_nonneg (by omega)]; omega
    have e3 : IntKind.u8.wrap (q : Int) = (q : Int) := by rw [IntKind.wrap_u8]; omega
    have e4 : IntKind.u8.wrap (r : Int) = (r : Int) := by rw [IntKind.wrap_u8]; omega
    have hq16 : q < 16 := by omega
    have hr16 : r < 16 := by omega
    obtain ⟨q1, hq1⟩ : ∃ m, m = q + 1 := ⟨_, rfl⟩
    obtain ⟨r1, hr1⟩ : ∃ m, m = r + 1 := ⟨_, rfl⟩
    have e5 : IntKind.u8.wrap ((q : Int) + 1) = (q1 : Int) := by rw [IntKind.wrap_u8]; omega
    have e6 : IntKind.u8.wrap ((r : Int) + 1) = (r1 : Int) := by rw [IntKind.wrap_u8]; omega
    have c1 := cut_hex q hq16
    have c2 := cut_hex r hr16
    rw [← hq1] at c1
    rw [← hr1] at c2
    rw [← hq, ← hr] at Hsn
    have j0 : (0 : Int) ≤ (q : Int) := by omega
    have j1 : (q : Int) ≤ (q1 : Int) := by omega
    have j2 : (q1 : Int) ≤ 16 := by omega
    have k0 : (0 : Int) ≤ (r : Int) := by omega
    have k1 : (r : Int) ≤ (r1 : Int) := by omega
    have k2 : (r1 : Int) ≤ 16 := by omega
    have j3 : q ≤ q1 := by omega
    have j4 : q1 ≤ 16 := by omega
    have k3 : r ≤ r1 := by omega
    have k4 : r1 ≤ 16 := by omega
    clear hq hr hq1 hr1
    have hm : (str (tx (a.take k))).size = 2 * k := by rw [str_size, tx_len, List.length_take, Ha.out]; omega
    have hcat : str (tx (a.take k)) ++ str [hx q] ++ str [hx r] = str (tx (a.take (k + 1))) := by rw [str_append, str_append, Hsn.out, List.append_assoc]; rfl
    have z1 : (str [hx q]).size = 1 := by rw [str_size]; rfl
    have z2 : (str [hx r]).size = 1 := by rw [str_size]; rfl
    obtain ⟨S0, hS0⟩ : ∃ S, S = str (tx (a.take k)) := ⟨_, rfl⟩
    rw [← hS0] at hm hcat ⊢
    generalize str [hx q] = S1 at c1 z1 hcat
    generalize str [hx r] = S2 at c2 z2 hcat
    have z3 : (S0 ++ S1).size = 2 * k + 1 := by rw [ByteArray.size_append, hm, z1]
    have Hcat := Lib.hid hcat
    have y0 : (S0.size : Int) ≤ 8388608 := by omega
    have y1 : (S1.size : Int) ≤ 8388608 := by omega
    have y2 : (S2.size : Int) ≤ 8388608 := by omega
    have y3 : ((S0 ++ S1).size : Int) ≤ 8388608 := by omega
    have Ha1 := Lib.hid (fun w' => show (binOp .add 9 (.string S0) (.string S1)).run Try.prog w' = .ok (.string (S0 ++ S1)) w' by rw [binOp_string_add]; exact run_string_add w' S0 S1 y0 y1)
    have Ha2 := Lib.hid (fun w' => show (binOp .add 9 (.string (S0 ++ S1)) (.string S2)).run Try.prog w' = .ok (.string (S0 ++ S1 ++ S2)) w' by rw [binOp_string_add]; exact run_string_add w' (S0 ++ S1) S2 y3 y2)
    clear hS0 hcat hm z1 z2 z3 y0 y1 y2 y3
    go_wp2_with fail
    (refine Ord.wp_region_ord [(false, 0), (false, 1), (false, 2), (false, 3), (false, 4), (false, 5), (false, 6), (false, 7), (false, 8), (false, 9), (false, 10), (false, 11), (false, 12), (false, 13), (false, 14), (false, 15), (false, 16), (false, 17), (false, 18), (false, 19), (false, 20), (false, 21), (false, 22), (false, 23)] (fun W => W.cell? ⟨w.heap.size, k, none⟩ = some (.int .u8 (n : Int))) (by kernel_rfl) (by kernel_rfl) (by kernel_rfl) (by kernel_rfl) (by exact hc) ?_; simp only [Ord.ordOps, List.filterMap_cons, List.filterMap_nil, List.getElem?_toArray, List.getElem?_cons_succ, List.getElem?_cons_zero, Option.map_some]; repeat (first | (refine Ord.wpOrd_skip ?_ ?_; (focus (go_simp; (try (intro h; cases h)); done)); simp only [Act.put, List.setIfInBounds_toArray, List.set_cons_zero, List.set_cons_succ]) | (refine Ord.wpOrd_take (v := ?_) ?_ ?_ ?_; rotate_left; (focus (go_simp; done)); (focus (intro w' hSw; (try dsimp only at hSw); go_simp; (try with_reducible rfl); done)); simp only [Act.put, List.setIfInBounds_toArray, List.set_cons_zero, List.set_cons_succ])))
    refine Ord.wpOrd_bin ?_ .add 9 _ _ _ rfl (.string S0) (.string S1) (.string (S0 ++ S1)) rfl rfl (fun _ => rfl) Ha1.out ?_
    focus (go_simp; done)
    ((try simp only [Act.put, List.setIfInBounds_toArray, List.set_cons_zero, List.set_cons_succ]); repeat (first | (refine Ord.wpOrd_skip ?_ ?_; (focus (go_simp; (try (intro h; cases h)); done)); simp only [Act.put, List.setIfInBounds_toArray, List.set_cons_zero, List.set_cons_succ]) | (refine Ord.wpOrd_take (v := ?_) ?_ ?_ ?_; rotate_left; (focus (go_simp; done)); (focus (intro w' hSw; (try dsimp only at hSw); go_simp; (try with_reducible rfl); done)); simp only [Act.put, List.setIfInBounds_toArray, List.set_cons_zero, List.set_cons_succ])))
    refine Ord.wpOrd_bin ?_ .add 9 _ _ _ rfl (.string (S0 ++ S1)) (.string S2) (.string (S0 ++ S1 ++ S2)) rfl rfl (fun _ => rfl) Ha2.out ?_
    focus (go_simp; done)
    ((try simp only [Act.put, List.setIfInBounds_toArray, List.set_cons_zero, List.set_cons_succ]); repeat (first | (refine Ord.wpOrd_skip ?_ ?_; (focus (go_simp; (try (intro h; cases h)); done)); simp only [Act.put, List.setIfInBounds_toArray, List.set_cons_zero, List.set_cons_succ]) | (refine Ord.wpOrd_take (v := ?_) ?_ ?_ ?_; rotate_left; (focus (go_simp; done)); (focus (intro w' hSw; (try dsimp only at hSw); go_simp; (try with_reducible rfl); done)); simp only [Act.put, List.setIfInBounds_toArray, List.set_cons_zero, List.set_cons_succ])))
    refine Ord.wpOrd_nil ?_
    go_wp2_with fail
    exact ⟨⟨k + 1, by omega, by rw [← Hcat.out], by go_num, hB.drew⟩, by simp only [intOf]; omega⟩
end Go.Proofs.Ytpldkplfdbjidaa.Ids
