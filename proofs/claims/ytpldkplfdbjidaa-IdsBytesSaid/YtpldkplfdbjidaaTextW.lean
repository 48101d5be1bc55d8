/- Ids' texts, walked. -/
import Derived.Test.YtpldkplfdbjidaaTextPure
import Derived.Test.YtpldkplfdbjidaaIdsW
import Derived.Test.YtpldkplfdbjidaaShaNobody
import Derived.Test.YtpldkplfdbjidaaAppO
set_option linter.unusedVariables false
set_option linter.unusedSimpArgs false
namespace Go.Proofs.Ytpldkplfdbjidaa.Ord
open Go
theorem wpOrd_index {P : Program} {ops : Array Oper} {Q : Exit → Act → World → Prop} {S : World → Prop} {o : Oper} {l : List (Bool × Oper)} {a : Act} {w : World} (hw : Region.wanted o (yielded ops a.tmps) = true) (t : TypeId) (x y : Operand) (ho : o.op = .index t x y)
    (u v r : Value) (hx : a.eval x = u) (hy : a.eval y = v) (hb : ∀ w', (Instr.index t u v).run P w' = .ok r w')
    (h : WpOrd P ops Q S l (a.put o.dst r) w) : WpOrd P ops Q S ((false, o) :: l) a w :=
  wpOrd_take hw (fun w' _ => by
    unfold execOp
    simp only [ho, hx, hy, Sem.run_bind, Sem.run_pure, Result.andThen_ok, hb]) h
end Go.Proofs.Ytpldkplfdbjidaa.Ord
namespace Go.Proofs.Ytpldkplfdbjidaa.Ids
open Go.RowKit Go.Proofs.Ytpldkplfdbjidaa.Wd Go.Proofs.Ytpldkplfdbjidaa.Use Go.Proofs.Ytpldkplfdbjidaa.Lay

theorem run_idx (a : List UInt8) (ha : a.length = 32) (k : Nat) (hk : k < 32) (W : World) : (Instr.index 23 (.agg (bs a).toArray) (.int .i64 (k : Int))).run Try.prog W = .ok (.int .u8 ((a.getD k 0).toNat : Int)) W := by
  have h1 : (0 : Int) ≤ (k : Int) ∧ (k : Int) < ((32 : Nat) : Int) := by omega
  have h2 : (bs a)[k]? = some (.int .u8 ((a.getD k 0).toNat : Int)) := bs_getElem? a k (by omega)
  simp [Instr.index, run_underlying Try.underlying23, asIntOf, go_sem, hk, Try.sizeOf5, part, Try.isAgg5, h2]
def hexs : ByteArray := ⟨#[48, 49, 50, 51, 52, 53, 54, 55, 56, 57, 97, 98, 99, 100, 101, 102]⟩
theorem run_hex (d : Nat) (hd : d < 16) (W : World) : (Instr.index 9 (.string ⟨#[48, 49, 50, 51, 52, 53, 54, 55, 56, 57, 97, 98, 99, 100, 101, 102]⟩) (.int .u8 (d : Int))).run Try.prog W = .ok (.int .u8 ((hx d).toNat : Int)) W := by
  have hi : (0 : Int) ≤ (d : Int) ∧ (d : Int) < (hexs.size : Int) := ⟨by omega, by show (d : Int) < 16; omega⟩
  show (Instr.index 9 (.string hexs) (.int .u8 (d : Int))).run Try.prog W = _
  rw [run_index_string W 9 hexs .u8 (d : Int) Try.underlying9, dif_pos hi]
  have h : ∀ n : Fin 16, hexs[n.val]'(n.isLt) = hx n.val := by decide
  have h3 : hexs[d]'(hd) = hx d := h ⟨d, hd⟩
  exact congrArg (fun b : UInt8 => Result.ok (Value.int .u8 (b.toNat : Int)) W) h3
set_option maxRecDepth 100000 in
set_option maxHeartbeats 4000000 in
theorem digit_any (c : UInt8) (w : World) :
    Calls Try.prog 64 #[.int .u8 (c.toNat : Int)] w fun r w' => r = .returned (.tuple #[.int .u8 ((dg c).1.toNat : Int), .bool (dg c).2]) ∧ w' = w := by
  have hb := c.toNat_lt
  by_cases h1 : 48 ≤ c.toNat ∧ c.toNat ≤ 57
  · have e : dg c = (c - 48, true) := if_pos ⟨UInt8.le_iff_toNat_le.2 h1.1, UInt8.le_iff_toNat_le.2 h1.2⟩
    have e2 : (c - 48).toNat = c.toNat - 48 := UInt8.toNat_sub_of_le _ _ (UInt8.le_iff_toNat_le.2 h1.1)
    rw [e]
    simp only [e2]
    have d1 : decide ((48 : Int) ≤ (c.toNat : Int)) = true := decide_eq_true (by omega)
    have d2 : decide ((c.toNat : Int) ≤ 57) = true := decide_eq_true (by omega)
    have hw : IntKind.u8.wrap ((c.toNat : Int) - 48) = ((c.toNat - 48 : Nat) : Int) := by rw [IntKind.wrap_u8]; omega
    clear e e2
    generalize c.toNat = n at *
    generalize n - 48 = m at hw ⊢
    go_enter Try.func64, Try.ntmps64
    go_wp2_with fail
    go_ret2
    exact ⟨rfl, rfl⟩
  by_cases h2 : 97 ≤ c.toNat ∧ c.toNat ≤ 102
  · have e : dg c = (c - 97 + 10, true) := by
      rw [dg, if_neg (fun h : 48 ≤ c ∧ c ≤ 57 => h1 ⟨UInt8.le_iff_toNat_le.1 h.1, UInt8.le_iff_toNat_le.1 h.2⟩), if_pos ⟨UInt8.le_iff_toNat_le.2 h2.1, UInt8.le_iff_toNat_le.2 h2.2⟩]
    have e2 : (c - 97 + 10).toNat = c.toNat - 87 := by
      have hle : (97 : UInt8) ≤ c := UInt8.le_iff_toNat_le.2 h2.1
      rw [UInt8.toNat_add, UInt8.toNat_sub_of_le _ _ hle]
      show (c.toNat - 97 + 10) % 256 = _
      omega
    rw [e]
    simp only [e2]
    have d1 : decide ((48 : Int) ≤ (c.toNat : Int)) = true := decide_eq_true (by omega)
    have d2 : decide ((c.toNat : Int) ≤ 57) = false := decide_eq_false (by omega)
    have d3 : decide ((97 : Int) ≤ (c.toNat : Int)) = true := decide_eq_true (by omega)
    have d4 : decide ((c.toNat : Int) ≤ 102) = true := decide_eq_true (by omega)
    have hw : IntKind.u8.wrap ((c.toNat : Int) - 97) = ((c.toNat - 97 : Nat) : Int) := by rw [IntKind.wrap_u8]; omega
    have hw2 : IntKind.u8.wrap (((c.toNat - 97 : Nat) : Int) + 10) = ((c.toNat - 87 : Nat) : Int) := by rw [IntKind.wrap_u8]; omega
    clear e e2
    generalize c.toNat = n at *
    generalize n - 97 = m at hw hw2
    generalize n - 87 = m2 at hw2 ⊢
    go_enter Try.func64, Try.ntmps64
    go_wp2_with fail
    go_ret2
    exact ⟨rfl, rfl⟩
  have e : dg c = (0, false) := by
    rw [dg, if_neg (fun h : 48 ≤ c ∧ c ≤ 57 => h1 ⟨UInt8.le_iff_toNat_le.1 h.1, UInt8.le_iff_toNat_le.1 h.2⟩), if_neg (fun h : 97 ≤ c ∧ c ≤ 102 => h2 ⟨UInt8.le_iff_toNat_le.1 h.1, UInt8.le_iff_toNat_le.1 h.2⟩)]
  rw [e]
  clear e
  generalize c.toNat = n at *
  rcases Nat.lt_or_ge n 48 with h3 | h3
  · have d1 : decide ((48 : Int) ≤ (n : Int)) = false := decide_eq_false (by omega)
    have d3 : decide ((97 : Int) ≤ (n : Int)) = false := decide_eq_false (by omega)
    go_enter Try.func64, Try.ntmps64
    go_wp2_with fail
    go_ret2
    exact ⟨rfl, rfl⟩
  have d1 : decide ((48 : Int) ≤ (n : Int)) = true := decide_eq_true (by omega)
  have d2 : decide ((n : Int) ≤ 57) = false := decide_eq_false (by omega)
  rcases Nat.lt_or_ge n 97 with h4 | h4
  · have d3 : decide ((97 : Int) ≤ (n : Int)) = false := decide_eq_false (by omega)
    go_enter Try.func64, Try.ntmps64
    go_wp2_with fail
    go_ret2
    exact ⟨rfl, rfl⟩
  · have d3 : decide ((97 : Int) ≤ (n : Int)) = true := decide_eq_true (by omega)
    have d4 : decide ((n : Int) ≤ 102) = false := decide_eq_false (by omega)
    go_enter Try.func64, Try.ntmps64
    go_wp2_with fail
    go_ret2
    exact ⟨rfl, rfl⟩
set_option maxRecDepth 100000 in
set_option maxHeartbeats 4000000 in
theorem Text_any (a : Id) (ha : a.length = 32) (w : World) :
    Calls Try.prog 13 #[.agg (bs a).toArray] w fun r w' => r = .returned (.string (str (tx a))) ∧ Below w.heap.size w w' := by
  obtain ⟨X, hX⟩ : ∃ X, X = bs a := ⟨_, rfl⟩
  have HX := Lib.hid hX
  have hXl : X.length = 32 := by rw [hX, bs_length, ha]
  obtain ⟨W0, hW0⟩ : ∃ W, W = w.alloc (.cells X.toArray 23) := ⟨_, rfl⟩
  have hb0 : Below w.heap.size w W0 := by rw [hW0]; exact below_one _ _
  have hblk : W0.heap[w.heap.size]? = some (.cells X.toArray 23 (0, 0)) := by rw [hW0]; exact heap_alloc_new _ _
  have HW0 := Lib.hid hW0
  rw [← hX]
  have Hxr := Lib.hid (show W0.rangeAt w.heap.size 0 X from range_all hblk)
  have Hix := Lib.hid (show (Try.prog.info? 23).map (·.size) = some X.length by rw [hXl]; rfl)
  have Ha := Lib.hid ha
  have Hidx := Lib.hid (show ∀ k : Nat, k < 32 → ∀ W, (Instr.index 23 (.agg X.toArray) (.int .i64 (k : Int))).run Try.prog W = .ok (.int .u8 ((a.getD k 0).toNat : Int)) W from fun k hk W => by rw [hX]; exact run_idx a ha k hk W)
  clear hX hXl hblk hW0 ha
  go_enter Try.func13, Try.ntmps13
  go_upto_region 1 with fail
  rw [← HW0.out]
  go_wp2_with (refine wpList_load_mid rfl 23 _ rfl w.heap.size 0 rfl X _ Hxr.out Try.underlying23 rfl Hix.out ?_)
  go_loopw [3, 7] (fun v_ i_ wr => ∃ (v : Value) (k : Nat), k ≤ 32 ∧ v_ = v ∧ i_ = .int .i64 (k : Int) ∧ Hid (wr.ownsRow w.heap.size 5 1 v (tx (a.take k)).length (bs (tx (a.take k)))) ∧ Below w.heap.size w wr) (fun _ i_ _ => 32 - (intOf i_).toNat)
  case atStart => exact ⟨_, 0, by omega, rfl, rfl, Lib.hid (own_nil _ _ _ _), hb0⟩
  case round =>
    obtain ⟨v, k, hk, rfl, rfl, Ho, hB⟩ := hrel
    by_cases hk32 : k < 32
    rotate_left
    · obtain rfl : k = 32 := by omega
      have He := Lib.hid (show a.take 32 = a from List.take_of_length_le (by rw [Ha.out]; exact Nat.le_refl _))
      have Hcv := Lib.hid (conv_rd (W := wr) (tx a) (by have h := Rd.of_own Ho.out; rw [He.out] at h; exact h))
      have hcv := Hcv.out
      go_wp2_with (simp only [hcv])
      go_ret
      exact ⟨rfl, hB⟩
    have d1 : decide ((k : Int) < 32) = true := decide_eq_true (by omega)
    have hidx := Hidx.out k hk32
    have Hsn := Lib.hid (tx_snoc a (k := k) (by rw [Ha.out]; exact hk32))
    have Hln := Lib.hid (show (tx (a.take k)).length = 2 * k by rw [tx_len, List.length_take, Ha.out]; omega)
    have hbl := (a.getD k 0).toNat_lt
    have Hq1 := Lib.hid <| fun W => run_hex ((a.getD k 0).toNat / 16) (by omega) W
    have Hq2 := Lib.hid <| fun W => run_hex ((a.getD k 0).toNat % 16) (by omega) W
    have hh2 : h2 (a.getD k 0) = [hx ((a.getD k 0).toNat / 16), hx ((a.getD k 0).toNat % 16)] := rfl
    rw [hh2] at Hsn
    generalize a.getD k 0 = b at hidx Hsn hbl Hq1 Hq2
    obtain ⟨n, hn⟩ : ∃ n, n = b.toNat := ⟨_, rfl⟩
    rw [← hn] at hidx Hsn hbl Hq1 Hq2
    clear hn hh2
    obtain ⟨q, hq⟩ : ∃ q, q = n / 16 := ⟨_, rfl⟩
    obtain ⟨r, hr⟩ : ∃ r, r = n % 16 := ⟨_, rfl⟩
    have e1 : (n : Int).tdiv 16 = (q : Int) := by rw [Int.tdiv_eq_ediv_of_nonneg (by omega)]; omega
    have e2 : (n : Int).tmod 16 = (r : Int) := by rw [Int.tmod_eq_emod_of_nonneg (by omega)]; omega
    have e3 : IntKind.u8.wrap (q : Int) = (q : Int) := by rw [IntKind.wrap_u8]; omega
    have e4 : IntKind.u8.wrap (r : Int) = (r : Int) := by rw [IntKind.wrap_u8]; omega
    rw [← hq, ← hr] at Hsn
    rw [← hq] at Hq1
    rw [← hr] at Hq2
    clear hq hr
    generalize hx q = c1 at Hsn Hq1
    generalize hx r = c2 at Hsn Hq2
    have hba := below_one wr (.cells #[.int .u8 (c1.toNat : Int), .int .u8 (c2.toNat : Int)] 5)
    have Hba := Lib.hid hba.drew
    have Hlit := Lib.hid (show Rd (wr.alloc (.cells #[.int .u8 (c1.toNat : Int), .int .u8 (c2.toNat : Int)] 5)).drew 1 (.slice (some ⟨wr.heap.size, 0, none⟩) 2 2) 2 (bs [c1, c2]) from (Rd.lit wr 1 2 (bs [c1, c2]) 5 rfl (by simp [maxLen])).below (Below.refl _ _).drew)
    have Ho2 := Lib.hid (own_below Ho.out hba.drew)
    clear hba
    go_upto_region 5 with (simp only [hidx])
    (refine Ord.wp_region_ord [(false, 0), (false, 1), (false, 2), (false, 3), (false, 4), (false, 5), (false, 6), (true, 7), (true, 8), (false, 9)] (fun W => True) (by kernel_rfl) (by kernel_rfl) (by kernel_rfl) (by kernel_rfl) (by trivial) ?_; simp only [Ord.ordOps, List.filterMap_cons, List.filterMap_nil, List.getElem?_toArray, List.getElem?_cons_succ, List.getElem?_cons_zero, Option.map_some]; repeat (first | (refine Ord.wpOrd_skip ?_ ?_; (focus (go_simp; (try (intro h; cases h)); done)); simp only [Act.put, List.setIfInBounds_toArray, List.set_cons_zero, List.set_cons_succ]) | (refine Ord.wpOrd_take (v := ?_) ?_ ?_ ?_; rotate_left; (focus (go_simp; done)); (focus (intro w' hSw; (try dsimp only at hSw); go_simp; (try with_reducible rfl); done)); simp only [Act.put, List.setIfInBounds_toArray, List.set_cons_zero, List.set_cons_succ])))
    refine Ord.wpOrd_index ?_ 9 _ _ rfl _ _ (.int .u8 (c1.toNat : Int)) rfl rfl Hq1.out ?_
    focus (go_simp; done)
    ((try simp only [Act.put, List.setIfInBounds_toArray, List.set_cons_zero, List.set_cons_succ]); repeat (first | (refine Ord.wpOrd_skip ?_ ?_; (focus (go_simp; (try (intro h; cases h)); done)); simp only [Act.put, List.setIfInBounds_toArray, List.set_cons_zero, List.set_cons_succ]) | (refine Ord.wpOrd_take (v := ?_) ?_ ?_ ?_; rotate_left; (focus (go_simp; done)); (focus (intro w' hSw; (try dsimp only at hSw); go_simp; (try with_reducible rfl); done)); simp only [Act.put, List.setIfInBounds_toArray, List.set_cons_zero, List.set_cons_succ])))
    refine Ord.wpOrd_index ?_ 9 _ _ rfl _ _ (.int .u8 (c2.toNat : Int)) rfl rfl Hq2.out ?_
    focus (go_simp; done)
    ((try simp only [Act.put, List.setIfInBounds_toArray, List.set_cons_zero, List.set_cons_succ]); repeat (first | (refine Ord.wpOrd_skip ?_ ?_; (focus (go_simp; (try (intro h; cases h)); done)); simp only [Act.put, List.setIfInBounds_toArray, List.set_cons_zero, List.set_cons_succ]) | (refine Ord.wpOrd_take (v := ?_) ?_ ?_ ?_; rotate_left; (focus (go_simp; done)); (focus (intro w' hSw; (try dsimp only at hSw); go_simp; (try with_reducible rfl); done)); simp only [Act.put, List.setIfInBounds_toArray, List.set_cons_zero, List.set_cons_succ])))
    (refine Ord.wpOrd_call ?_ (fun K hK => ?_); (focus (go_simp; done)); go_simp)
    (refine hK _ _ (trivial) ?_; clear hK K; (try simp only [Act.put, List.setIfInBounds_toArray, List.set_cons_zero, List.set_cons_succ]); repeat (first | (refine Ord.wpOrd_skip ?_ ?_; (focus (go_simp; (try (intro h; cases h)); done)); simp only [Act.put, List.setIfInBounds_toArray, List.set_cons_zero, List.set_cons_succ]) | (refine Ord.wpOrd_take (v := ?_) ?_ ?_ ?_; rotate_left; (focus (go_simp; done)); (focus (intro w' hSw; (try dsimp only at hSw); go_simp; (try with_reducible rfl); done)); simp only [Act.put, List.setIfInBounds_toArray, List.set_cons_zero, List.set_cons_succ])))
    refine Ord.wpOrd_app_row Use.elU8 ?_ (.tmp 10) (.tmp 17) rfl w.heap.size _ _ (tx (a.take k)).length 2 (bs (tx (a.take k))) (bs [c1, c2]) rfl rfl (bs_oneCell _) Ho2.out Hlit.out (Nat.le_trans hB.size Hba.out.size) (by rw [Hln.out]; omega) (fun v5 w5 ho5 hg5 hat5 => ?_)
    focus (go_simp; done)
    refine ⟨trivial, ?_⟩
    have Ho5 := Lib.hid (show w5.ownsRow w.heap.size 5 1 v5 (tx (a.take (k + 1))).length (bs (tx (a.take (k + 1)))) from by
      rw [Hsn.out, List.length_append, bs_append]; exact ho5)
    have hB5 := (hB.trans (Hba.out.mono hB.size)).grown hg5 (Nat.le_trans hB.size Hba.out.size) (fun q hq => own_base Ho2.out q hq)
    clear ho5 hg5 hat5
    ((try simp only [Act.put, List.setIfInBounds_toArray, List.set_cons_zero, List.set_cons_succ]); repeat (first | (refine Ord.wpOrd_skip ?_ ?_; (focus (go_simp; (try (intro h; cases h)); done)); simp only [Act.put, List.setIfInBounds_toArray, List.set_cons_zero, List.set_cons_succ]) | (refine Ord.wpOrd_take (v := ?_) ?_ ?_ ?_; rotate_left; (focus (go_simp; done)); (focus (intro w' hSw; (try dsimp only at hSw); go_simp; (try with_reducible rfl); done)); simp only [Act.put, List.setIfInBounds_toArray, List.set_cons_zero, List.set_cons_succ])))
    refine Ord.wpOrd_nil ?_
    go_wp2_with fail
    exact ⟨⟨_, k + 1, by omega, rfl, by go_num, Ho5, hB5⟩, by simp only [intOf]; omega⟩
end Go.Proofs.Ytpldkplfdbjidaa.Ids
