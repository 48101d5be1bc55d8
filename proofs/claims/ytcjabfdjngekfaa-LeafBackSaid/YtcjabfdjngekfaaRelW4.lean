/- Walks of layer 26: an envelope's bytes. -/
import Derived.Test.YtcjabfdjngekfaaRelW3
import Derived.Test.YtcjabfdjngekfaaRef01W
import Derived.Test.YtcjabfdjngekfaaLayW
set_option linter.unusedVariables false
set_option linter.unusedSimpArgs false
namespace Go.Proofs.Ytcjabfdjngekfaa.Rel
open Go.RowKit Go.Proofs.Ytcjabfdjngekfaa.Wd Go.Proofs.Ytcjabfdjngekfaa.Use Go.Proofs.Ytcjabfdjngekfaa.Lay

theorem okTo_peer (l : List Int) (n k : Nat) (h : okTo l n = true) (hk : k < n) : 0 ≤ l.getD k 0 ∧ l.getD k 0 < 16 := by
  induction n with
  | zero => omega
  | succ n ih =>
    simp only [okTo, Bool.and_eq_true] at h
    rcases Nat.lt_or_ge k n with h1 | h1
    · exact ih h.1 h1
    · obtain rfl : k = n := by omega
      have := h.2
      simp only [okAt, peerB, Bool.and_eq_true, decide_eq_true_eq] at this
      exact this.1
theorem right_facts {e : E} (h : e.right = true) : 0 ≤ e.limit ∧ e.limit ≤ 8 ∧ (e.hops.length : Int) ≤ e.limit ∧ e.inner.length ≤ 65536 ∧ okTo e.hops e.hops.length = true := by
  simp only [E.right, E.lead, Bool.and_eq_true, decide_eq_true_eq] at h
  obtain ⟨⟨⟨⟨a, b⟩, c⟩, d⟩, f⟩ := h
  exact ⟨a, b, c, d, f⟩
def hb (l : List Int) : List UInt8 := l.flatMap fun h => putN h.toNat
theorem hb_snoc (l : List Int) (x : Int) : hb (l ++ [x]) = hb l ++ putN x.toNat := by simp [hb]
theorem putN_le (v : Nat) (h : v < 18446744073709551616) : (putN v).length ≤ 9 := by rw [putN_length]; have := blen_le h; omega
theorem hb_le (l : List Int) (h : ∀ x ∈ l, x < 16) : (hb l).length ≤ 9 * l.length := by
  induction l with
  | nil => simp [hb]
  | cons x l ih =>
    have h1 := ih (fun y hy => h y (List.mem_cons_of_mem _ hy))
    have h2 := h x List.mem_cons_self
    have h3 := putN_le x.toNat (by omega)
    simp only [hb, List.flatMap_cons, List.length_append, List.length_cons] at h1 ⊢
    omega
theorem hops_lt {e : E} (h : e.right = true) : ∀ x ∈ e.hops, x < 16 := by
  intro x hx
  obtain ⟨i, hi, rfl⟩ := List.getElem_of_mem hx
  have := okTo_peer e.hops e.hops.length i (right_facts h).2.2.2.2 hi
  rw [List.getD_eq_getElem?_getD, List.getElem?_eq_getElem hi] at this
  exact this.2
theorem head_le (e : E) (h : e.right = true) : e.head.length ≤ 27 := by
  obtain ⟨h1, h2, h3, -, -⟩ := right_facts h
  have a := putN_le 3 (by omega)
  have b := putN_le e.limit.toNat (by omega)
  have c := putN_le e.hops.length (by omega)
  simp only [E.head, List.length_append]
  omega
set_option maxRecDepth 100000 in
set_option maxHeartbeats 2000000 in
theorem rput_any (e : E) (hv : Value) (w : World) (he : EIn w e hv) (hr : e.right = true) : Calls Try.prog 39 #[.agg #[hv, .int .i64 e.limit, .string (str e.inner)]] w fun r w' => r = .returned (.string (str e.put)) ∧ Below w.heap.size w w' := by
  obtain ⟨A, c, rfl, hc1, hc2, -⟩ := he.hops.slice_
  unfold maxLen at hc2
  have hh := he.hops
  obtain ⟨f1, f2, f3, f4, f5⟩ := right_facts hr
  have hhd := head_le e hr
  have hlt := hops_lt hr
  have hput : e.put = e.head ++ hb e.hops ++ putT e.inner := rfl
  have hhead : e.head = putN 3 ++ putN e.limit.toNat ++ putN e.hops.length := rfl
  obtain ⟨hops, limit, inner⟩ := e
  simp only at hh f1 f2 f3 f4 f5 hc1 hlt hput hhead ⊢
  obtain ⟨L, rfl⟩ : ∃ L : Nat, limit = (L : Int) := ⟨limit.toNat, by omega⟩
  rw [Int.toNat_natCast] at hhead
  obtain ⟨W0, hW0⟩ : ∃ W, W = w.alloc (.cells #[.slice A hops.length c, .int .i64 (L : Int), .string (str inner)] 57) := ⟨_, rfl⟩
  have hB0 : Below w.heap.size w W0 := by rw [hW0]; exact below_one _ _
  have hg0 : W0.heap[w.heap.size]? = some (.cells #[.slice A hops.length c, .int .i64 (L : Int), .string (str inner)] 57 (0, 0)) := by rw [hW0]; exact heap_alloc_new _ _
  have hh0 := hh.below hB0
  obtain ⟨n, hn⟩ : ∃ n, n = hops.length := ⟨_, rfl⟩
  rw [← hn] at hh0 hc1 f3 f5 hW0 hg0 hhead ⊢
  have hcel : ∀ W, Below W0.heap.size W0 W → W.cell? ⟨w.heap.size, 0, none⟩ = some (.slice A n c) ∧ W.cell? ⟨w.heap.size, 1, none⟩ = some (.int .i64 (L : Int)) ∧ W.cell? ⟨w.heap.size, 2, none⟩ = some (.string (str inner)) := fun W hW => env_cells (blk_below hg0 hW)
  generalize E.head ⟨hops, (L : Int), inner⟩ = hd at hhd hput hhead
  generalize E.put ⟨hops, (L : Int), inner⟩ = pt at hput ⊢
  have hp1 : ∀ W, Calls Try.prog 100 #[.string ⟨#[]⟩, .int .u64 3] W fun e w' => e = .returned (.string (str (putN 3))) ∧ Below W.heap.size W w' := fun W => Ref01.PutNumber_any [] 3 W (by omega) (by simp)
  have hp2 : ∀ W, Calls Try.prog 100 #[.string (str (putN 3)), .int .u64 (L : Int)] W fun e w' => e = .returned (.string (str (putN 3 ++ putN L))) ∧ Below W.heap.size W w' := fun W => Ref01.PutNumber_any (putN 3) L W (by omega) (by have := putN_le 3 (by omega); omega)
  have hp3 : ∀ W, Calls Try.prog 100 #[.string (str (putN 3 ++ putN L)), .int .u64 (n : Int)] W fun e w' => e = .returned (.string (str hd)) ∧ Below W.heap.size W w' := by
    intro W; rw [hhead]
    exact Ref01.PutNumber_any (putN 3 ++ putN L) n W (by omega) (by have := putN_le 3 (by omega); have := putN_le L (by omega); rw [List.length_append]; omega)
  have Hn := Lib.hid hn
  have Hh := Lib.hid hh0
  have HW0 := Lib.hid hW0
  have Hcel := Lib.hid hcel
  have Hput := Lib.hid hput
  have Hlt := Lib.hid hlt
  have Hp1 := Lib.hid hp1
  have Hp2 := Lib.hid hp2
  have Hp3 := Lib.hid hp3
  have Hok := Lib.hid f5
  clear hn hh hh0 hW0 hg0 hcel hput hlt hp1 hp2 hp3 f5 hhead he hr
  have u1 : IntKind.u64.wrap (L : Int) = (L : Int) := by rw [IntKind.wrap_u64]; omega
  have u2 : IntKind.u64.wrap (n : Int) = (n : Int) := by rw [IntKind.wrap_u64]; omega
  obtain ⟨k0, k1, k2⟩ := Hcel.out W0.drew (Below.refl _ _).drew
  go_enter Try.func39, Try.ntmps39
  go_upto_region 1 with fail
  rw [← HW0.out]
  (refine Ord.wp_region_ord [(false, 1), (false, 2), (false, 3), (false, 5), (false, 6), (false, 7), (false, 8), (true, 0), (true, 4), (true, 9), (false, 10)] (fun W => W.cell? ⟨w.heap.size, 0, none⟩ = some (.slice A n c) ∧ W.cell? ⟨w.heap.size, 1, none⟩ = some (.int .i64 (L : Int)) ∧ W.cell? ⟨w.heap.size, 2, none⟩ = some (.string (str inner))) (by kernel_rfl) (by kernel_rfl) (by kernel_rfl) (by kernel_rfl) (by exact ⟨k0, k1, k2⟩) ?_; simp only [Ord.ordOps, List.filterMap_cons, List.filterMap_nil, List.getElem?_toArray, List.getElem?_cons_succ, List.getElem?_cons_zero, Option.map_some]; repeat (first | (refine Ord.wpOrd_skip ?_ ?_; (focus (go_simp; (try (intro h; cases h)); done)); simp only [Act.put, List.setIfInBounds_toArray, List.set_cons_zero, List.set_cons_succ]) | (refine Ord.wpOrd_take (v := ?_) ?_ ?_ ?_; rotate_left; (focus (go_simp; done)); (focus (intro w' hSw; (try dsimp only at hSw); go_simp; (try with_reducible rfl); done)); simp only [Act.put, List.setIfInBounds_toArray, List.set_cons_zero, List.set_cons_succ])))
  (refine Ord.wpOrd_call ?_ (fun K hK => ?_); (focus (go_simp; done)); go_simp)
  go_at_call 100
  refine (Hp1.out _).mono ?_
  rintro e w1 ⟨rfl, hb1⟩
  have hB1 := below_go hb1 (Below.refl W0.heap.size W0).drew
  clear hb1
  (refine hK _ _ (by exact Hcel.out _ hB1) ?_; clear hK K; (try simp only [Act.put, List.setIfInBounds_toArray, List.set_cons_zero, List.set_cons_succ]); repeat (first | (refine Ord.wpOrd_skip ?_ ?_; (focus (go_simp; (try (intro h; cases h)); done)); simp only [Act.put, List.setIfInBounds_toArray, List.set_cons_zero, List.set_cons_succ]) | (refine Ord.wpOrd_take (v := ?_) ?_ ?_ ?_; rotate_left; (focus (go_simp; done)); (focus (intro w' hSw; (try dsimp only at hSw); go_simp; (try with_reducible rfl); done)); simp only [Act.put, List.setIfInBounds_toArray, List.set_cons_zero, List.set_cons_succ])))
  (refine Ord.wpOrd_call ?_ (fun K hK => ?_); (focus (go_simp; done)); go_simp)
  go_at_call 100
  refine (Hp2.out _).mono ?_
  rintro e w2 ⟨rfl, hb2⟩
  have hB2 := below_go hb2 hB1
  clear hb2
  (refine hK _ _ (by exact Hcel.out _ hB2) ?_; clear hK K; (try simp only [Act.put, List.setIfInBounds_toArray, List.set_cons_zero, List.set_cons_succ]); repeat (first | (refine Ord.wpOrd_skip ?_ ?_; (focus (go_simp; (try (intro h; cases h)); done)); simp only [Act.put, List.setIfInBounds_toArray, List.set_cons_zero, List.set_cons_succ]) | (refine Ord.wpOrd_take (v := ?_) ?_ ?_ ?_; rotate_left; (focus (go_simp; done)); (focus (intro w' hSw; (try dsimp only at hSw); go_simp; (try with_reducible rfl); done)); simp only [Act.put, List.setIfInBounds_toArray, List.set_cons_zero, List.set_cons_succ])))
  (refine Ord.wpOrd_call ?_ (fun K hK => ?_); (focus (go_simp; done)); go_simp)
  go_at_call 100
  refine (Hp3.out _).mono ?_
  rintro e w3 ⟨rfl, hb3⟩
  have hB3 := below_go hb3 hB2
  clear hb3
  (refine hK _ _ (by exact Hcel.out _ hB3) ?_; clear hK K; (try simp only [Act.put, List.setIfInBounds_toArray, List.set_cons_zero, List.set_cons_succ]); repeat (first | (refine Ord.wpOrd_skip ?_ ?_; (focus (go_simp; (try (intro h; cases h)); done)); simp only [Act.put, List.setIfInBounds_toArray, List.set_cons_zero, List.set_cons_succ]) | (refine Ord.wpOrd_take (v := ?_) ?_ ?_ ?_; rotate_left; (focus (go_simp; done)); (focus (intro w' hSw; (try dsimp only at hSw); go_simp; (try with_reducible rfl); done)); simp only [Act.put, List.setIfInBounds_toArray, List.set_cons_zero, List.set_cons_succ])))
  refine Ord.wpOrd_nil ?_
  go_wp2_with fail
  clear k0 k1 k2
  go_loopw [3, 4] (fun s i wr => ∃ k : Nat, k ≤ n ∧ i = .int .i64 k ∧ s = .string (str (hd ++ hb (hops.take k))) ∧ Below W0.heap.size W0 wr) (fun _ i _ => n - (intOf i).toNat)
  case atStart => exact ⟨0, Nat.zero_le _, rfl, by simp [hb], hB3⟩
  case round =>
    clear hB1 hB2 hB3
    obtain ⟨k, hk, rfl, rfl, hB⟩ := hrel
    obtain ⟨k0, k1, k2⟩ := Hcel.out _ hB
    have hbk := hb_le (hops.take k) (fun x hx => Hlt.out x (List.mem_of_mem_take hx))
    rw [List.length_take] at hbk
    by_cases hkn : k < n
    · obtain ⟨b, off, hA, hcell⟩ := ints_at (Hh.out.below hB) Hn.out (by omega)
      have hck := hcell k hkn
      subst hA
      obtain ⟨x1, x2⟩ := okTo_peer hops n k Hok.out hkn
      obtain ⟨x, hx⟩ : ∃ x, x = hops.getD k 0 := ⟨_, rfl⟩
      rw [← hx] at hck x1 x2
      have hst : hb (hops.take (k + 1)) = hb (hops.take k) ++ putN x.toNat := by rw [take_succ_getD hops k (by rw [← Hn.out]; exact hkn), ← hx, hb_snoc]
      obtain ⟨y, rfl⟩ : ∃ y : Nat, x = (y : Int) := ⟨x.toNat, by omega⟩
      rw [Int.toNat_natCast] at hst
      have u3 : IntKind.u64.wrap (y : Int) = (y : Int) := by rw [IntKind.wrap_u64]; omega
      have hp4 : ∀ W, Calls Try.prog 100 #[.string (str (hd ++ hb (hops.take k))), .int .u64 (y : Int)] W fun e w' => e = .returned (.string (str (hd ++ hb (hops.take (k + 1))))) ∧ Below W.heap.size W w' := by
        intro W; rw [hst, ← List.append_assoc]
        exact Ref01.PutNumber_any _ y W (by omega) (by rw [List.length_append]; omega)
      have Hp4 := Lib.hid hp4
      clear hst hx hp4 hcell hbk
      go_wp2_with (go_at_call 100; refine (Hp4.out _).mono ?_; rintro e w4 ⟨rfl, hb4⟩; have hB4 := below_go hb4 hB; clear hb4)
      exact ⟨⟨k + 1, by omega, by go_num, rfl, hB4⟩, by simp only [intOf]; omega⟩
    · obtain rfl : k = n := by omega
      have hall : hops.take k = hops := List.take_of_length_le (by rw [← Hn.out]; exact Nat.le_refl _)
      rw [hall] at hbk ⊢
      have hp5 : ∀ W, Calls Try.prog 101 #[.string (str (hd ++ hb hops)), .string (str inner)] W fun e w' => e = .returned (.string (str pt)) ∧ Below W.heap.size W w' := by
        intro W; rw [Hput.out]; exact Ref01.PutText_any _ inner W (by rw [List.length_append]; omega)
      have Hp5 := Lib.hid hp5
      clear hp5 hall hbk
      go_wp2_with (go_at_call 101; refine (Hp5.out _).mono ?_; rintro e w4 ⟨rfl, hb4⟩; have hB4 := below_go hb4 hB; clear hb4)
      go_ret
      exact ⟨rfl, below_go hB4 hB0⟩
def putl (e : E) : List UInt8 := if e.right then e.put else []
def errP (e : E) : Int := if e.right then 0 else 2
set_option maxRecDepth 100000 in
set_option maxHeartbeats 2000000 in
theorem put_any (e : E) (hv : Value) (w : World) (he : EIn w e hv) : Calls Try.prog 36 #[.agg #[hv, .int .i64 e.limit, .string (str e.inner)]] w fun r w' => ∃ v', r = .returned (.tuple #[v', .int .i64 (errP e)]) ∧ Rd w' 1 v' (putl e).length (bs (putl e)) ∧ Below w.heap.size w w' := by
  have hri := fun W (hW : EIn W e hv) => right_any e hv W hW
  obtain ⟨W0, hW0⟩ : ∃ W, W = w.alloc (.cells #[hv, .int .i64 e.limit, .string (str e.inner)] 56) := ⟨_, rfl⟩
  have hB0 : Below w.heap.size w W0 := by rw [hW0]; exact below_one _ _
  have hg0 : W0.heap[w.heap.size]? = some (.cells #[hv, .int .i64 e.limit, .string (str e.inner)] 56 (0, 0)) := by rw [hW0]; exact heap_alloc_new _ _
  have he0 := he.below hB0
  obtain ⟨A, c, rfl, hc1, hc2, -⟩ := he.hops.slice_
  unfold maxLen at hc2
  have hcel : ∀ W, Below W0.heap.size W0 W → W.cell? ⟨w.heap.size, 0, none⟩ = some (.slice A e.hops.length c) ∧ W.cell? ⟨w.heap.size, 1, none⟩ = some (.int .i64 e.limit) ∧ W.cell? ⟨w.heap.size, 2, none⟩ = some (.string (str e.inner)) := fun W hW => env_cells (blk_below hg0 hW)
  by_cases hr : e.right = true
  rotate_left
  · have hr' : e.right = false := by simpa using hr
    have hr0 := hri W0 he0
    rw [hr'] at hr0
    have h1 : errP e = 2 := by rw [errP, if_neg hr]
    have h2 : putl e = [] := by rw [putl, if_neg hr]
    rw [h1, h2]
    have HW0 := Lib.hid hW0
    have Hr0 := Lib.hid hr0
    obtain ⟨k0, k1, k2⟩ := hcel W0 (Below.refl _ _)
    clear hri hW0 hr0 hcel hg0 he he0 h1 h2 hr hr'
    go_enter Try.func36, Try.ntmps36
    go_upto_region 1 with fail
    rw [← HW0.out]
    go_wp2_with (go_at_call 37; refine Hr0.out.mono ?_; rintro e w1 ⟨rfl, hb1⟩)
    go_ret2
    exact ⟨_, rfl, Rd.nil _ _, below_go hb1 hB0⟩
  have h1 : errP e = 0 := by rw [errP, if_pos hr]
  have h2 : putl e = e.put := by rw [putl, if_pos hr]
  rw [h1, h2]
  have hr0 := hri W0 he0
  rw [hr] at hr0
  obtain ⟨f1, f2, f3, f4, f5⟩ := right_facts hr
  have hhd := head_le e hr
  have hlt := hops_lt hr
  have hput : e.put = e.head ++ hb e.hops ++ putT e.inner := rfl
  have hhead : e.head = putN 3 ++ putN e.limit.toNat ++ putN e.hops.length := rfl
  have hh0 := he0.hops
  obtain ⟨hops, limit, inner⟩ := e
  simp only at hh0 f1 f2 f3 f4 f5 hc1 hlt hput hhead hcel hr0 hW0 ⊢
  obtain ⟨L, rfl⟩ : ∃ L : Nat, limit = (L : Int) := ⟨limit.toNat, by omega⟩
  rw [Int.toNat_natCast] at hhead
  obtain ⟨n, hn⟩ : ∃ n, n = hops.length := ⟨_, rfl⟩
  rw [← hn] at hh0 hc1 f3 f5 hW0 hhead hcel hr0 ⊢
  generalize E.head ⟨hops, (L : Int), inner⟩ = hd at hhd hput hhead
  generalize E.put ⟨hops, (L : Int), inner⟩ = pt at hput ⊢
  have hp1 : ∀ W vv, Rd W 1 vv 3 [.int .u64 3, .int .u64 (L : Int), .int .u64 (n : Int)] → Calls Try.prog 96 #[.slice none 0 0, vv] W fun e w' => ∃ v, e = .returned v ∧ Rd w' 1 v hd.length (bs hd) ∧ Below W.heap.size W w' := by
    intro W vv hvv
    have e1 : [3, L, n].flatMap putN = hd := by rw [hhead]; simp
    refine (PutNumber_any (.slice none 0 0) vv [] [3, L, n] W (Rd.nil _ _) hvv (by intro x hx; simp at hx; omega) (by rw [List.nil_append, e1]; omega)).mono fun e w' ⟨v, g1, g2, g3⟩ => ⟨v, g1, ?_, g3⟩
    rw [List.nil_append, e1] at g2
    exact Rd.of_own g2
  have Hn := Lib.hid hn
  have Hh := Lib.hid hh0
  have HW0 := Lib.hid hW0
  have Hcel := Lib.hid hcel
  have Hput := Lib.hid hput
  have Hlt := Lib.hid hlt
  have Hp1 := Lib.hid hp1
  have Hr0 := Lib.hid hr0
  have Hok := Lib.hid f5
  clear hn hh0 hW0 hg0 hcel hput hlt hp1 f5 hhead he he0 hr hr0 hri h1 h2
  have u1 : IntKind.u64.wrap (L : Int) = (L : Int) := by rw [IntKind.wrap_u64]; omega
  have u2 : IntKind.u64.wrap (n : Int) = (n : Int) := by rw [IntKind.wrap_u64]; omega
  obtain ⟨k0, k1, k2⟩ := Hcel.out W0 (Below.refl _ _)
  go_enter Try.func36, Try.ntmps36
  go_upto_region 1 with fail
  rw [← HW0.out]
  go_wp2_with (first
    | (go_at_call 37; refine Hr0.out.mono ?_; rintro e w1 ⟨rfl, hb1⟩; have hB1 := hb1; clear k0 k1 k2; obtain ⟨k0, k1, k2⟩ := Hcel.out _ hB1; clear hb1)
    | (go_at_call 96; refine (Hp1.out _ _ (Rd.lit w1 1 3 [.int .u64 3, .int .u64 (L : Int), .int .u64 (n : Int)] 93 rfl (by simp [maxLen]))).mono ?_; rintro e w2 ⟨v2, rfl, hr2, hb2⟩; have hB2 := below_go hb2 (hB1.alloc hB1.size _); clear k0 k1 k2; obtain ⟨k0, k1, k2⟩ := Hcel.out _ hB2; have Hr2 := Lib.hid hr2; clear hb2 hr2))
  clear k0 k1 k2
  go_loopw [4, 22] (fun s i wr => ∃ k : Nat, k ≤ n ∧ i = .int .i64 k ∧ Rd wr 1 s (hd ++ hb (hops.take k)).length (bs (hd ++ hb (hops.take k))) ∧ Below W0.heap.size W0 wr) (fun _ i _ => n - (intOf i).toNat)
  case atStart => exact ⟨0, Nat.zero_le _, rfl, by simpa [hb] using Hr2.out, hB2⟩
  case round =>
    clear hB1 hB2 Hr2
    obtain ⟨k, hk, rfl, hrd, hB⟩ := hrel
    have Hrd := Lib.hid hrd
    clear hrd
    obtain ⟨k0, k1, k2⟩ := Hcel.out _ hB
    have hbk := hb_le (hops.take k) (fun x hx => Hlt.out x (List.mem_of_mem_take hx))
    rw [List.length_take] at hbk
    by_cases hkn : k < n
    · obtain ⟨b, off, hA, hcell⟩ := ints_at (Hh.out.below hB) Hn.out (by omega)
      have hck := hcell k hkn
      subst hA
      obtain ⟨x1, x2⟩ := okTo_peer hops n k Hok.out hkn
      obtain ⟨x, hx⟩ : ∃ x, x = hops.getD k 0 := ⟨_, rfl⟩
      rw [← hx] at hck x1 x2
      have hst : hb (hops.take (k + 1)) = hb (hops.take k) ++ putN x.toNat := by rw [take_succ_getD hops k (by rw [← Hn.out]; exact hkn), ← hx, hb_snoc]
      obtain ⟨y, rfl⟩ : ∃ y : Nat, x = (y : Int) := ⟨x.toNat, by omega⟩
      rw [Int.toNat_natCast] at hst
      have u3 : IntKind.u64.wrap (y : Int) = (y : Int) := by rw [IntKind.wrap_u64]; omega
      have hp4 : ∀ W vb vv, Rd W 1 vb (hd ++ hb (hops.take k)).length (bs (hd ++ hb (hops.take k))) → Rd W 1 vv 1 [.int .u64 (y : Int)] → Calls Try.prog 96 #[vb, vv] W fun e w' => ∃ v, e = .returned v ∧ Rd w' 1 v (hd ++ hb (hops.take (k + 1))).length (bs (hd ++ hb (hops.take (k + 1)))) ∧ Below W.heap.size W w' := by
        intro W vb vv hvb hvv
        have e1 : hd ++ hb (hops.take k) ++ [y].flatMap putN = hd ++ hb (hops.take (k + 1)) := by rw [hst]; simp
        refine (PutNumber_any vb vv _ [y] W hvb hvv (by intro x hx; simp at hx; omega) (by have := putN_le y (by omega); simp only [List.flatMap_cons, List.flatMap_nil, List.append_nil, List.length_append]; omega)).mono fun e w' ⟨v, g1, g2, g3⟩ => ⟨v, g1, ?_, g3⟩
        rw [e1] at g2
        exact Rd.of_own g2
      have Hp4 := Lib.hid hp4
      clear hst hx hp4 hcell hbk
      go_wp2_with (go_at_call 96; refine (Hp4.out _ _ _ (Hrd.out.below (below_one _ _)) (Rd.lit wr 1 1 [.int .u64 (y : Int)] 93 rfl (by simp [maxLen]))).mono ?_; rintro e w4 ⟨v4, rfl, hr4, hb4⟩; have hB4 := below_go hb4 (hB.alloc hB.size _); clear hb4)
      exact ⟨⟨k + 1, by omega, by go_num, hr4, hB4⟩, by simp only [intOf]; omega⟩
    · obtain rfl : k = n := by omega
      have hall : hops.take k = hops := List.take_of_length_le (by rw [← Hn.out]; exact Nat.le_refl _)
      have hrd := Hrd.out
      rw [hall] at hbk hrd
      replace Hrd := Lib.hid hrd
      have hp5 : ∀ W vb vv, Rd W 1 vb (hd ++ hb hops).length (bs (hd ++ hb hops)) → Rd W 1 vv 1 [.string (str inner)] → Calls Try.prog 97 #[vb, vv] W fun e w' => ∃ v, e = .returned v ∧ Rd w' 1 v pt.length (bs pt) ∧ Below W.heap.size W w' := by
        intro W vb vv hvb hvv
        have e1 : hd ++ hb hops ++ putTs [str inner] = pt := by rw [Hput.out, putTs]; simp [str_data]
        have e2 : pt.length ≤ 140737488355328 := by
          rw [Hput.out, putT]
          have := putN_le inner.length (by omega)
          simp only [List.length_append]; omega
        refine (PutText_any vb vv _ [str inner] W hvb hvv (by rw [e1]; exact e2)).mono fun e w' ⟨v, g1, g2, g3⟩ => ⟨v, g1, ?_, g3⟩
        rw [e1] at g2
        exact Rd.of_own g2
      have Hp5 := Lib.hid hp5
      clear hp5 hall hbk hrd
      go_wp2_with (go_at_call 97; refine (Hp5.out _ _ _ (Hrd.out.below (below_one _ _)) (Rd.lit wr 1 1 [.string (str inner)] 9 rfl (by simp [maxLen]))).mono ?_; rintro e w4 ⟨v4, rfl, hr4, hb4⟩; have hB4 := below_go hb4 (hB.alloc hB.size _); clear hb4)
      go_ret2
      exact ⟨_, rfl, hr4, below_go hB4 hB0⟩
end Go.Proofs.Ytcjabfdjngekfaa.Rel
