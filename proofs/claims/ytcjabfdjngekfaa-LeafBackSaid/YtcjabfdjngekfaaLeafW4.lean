/- Leaves' walks: a leaf's block. -/
import Derived.Test.YtcjabfdjngekfaaLeafW3
import Derived.Laws.CopyOwn
set_option linter.unusedVariables false
set_option linter.unusedSimpArgs false
namespace Go.Proofs.Ytcjabfdjngekfaa.Leaf
open Go.RowKit Go.Proofs.Ytcjabfdjngekfaa.Wd Go.Proofs.Ytcjabfdjngekfaa.Use Go.Proofs.Ytcjabfdjngekfaa.Lay
open Go.Proofs.Ytcjabfdjngekfaa.Rel (env_cells)

theorem own_made (W : World) (base : Nat) (e : TypeId) (sz n : Nat) (xs : List Value) (h : xs.length = n * sz) (hm : n ≤ maxLen) (hb : base ≤ W.heap.size) : (W.alloc (.cells xs.toArray e)).ownsRow base e sz (.slice (some ⟨W.heap.size, 0, none⟩) n n) n xs :=
  ⟨h, .inr ⟨W.heap.size, n, xs.toArray, rfl, hb, heap_alloc_new W _, Nat.le_refl _, hm, by simpa using h, by simp [← h]⟩⟩
theorem mk256 (W : World) : (Instr.makeSlice 23 (.int .i64 256) (.int .i64 256)).run Try.prog W = .ok (.slice (some ⟨W.heap.size, 0, none⟩) 256 256) (W.alloc (.cells (bs (List.replicate 256 0)).toArray 5)) := by kernel_rfl
/-- copy(out, b): bytes laid over the front of a block -/
theorem copy_front {ops : Array Oper} {rest : List Oper} {o : Oper} {a : Act} {W : World} {Q : Exit → Act → World → Prop} (hgd : o.guard = none) (d s : Operand) (ho : o.op = .call { callee := .builtin .copy, args := #[d, s], argTypes := #[23, 23] })
    (g m : Nat) (Z : List Value) (t : TypeId) (hg : W.heap[g]? = some (.cells Z.toArray t (0, 0))) (hZ : Z.length = m) (hd : a.eval d = .slice (some ⟨g, 0, none⟩) m m) (sv : Value) (hs : a.eval s = sv) (p : List UInt8) (HR : Rd W 1 sv p.length (bs p)) (h0 : 0 < p.length) (hp : p.length ≤ m)
    (hk : ∀ W', Hid (W'.heap[g]? = some (.cells (bs p ++ Z.drop p.length).toArray t (0, 0))) → W.grownBy W' (some g) → wpList Try.prog ops Q rest (a.put o.dst (.int .i64 p.length)) W') : wpList Try.prog ops Q (o :: rest) a W := by
  obtain ⟨A, c, rfl, hmc, hcm, hlen⟩ := HR.slice_
  obtain ⟨b, bo, rfl, -, -, -, hcell⟩ := HR.at_ h0
  have hl : (bs p).length = p.length := bs_length p
  refine wpList_copy_own hgd d s _ _ ho 5 Try.underlying23 (by kernel_rfl) g 0 m m ⟨b, bo, none⟩ p.length c hd hs Z.toArray t hg (bs p) ?_ ?_ ?_ (bs_oneCell _) ?_
  · rw [hl]; exact (Nat.min_eq_left hp).symm
  · intro j u hj
    rw [add_plain]
    have hjl : j < (bs p).length := (List.getElem?_eq_some_iff.1 hj).1
    rw [hcell j hjl, ← hj, List.getElem?_eq_getElem hjl]
  · rw [hl, List.size_toArray, hZ]; omega
  · have e : Z.toArray.toList.take 0 ++ (bs p ++ Z.toArray.toList.drop (0 + (bs p).length)) = bs p ++ Z.drop p.length := by
      rw [hl]; simp
    rw [e, hl]
    exact hk _ (show _ = _ from setRow_heap W g _ _ t _ hg) ⟨rfl, rfl, rfl, by simp [World.setRow], fun k hk hne => setRow_other W g k _ (by intro e; exact hne (by rw [e]))⟩
theorem rd_blk {W : World} {g sz n : Nat} {t : TypeId} {xs : List Value} (h : W.heap[g]? = some (.cells xs.toArray t (0, 0))) (hl : xs.length = n * sz) (hm : n ≤ maxLen) : Rd W sz (.slice (some ⟨g, 0, none⟩) n n) n xs :=
  ⟨hl, _, _, rfl, Nat.le_refl _, hm, fun _ => ⟨g, 0, rfl, fun i hi => by rw [Nat.zero_add, blk_cell h]; simp⟩⟩
theorem bs_zdrop (m n : Nat) : (bs (List.replicate n 0)).drop m = bs (List.replicate (n - m) 0) := by
  rw [bs, ← List.map_drop, List.drop_replicate]; rfl
def putTo (l : List L) (k : Nat) : List UInt8 := UInt8.ofNat l.length :: (l.take k).flatMap L.ent
def okPut (l : List L) : Bool := !l.isEmpty && right l
theorem putTo_succ (l : List L) (k : Nat) (hk : k < l.length) : putTo l (k + 1) = putTo l k ++ (l.getD k L.zero).ent := by
  rw [putTo, take_succ l k hk, List.flatMap_append, putTo]; simp
theorem putTo_all (l : List L) : putTo l l.length = put l := by rw [putTo, List.take_of_length_le (Nat.le_refl _), put]
theorem putTo_le (l : List L) (k : Nat) : (putTo l k).length ≤ (put l).length := by
  have := flatMap_take_le L.ent l k
  simp only [putTo, put, List.length_cons]; omega
theorem right_key {l : List L} (h : right l = true) {k : Nat} (hk : k < l.length) : (l.getD k L.zero).right = true := by
  simp only [right, rising, Bool.and_eq_true] at h
  have := risTo_at h.1 hk
  simp only [risAt, Bool.and_eq_true] at this
  exact this.1
theorem right_le {l : List L} (h : right l = true) : (put l).length ≤ 256 := by
  simp only [right, Bool.and_eq_true, decide_eq_true_eq] at h
  rw [put_length]; exact h.2
theorem five_le (l : List L) (k : Nat) : 5 * k + 1 ≤ sizeTo l k := by
  induction k with
  | zero => simp [sizeTo]
  | succ k ih => rw [sizeTo]; omega
theorem bs_num2 (a : Nat) (h : a < 65536) : bs (num2 (a : Int)) = [.int .u8 ((a : Int) / 256), .int .u8 ((a : Int) % 256)] := by
  simp only [num2, bs, List.map_cons, List.map_nil, Int.toNat_natCast, UInt8.toNat_ofNat']
  rw [show ((a / 256 % 2 ^ 8 : Nat) : Int) = (a : Int) / 256 by omega, show ((a % 256 % 2 ^ 8 : Nat) : Int) = (a : Int) % 256 by omega]
set_option maxRecDepth 100000 in
set_option maxHeartbeats 4000000 in
theorem Put_any (l : List L) (v : Value) (w : World) (hv : Rd w 3 v l.length (ls l)) (hn : l.length ≤ 1000000) (hk : ∀ e ∈ l, e.key.length ≤ 1000000) :
    Calls Try.prog 18 #[v] w fun r w' => Below w.heap.size w w' ∧ ((okPut l = false ∧ r = .returned (.tuple #[.slice none 0 0, .int .i64 2])) ∨ (okPut l = true ∧ ∃ b, r = .returned (.tuple #[b, .int .i64 0]) ∧ Rd w' 1 b 256 (bs (block l)))) := by
  have hri := fun W (h : Below w.heap.size w W) => Right_any l v W (hv.below h) hn hk
  obtain ⟨A, c, rfl, hc1, hc2, -⟩ := hv.slice_
  unfold maxLen at hc2
  have Hri := Lib.hid hri
  have hri0 := hri w (Below.refl _ _)
  clear hri
  cases hl0 : l with
  | nil =>
    subst hl0
    clear hv hk hri0
    go_enter Try.func18, Try.ntmps18
    go_wp2_with fail
    go_ret2
    exact ⟨Below.refl _ _, .inl ⟨rfl, rfl⟩⟩
  | cons e0 l0 =>
    have hpos : 0 < l.length := by rw [hl0]; simp
    have hok : okPut l = right l := by rw [okPut, hl0]; rfl
    rw [← hl0]
    have hz : ((l.length : Int) == 0) = false := by rw [beq_eq_false_iff_ne]; omega
    clear hl0
    cases hr : right l with
    | false =>
      rw [hr] at hri0
      have Hri0 := Lib.hid hri0
      clear hv hk hri0
      go_enter Try.func18, Try.ntmps18
      go_wp2_with (go_at_call 19; refine Hri0.out.mono ?_; rintro r w2 ⟨rfl, hB⟩)
      go_ret2
      exact ⟨hB, .inl ⟨by rw [hok, hr], rfl⟩⟩
    | true =>
      have hle := right_le hr
      have h51 : l.length ≤ 51 := by have := five_le l l.length; rw [← put_length] at this; omega
      have Hok := Lib.hid (show okPut l = true by rw [hok, hr])
      have hbl := block_length l hr
      have Hbl := Lib.hid hbl
      have Hbk := Lib.hid (show block l = put l ++ List.replicate (256 - (put l).length) 0 from rfl)
      rw [hr] at hri0
      have Hri0 := Lib.hid hri0
      have Hrk := Lib.hid (fun k (h : k < l.length) => right_key hr h)
      have Hv := Lib.hid hv
      have Hpt := Lib.hid (fun k => putTo_le l k)
      have hwl : (l.length : Int) % 256 = (l.length : Int) := by omega
      obtain ⟨p, hp⟩ : ∃ p, p = put l := ⟨_, rfl⟩
      rw [← hp] at hle Hbk Hpt
      have Hp := Lib.hid (show putTo l l.length = p by rw [putTo_all, hp])
      clear hv hk hri0 hr hbl hp hok
      go_enter Try.func18, Try.ntmps18
      go_wp2_with (go_at_call 19; refine Hri0.out.mono ?_; rintro r w2 ⟨rfl, hB⟩)
      have ho0 : (w2.alloc (.cells #[.int .u8 (l.length : Int)] 5)).ownsRow w.heap.size 5 1 (.slice (some ⟨w2.heap.size, 0, none⟩) 1 1) (putTo l 0).length (bs (putTo l 0)) := by
        have h := own_made w2 w.heap.size 5 1 1 [.int .u8 (l.length : Int)] rfl (by simp [maxLen]) hB.size
        have e : bs (putTo l 0) = [.int .u8 (l.length : Int)] := by
          simp only [putTo, List.take_zero, List.flatMap_nil, bs, List.map_cons, List.map_nil]
          rw [UInt8.toNat_ofNat']
          rw [show ((l.length % 2 ^ 8 : Nat) : Int) = (l.length : Int) by omega]
        rw [e]; exact h
      have hB1 := hB.alloc hB.size (.cells #[.int .u8 (l.length : Int)] 5)
      have Ho0 := Lib.hid ho0
      have HB1 := Lib.hid hB1
      clear ho0 hB1
      go_loopw [4, 22] (fun b i wr => ∃ k : Nat, k ≤ l.length ∧ i = .int .i64 (k : Int) ∧ Hid (wr.ownsRow w.heap.size 5 1 b (putTo l k).length (bs (putTo l k))) ∧ Below w.heap.size w wr) (fun _ i _ => l.length - (intOf i).toNat)
      case atStart => exact ⟨0, Nat.zero_le _, rfl, Ho0, HB1.out⟩
      case round =>
        clear Ho0 HB1 hB
        obtain ⟨k, hkl, rfl, Ho, hB⟩ := hrel
        by_cases hkn : k < l.length
        · obtain ⟨b, off, rfl, hcell⟩ := ents_at (Hv.out.below hB) rfl (by omega)
          obtain ⟨c0, c1, c2⟩ := hcell k hkn
          have hrk := Hrk.out k hkn
          have Hsu := Lib.hid (putTo_succ l k hkn)
          have hle2 := Nat.le_trans (Hpt.out (k + 1)) hle
          rw [Hsu.out, List.length_append, ent_length] at hle2
          generalize l.getD k L.zero = e at c0 c1 c2 hrk Hsu hle2
          obtain ⟨key, first, len⟩ := e
          simp only [L.right, Bool.and_eq_true, decide_eq_true_eq] at hrk c0 c1 c2 hle2
          obtain ⟨⟨⟨⟨⟨r1, r2⟩, r3⟩, r4⟩, r5⟩, r6⟩ := hrk
          obtain ⟨a, rfl⟩ := Int.eq_ofNat_of_zero_le r3
          obtain ⟨d, rfl⟩ := Int.eq_ofNat_of_zero_le r5
          clear hcell
          have hwr : IntKind.u8.wrap (key.length : Int) = (key.length : Int) := by rw [IntKind.wrap_u8]; omega
          have hss := str_size key
          go_upto_region 7 with fail
          have Hblk := Lib.hid (heap_alloc_new wr (.cells #[.string (str key), .int .i64 (a : Int), .int .i64 (d : Int)] 77))
          have hBr := below_one wr (.cells #[.string (str key), .int .i64 (a : Int), .int .i64 (d : Int)] 77)
          obtain ⟨W1, hW1⟩ : ∃ W, W = wr.alloc (.cells #[.string (str key), .int .i64 (a : Int), .int .i64 (d : Int)] 77) := ⟨_, rfl⟩
          have hs1 : W1.heap.size = wr.heap.size + 1 := by rw [hW1, alloc_size]
          obtain ⟨g, hg⟩ : ∃ g, g = wr.heap.size := ⟨_, rfl⟩
          rw [← hW1] at Hblk hBr ⊢
          rw [← hg] at Hblk hs1 ⊢
          have hu4 : some g ≠ u4.ownBlock := fun e => by have := (Ho.out.lt _ e.symm).2; omega
          have Ho1 := Lib.hid (own_below Ho.out hBr)
          have hB1 := below_go hBr hB
          clear Ho hBr hW1 c0 c1 c2 hg hB
          (refine Ord.wp_region_ord [(false, 0), (false, 1), (false, 2), (false, 3), (false, 4), (false, 7), (false, 8), (true, 5), (true, 6), (true, 9), (false, 10)] (fun W => (W.cell? ⟨g, 0, none⟩ = some (.string (str key)) ∧ W.cell? ⟨g, 1, none⟩ = some (.int .i64 (a : Int)) ∧ W.cell? ⟨g, 2, none⟩ = some (.int .i64 (d : Int)))) (by kernel_rfl) (by kernel_rfl) (by kernel_rfl) (by kernel_rfl) (by exact env_cells (blk_below Hblk.out (Below.refl _ _).drew)) ?_; simp only [Ord.ordOps, List.filterMap_cons, List.filterMap_nil, List.getElem?_toArray, List.getElem?_cons_succ, List.getElem?_cons_zero, Option.map_some]; repeat (first | (refine Ord.wpOrd_skip ?_ ?_; (focus (go_simp; (try (intro h; cases h)); done)); simp only [Act.put, List.setIfInBounds_toArray, List.set_cons_zero, List.set_cons_succ]) | (refine Ord.wpOrd_take (v := ?_) ?_ ?_ ?_; rotate_left; (focus (go_simp; done)); (focus (intro w' hSw; (try dsimp only at hSw); go_simp; (try with_reducible rfl); done)); simp only [Act.put, List.setIfInBounds_toArray, List.set_cons_zero, List.set_cons_succ])))
          (refine Ord.wpOrd_call ?_ (fun K hK => ?_); (focus (go_simp; done)); go_simp)
          have hBd : Below W1.heap.size W1 (W1.alloc (.cells #[.int .u8 (key.length : Int)] 5)).drew := (below_one _ _).drew
          (refine hK _ _ (by exact env_cells (blk_below Hblk.out hBd)) ?_; clear hK K; (try simp only [Act.put, List.setIfInBounds_toArray, List.set_cons_zero, List.set_cons_succ]); repeat (first | (refine Ord.wpOrd_skip ?_ ?_; (focus (go_simp; (try (intro h; cases h)); done)); simp only [Act.put, List.setIfInBounds_toArray, List.set_cons_zero, List.set_cons_succ]) | (refine Ord.wpOrd_take (v := ?_) ?_ ?_ ?_; rotate_left; (focus (go_simp; done)); (focus (intro w' hSw; (try dsimp only at hSw); go_simp; (try with_reducible rfl); done)); simp only [Act.put, List.setIfInBounds_toArray, List.set_cons_zero, List.set_cons_succ])))
          have hRl := Rd.lit W1 1 1 [.int .u8 (key.length : Int)] 5 rfl (by simp [maxLen])
          rw [hs1] at hRl
          refine Ord.wpOrd_app_row Use.elU8 ?_ (.tmp 26) (.tmp 31) rfl w.heap.size u4 _ (putTo l k).length 1 (bs (putTo l k)) [.int .u8 (key.length : Int)] rfl rfl (by intro u hu; simp at hu; subst hu; rfl) (own_below Ho1.out hBd) hRl (below_go hBd hB1).size (by omega) (fun v1 w1 ho1 hg1 hat1 => ?_)
          · go_simp
          have hb1 : bs (putTo l k) ++ [.int .u8 (key.length : Int)] = bs (putTo l k ++ [UInt8.ofNat key.length]) := by
            rw [bs_append]; congr 1
            simp only [bs, List.map_cons, List.map_nil]
            rw [UInt8.toNat_ofNat', show ((key.length % 2 ^ 8 : Nat) : Int) = (key.length : Int) by omega]
          rw [hb1, show (putTo l k).length + 1 = (putTo l k ++ [UInt8.ofNat key.length]).length by simp] at ho1
          clear hb1 hRl
          have hblk1 := blk_grown (blk_below Hblk.out hBd) hg1 hu4
          have hB2 := (below_go hBd hB1).grown hg1 (below_go hBd hB1).size (own_base Ho1.out)
          have hgv1 : some g ≠ v1.ownBlock := fun e => by
            rcases hat1 with h | ⟨b', h, h2⟩
            · rw [h] at e; exact hu4 e
            · rw [h] at e; injection e with e; have h3 : (W1.alloc (.cells #[.int .u8 (key.length : Int)] 5)).heap.size ≤ b' := h2; rw [alloc_size] at h3; omega
          refine ⟨env_cells hblk1, ?_⟩
          refine Ord.wpOrd_app_str Use.elU8 Try.underlying9 ?_ (.tmp 32) (.tmp 34) rfl w.heap.size v1 (putTo l k ++ [UInt8.ofNat key.length]) key rfl rfl ho1 hB2.size (by rw [List.length_append]; simp only [List.length_cons, List.length_nil]; omega) (fun v2 w3 ho2 hg2 => ?_)
          · go_simp
          have hblk2 := blk_grown hblk1 hg2 hgv1
          have hB3 := hB2.grown hg2 hB2.size (own_base ho1)
          clear ho1 hg1 hat1 hg2 hgv1 hblk1 hB2 hB1 hBd
          obtain ⟨k0, k1, k2⟩ := env_cells hblk2
          refine ⟨⟨k0, k1, k2⟩, ?_⟩
          have Ho2 := Lib.hid ho2
          clear ho2
          ((try simp only [Act.put, List.setIfInBounds_toArray, List.set_cons_zero, List.set_cons_succ]); repeat (first | (refine Ord.wpOrd_skip ?_ ?_; (focus (go_simp; (try (intro h; cases h)); done)); simp only [Act.put, List.setIfInBounds_toArray, List.set_cons_zero, List.set_cons_succ]) | (refine Ord.wpOrd_take (v := ?_) ?_ ?_ ?_; rotate_left; (focus (go_simp; done)); (focus (intro w' hSw; (try dsimp only at hSw); go_simp; (try with_reducible rfl); done)); simp only [Act.put, List.setIfInBounds_toArray, List.set_cons_zero, List.set_cons_succ])))
          refine Ord.wpOrd_nil ?_
          have hbn := Lib.hid (show bs (num2 (a : Int) ++ num2 (d : Int)) = [.int .u8 ((a : Int) / 256), .int .u8 ((a : Int) % 256), .int .u8 ((d : Int) / 256), .int .u8 ((d : Int) % 256)] by rw [bs_append, bs_num2 a (by omega), bs_num2 d (by omega)]; rfl)
          have hl4 := Lib.hid (show (putTo l k ++ [UInt8.ofNat key.length] ++ key).length + 4 ≤ 140737488355328 by rw [List.length_append, List.length_append]; simp only [List.length_cons, List.length_nil]; omega)
          have hn2 := Lib.hid (show (num2 (a : Int) ++ num2 (d : Int)).length = 4 from rfl)
          go_wp2_with (at_builtin; go_must (refine app_row Use.elU8 rfl (.tmp 36) (.tmp 51) rfl w.heap.size v2 _ (putTo l k ++ [UInt8.ofNat key.length] ++ key).length 4 (bs (putTo l k ++ [UInt8.ofNat key.length] ++ key)) [.int .u8 ((a : Int) / 256), .int .u8 ((a : Int) % 256), .int .u8 ((d : Int) / 256), .int .u8 ((d : Int) % 256)] rfl rfl (by intro u hu; simp at hu; rcases hu with rfl | rfl | rfl | rfl <;> rfl) (own_below Ho2.out (below_one _ _)) (Rd.lit w3 1 4 [.int .u8 ((a : Int) / 256), .int .u8 ((a : Int) % 256), .int .u8 ((d : Int) / 256), .int .u8 ((d : Int) % 256)] 5 rfl (by simp [maxLen])) (below_go (below_one w3 _) hB3) (by have := hB3.size; rw [alloc_size]; omega) (by have := hl4.out; omega) ?_); intro v5 w5 ho5 hB5 hg5 hat5; clear hg5 hat5)
          refine ⟨⟨k + 1, by omega, by go_num, Lib.hid ?_, hB5⟩, by simp only [intOf]; omega⟩
          have e2 : putTo l k ++ L.ent ⟨key, (a : Int), (d : Int)⟩ = putTo l k ++ [UInt8.ofNat key.length] ++ key ++ (num2 (a : Int) ++ num2 (d : Int)) := by simp [L.ent]
          rw [Hsu.out, e2, bs_append _ (num2 (a : Int) ++ num2 (d : Int)), hbn.out, List.length_append, hn2.out]
          exact ho5
        · obtain rfl : k = l.length := by omega
          have hd1 : decide ((l.length : Int) < (l.length : Int)) = false := decide_eq_false (by omega)
          rw [Hp.out] at Ho
          have hmk := mk256
          obtain ⟨Z, hZ⟩ : ∃ Z, Z = bs (List.replicate 256 0) := ⟨_, rfl⟩
          rw [← hZ] at hmk
          have HZ := Lib.hid hZ
          clear hZ
          have hZl : Z.length = 256 := by rw [HZ.out, bs_length, List.length_replicate]
          have hp0 : 0 < p.length := by have := Hpt.out 0; simp only [putTo, List.length_cons] at this; omega
          have hB1 := hB.alloc hB.size (.cells Z.toArray 5)
          go_wp2_with (refine copy_front rfl _ _ rfl wr.heap.size 256 Z 5 (heap_alloc_new wr _) hZl rfl u4 rfl p (Rd.of_own (own_alloc Ho.out _)) hp0 hle ?_; intro w5 Hw5 hg5)
          have hB5 := hB1.grown hg5 hB1.size (fun k hk => by injection hk with hk; rw [← hk]; exact hB.size)
          go_ret2
          refine ⟨hB5, .inr ⟨Hok.out, _, rfl, ?_⟩⟩
          have e3 : bs (block l) = bs p ++ Z.drop p.length := by
            rw [Hbk.out, bs_append, HZ.out, bs_zdrop]
          rw [e3]
          refine rd_blk Hw5.out ?_ (by simp [maxLen])
          rw [← e3, bs_length, Hbl.out]
end Go.Proofs.Ytcjabfdjngekfaa.Leaf
