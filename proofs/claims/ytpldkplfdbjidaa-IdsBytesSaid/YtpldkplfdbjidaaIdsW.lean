/- Ids' walks: two compared, rising. -/
import Derived.Test.YtpldkplfdbjidaaIdsPure
import Derived.Test.YtpldkplfdbjidaaUse
import Derived.Test.YtpldkplfdbjidaaOrdL
import Derived.Lib.BytesEntry
set_option linter.unusedVariables false
set_option linter.unusedSimpArgs false
namespace Go.Proofs.Ytpldkplfdbjidaa.Ids
open Go.RowKit Go.Proofs.Ytpldkplfdbjidaa.Wd Go.Proofs.Ytpldkplfdbjidaa.Use Go.Proofs.Ytpldkplfdbjidaa.Lay

/-- ids as cells -/
def ix (l : List Id) : List Value := bs l.flatten
theorem bytesOf_bs (l : List UInt8) : Lib.bytesOf (l.map fun b => (b.toNat : Int)) = l := by
  simp only [Lib.bytesOf, List.map_map]
  conv => rhs; rw [← List.map_id l]
  apply List.map_congr_left
  intro b _
  simp
theorem run_bytesOf {P : Program} {w : World} {v : Value} {l : List UInt8} (h : Rd w 1 v l.length (bs l)) : (Extern.Bytes.bytesOf v).run P w = .ok (str l) w := by
  obtain ⟨A, c, rfl, h1, h2, -⟩ := h.slice_
  rcases Nat.eq_zero_or_pos l.length with h0 | h0
  · obtain rfl : l = [] := List.eq_nil_of_length_eq_zero h0
    cases A <;> rfl
  · obtain ⟨b, off, rfl, -, -, -, hc⟩ := h.at_ h0
    have hl := Lib.run_loadBytesX (P := P) w (l.map fun b => (b.toNat : Int)) ⟨b, off, none⟩ .empty (fun j x hj => by
      rw [add_plain]
      have hjl : j < l.length := by
        have := (List.getElem?_eq_some_iff.1 hj).1
        simpa using this
      rw [hc j (by rw [bs_length]; exact hjl)]
      simp only [List.getElem?_map, List.getElem?_eq_getElem hjl, Option.map_some, Option.some.injEq] at hj
      subst hj
      simp [bs])
    rw [List.length_map, bytesOf_bs] at hl
    rw [show Extern.Bytes.bytesOf (.slice (some ⟨b, off, none⟩) l.length c) = Extern.Bytes.loadBytes ⟨b, off, none⟩ l.length .empty from rfl, hl]
    congr 1
    apply ByteArray.ext
    show (#[] : Array UInt8) ++ l.toArray = l.toArray
    simp
theorem run_compare2 {P : Program} {w : World} {v1 v2 : Value} {l1 l2 : List UInt8} (h1 : Rd w 1 v1 l1.length (bs l1)) (h2 : Rd w 1 v2 l2.length (bs l2)) :
    (Extern.BytealgCompare.compare #[v1, v2]).run P w = .ok (.int .i64 (Lib.compareBytes l1 l2)) w := by
  change Sem.run P (do pure (goInt (Extern.BytealgCompare.cmp (← Extern.Bytes.bytesOf v1) (← Extern.Bytes.bytesOf v2)))) w = _
  simp only [Sem.run_bind, Sem.run_pure, Result.andThen, run_bytesOf h1, run_bytesOf h2]
  rw [Lib.cmp_eq, str_data, str_data]
  rfl
set_option maxRecDepth 100000 in
theorem bytesCompare_any (v1 v2 : Value) (l1 l2 : List UInt8) (w : World) (h1 : Rd w 1 v1 l1.length (bs l1)) (h2 : Rd w 1 v2 l2.length (bs l2)) :
    Calls Try.prog 114 #[v1, v2] w fun e w' => e = .returned (.int .i64 (Lib.compareBytes l1 l2)) ∧ w' = w := by
  have hov : (callFunc 158 #[v1, v2]).run Try.prog w = .ok (.value (.int .i64 (Lib.compareBytes l1 l2))) w := by
    rw [run_callFunc_extern Try.func158 (by kernel_rfl) (by kernel_rfl) (by kernel_rfl) (e := Extern.BytealgCompare.compare) (by kernel_rfl), run_compare2 h1 h2]
    rfl
  generalize Lib.compareBytes l1 l2 = n at hov ⊢
  clear h1 h2
  go_enter Try.func114, Try.ntmps114
  go_wp2_with (simp only [hov])
  go_ret
  exact ⟨rfl, rfl⟩
/-- an array that was laid by itself, looked at as bytes -/
theorem rd_blk32 {W : World} {g : Nat} {l : List UInt8} {t : TypeId} (h : W.heap[g]? = some (.cells (bs l).toArray t (0, 0))) (hl : l.length = 32) : Rd W 1 (.slice (some ⟨g, 0, none⟩) 32 32) l.length (bs l) := by
  refine ⟨by rw [bs_length]; omega, _, _, by rw [hl], by omega, by simp [maxLen], fun _ => ⟨_, _, rfl, fun i hi => ?_⟩⟩
  rw [blk_cell0 h]; simp
set_option maxRecDepth 100000 in
set_option maxHeartbeats 1000000 in
theorem compare_any (a b : Id) (ha : a.length = 32) (hb : b.length = 32) (w : World) :
    Calls Try.prog 65 #[.agg (bs a).toArray, .agg (bs b).toArray] w fun e w' => e = .returned (.int .i64 (Lib.compareBytes a b)) ∧ Below w.heap.size w w' := by
  have hc := fun v1 v2 W h1 h2 => bytesCompare_any v1 v2 a b W h1 h2
  obtain ⟨A, hA⟩ : ∃ A, A = bs a := ⟨_, rfl⟩
  obtain ⟨B, hB⟩ : ∃ B, B = bs b := ⟨_, rfl⟩
  obtain ⟨n, hn⟩ : ∃ n, n = Lib.compareBytes a b := ⟨_, rfl⟩
  rw [← hn] at hc ⊢
  rw [← hA, ← hB]
  have h1 := rd_blk32 (W := ((w.alloc (.cells A.toArray 23)).alloc (.cells B.toArray 23)).drew) (g := w.heap.size) (l := a) (t := 23) (by rw [← hA]; exact blk_alloc (heap_alloc_new _ _) _) ha
  have h2 := rd_blk32 (W := ((w.alloc (.cells A.toArray 23)).alloc (.cells B.toArray 23)).drew) (g := w.heap.size + 1) (l := b) (t := 23) (by rw [← hB]; exact alloc_at _ _ _) hb
  have Hc := Lib.hid (hc _ _ _ h1 h2)
  clear hc h1 h2 ha hb hn hA hB
  go_enter Try.func65, Try.ntmps65
  go_wp2_with fail
  (refine Ord.wp_region_ord [(false, 0), (false, 1), (true, 2), (false, 3)] (fun W => True) (by kernel_rfl) (by kernel_rfl) (by kernel_rfl) (by kernel_rfl) (by trivial) ?_; simp only [Ord.ordOps, List.filterMap_cons, List.filterMap_nil, List.getElem?_toArray, List.getElem?_cons_succ, List.getElem?_cons_zero, Option.map_some]; repeat (first | (refine Ord.wpOrd_skip ?_ ?_; (focus (go_simp; (try (intro h; cases h)); done)); simp only [Act.put, List.setIfInBounds_toArray, List.set_cons_zero, List.set_cons_succ]) | (refine Ord.wpOrd_take (v := ?_) ?_ ?_ ?_; rotate_left; (focus (go_simp; done)); (focus (intro w' hSw; (try dsimp only at hSw); go_simp; (try with_reducible rfl); done)); simp only [Act.put, List.setIfInBounds_toArray, List.set_cons_zero, List.set_cons_succ])))
  (refine Ord.wpOrd_call ?_ (fun K hK => ?_); (focus (go_simp; done)); go_simp)
  go_at_call 114
  refine Hc.out.mono ?_
  rintro e w' ⟨rfl, rfl⟩
  (refine hK _ _ (trivial) ?_; clear hK K; (try simp only [Act.put, List.setIfInBounds_toArray, List.set_cons_zero, List.set_cons_succ]); repeat (first | (refine Ord.wpOrd_skip ?_ ?_; (focus (go_simp; (try (intro h; cases h)); done)); simp only [Act.put, List.setIfInBounds_toArray, List.set_cons_zero, List.set_cons_succ]) | (refine Ord.wpOrd_take (v := ?_) ?_ ?_ ?_; rotate_left; (focus (go_simp; done)); (focus (intro w' hSw; (try dsimp only at hSw); go_simp; (try with_reducible rfl); done)); simp only [Act.put, List.setIfInBounds_toArray, List.set_cons_zero, List.set_cons_succ])))
  refine Ord.wpOrd_nil ?_
  go_wp2_with fail
  go_ret
  exact ⟨rfl, (below_two _ _ _).drew⟩
set_option maxRecDepth 100000 in
set_option maxHeartbeats 1000000 in
theorem Less_any (a b : Id) (ha : a.length = 32) (hb : b.length = 32) (w : World) :
    Calls Try.prog 16 #[.agg (bs a).toArray, .agg (bs b).toArray] w fun e w' => e = .returned (.bool (lt a b)) ∧ Below w.heap.size w w' := by
  have hc := fun W => compare_any a b ha hb W
  obtain ⟨A, hA⟩ : ∃ A, A = bs a := ⟨_, rfl⟩
  obtain ⟨B, hB⟩ : ∃ B, B = bs b := ⟨_, rfl⟩
  obtain ⟨n, hn⟩ : ∃ n, n = Lib.compareBytes a b := ⟨_, rfl⟩
  have hlt : decide (n < 0) = lt a b := by rw [hn]; exact cmp_lt a b
  rw [← hn, ← hA, ← hB] at hc
  rw [← hlt, ← hA, ← hB]
  have hi1 : (Try.prog.info? 23).map (·.size) = some A.length := by rw [hA, bs_length, ha]; rfl
  have hi2 : (Try.prog.info? 23).map (·.size) = some B.length := by rw [hB, bs_length, hb]; rfl
  have hr1 : ((w.alloc (.cells A.toArray 23)).alloc (.cells B.toArray 23)).rangeAt w.heap.size 0 A := range_all (t := 23) (blk_alloc (heap_alloc_new _ _) _)
  have hr2 : ((w.alloc (.cells A.toArray 23)).alloc (.cells B.toArray 23)).rangeAt (w.heap.size + 1) 0 B := range_all (t := 23) (alloc_at _ _ _)
  have Hc := Lib.hid hc
  have Hi1 := Lib.hid hi1
  have Hi2 := Lib.hid hi2
  have Hr1 := Lib.hid hr1
  have Hr2 := Lib.hid hr2
  clear hc hi1 hi2 hr1 hr2 ha hb hn hA hB hlt
  go_enter Try.func16, Try.ntmps16
  go_wp2_with (first
    | (refine wpList_load_mid rfl 23 _ rfl (w.heap.size + 1) 0 rfl B _ Hr2.out Try.underlying23 rfl Hi2.out ?_)
    | (refine wpList_load_mid rfl 23 _ rfl w.heap.size 0 rfl A _ Hr1.out Try.underlying23 rfl Hi1.out ?_)
    | (go_at_call 65; refine (Hc.out _).mono ?_; rintro e w' ⟨rfl, hb⟩))
  go_ret
  exact ⟨rfl, below_go hb (below_two _ _ _)⟩
theorem flat_get {l : List Id} (h : W32 l) (k : Nat) (hk : k < l.length) : (l.flatten.drop (k * 32)).take 32 = l.getD k [] := by
  induction l generalizing k with
  | nil => cases hk
  | cons i l ih =>
    have hi := h i List.mem_cons_self
    have hl : W32 l := fun j hj => h j (List.mem_cons_of_mem _ hj)
    cases k with
    | zero => rw [List.flatten_cons, Nat.zero_mul, List.drop_zero, List.take_append_of_le_length (by omega), List.take_of_length_le (by omega)]; rfl
    | succ k =>
      rw [List.flatten_cons, List.drop_append, List.drop_of_length_le (by omega), List.nil_append, show (k + 1) * 32 - i.length = k * 32 by omega, ih hl k (by simpa using hk)]
      rfl
/-- where the ids of a row lie -/
theorem ix_at {w : World} {A : Option Addr} {n c : Nat} {l : List Id} (h : Rd w 32 (.slice A n c) n (ix l)) (h32 : W32 l) (hn : n = l.length) (h0 : 0 < n) : ∃ b off, A = some ⟨b, off, none⟩ ∧ ∀ k, k < n → w.rangeAt b (off + k * 32) (bs (l.getD k [])) := by
  obtain ⟨b, off, rfl, -, -, -, hc⟩ := h.at_ h0
  refine ⟨b, off, rfl, fun k hk j u hu => ?_⟩
  have hf := h32.flat
  have hj : j < 32 := by
    have := (List.getElem?_eq_some_iff.1 hu).1
    rw [bs_length, h32.get k (by omega)] at this
    exact this
  have hlt : k * 32 + j < l.flatten.length := by rw [hf]; omega
  have hb : bs ((l.flatten.drop (k * 32)).take 32) = ((bs l.flatten).drop (k * 32)).take 32 := by simp only [bs, List.map_take, List.map_drop]
  rw [Nat.add_assoc, hc (k * 32 + j) (by rw [ix, bs_length]; exact hlt), ← hu, ← flat_get h32 k (by omega), hb, List.getElem?_take, if_pos hj, List.getElem?_drop, ← List.getElem?_eq_getElem]
  rfl
set_option maxRecDepth 100000 in
set_option maxHeartbeats 1000000 in
theorem Right_any (v : Value) (l : List Id) (h32 : W32 l) (hn : l.length ≤ 1000000) (w : World) (hv : Rd w 32 v l.length (ix l)) :
    Calls Try.prog 25 #[v] w fun e w' => e = .returned (.bool (up l)) ∧ Below w.heap.size w w' := by
  obtain ⟨A, c, rfl, hc1, hc2, -⟩ := hv.slice_
  unfold maxLen at hc2
  have Hv := Lib.hid hv
  have H32 := Lib.hid h32
  clear hv h32
  go_enter Try.func25, Try.ntmps25
  go_wp2_with fail
  go_loopw [6] (fun i wr => ∃ k : Nat, k ≤ l.length ∧ i = .int .i64 (k : Int) ∧ Hid (upTo l k = true) ∧ Below w.heap.size w wr) (fun i _ => l.length - (intOf i).toNat)
  case atStart => exact ⟨0, Nat.zero_le _, rfl, Lib.hid rfl, Below.refl _ _⟩
  case round =>
    obtain ⟨k, hk, rfl, Hu, hB⟩ := hrel
    by_cases hkl : k < l.length
    rotate_left
    · obtain rfl : k = l.length := by omega
      have hd1 : decide ((l.length : Int) < (l.length : Int)) = false := decide_eq_false (by omega)
      go_wp2_with fail
      go_ret
      exact ⟨ret_b Hu.out.symm, hB⟩
    have hd1 : decide ((k : Int) < (l.length : Int)) = true := decide_eq_true (by omega)
    by_cases hk0 : k = 0
    · subst hk0
      go_wp2_with fail
      (refine Ord.wp_region_ord [(false, 0), (false, 1), (false, 2), (false, 3), (false, 4), (false, 5), (false, 6), (false, 7), (false, 8), (false, 9), (false, 10), (false, 11), (false, 12), (false, 13), (false, 14)] (fun W => True) (by kernel_rfl) (by kernel_rfl) (by kernel_rfl) (by kernel_rfl) (by trivial) ?_; simp only [Ord.ordOps, List.filterMap_cons, List.filterMap_nil, List.getElem?_toArray, List.getElem?_cons_succ, List.getElem?_cons_zero, Option.map_some]; repeat (first | (refine Ord.wpOrd_skip ?_ ?_; (focus (go_simp; (try (intro h; cases h)); done)); simp only [Act.put, List.setIfInBounds_toArray, List.set_cons_zero, List.set_cons_succ]) | (refine Ord.wpOrd_take (v := ?_) ?_ ?_ ?_; rotate_left; (focus (go_simp; done)); (focus (intro w' hSw; (try dsimp only at hSw); go_simp; (try with_reducible rfl); done)); simp only [Act.put, List.setIfInBounds_toArray, List.set_cons_zero, List.set_cons_succ])))
      refine Ord.wpOrd_nil ?_
      go_wp2_with fail
      exact ⟨⟨1, by omega, rfl, Lib.hid (by rfl), hB.drew⟩, by simp [intOf]; omega⟩
    · obtain ⟨m, hm⟩ : ∃ m, k = m + 1 := ⟨k - 1, by omega⟩
      have hw : IntKind.i64.wrap ((k : Int) - 1) = (m : Int) := by rw [IntKind.wrap_i64]; omega
      have hd2 : 0 < k := by omega
      have hi1 : (0 : Int) ≤ (m : Int) := by omega
      have hi2 : (m : Int) < (l.length : Int) := by omega
      have hi3 : (0 : Int) ≤ (k : Int) := by omega
      have hi4 : (k : Int) < (l.length : Int) := by omega
      obtain ⟨b, off, rfl, hr⟩ := ix_at (Hv.out.below hB) H32.out rfl (by omega)
      have hx := H32.out.get m (by omega)
      have hy := H32.out.get k hkl
      have hr1 := hr m (by omega)
      have hr2 := hr k hkl
      have hs : upTo l (k + 1) = lt (l.getD m []) (l.getD k []) := by
        rw [upTo, Hu.out, Bool.true_and, show (k == 0) = false by simpa using hk0, Bool.false_or, show k - 1 = m by omega]
      have Hls := Lib.hid (fun W => Less_any _ _ hx hy W)
      obtain ⟨X, hX⟩ : ∃ X, X = bs (l.getD m []) := ⟨_, rfl⟩
      obtain ⟨Y, hY⟩ : ∃ Y, Y = bs (l.getD k []) := ⟨_, rfl⟩
      have Hi1 := Lib.hid (show (Try.prog.info? 23).map (·.size) = some X.length by rw [hX, bs_length, hx]; rfl)
      have Hi2 := Lib.hid (show (Try.prog.info? 23).map (·.size) = some Y.length by rw [hY, bs_length, hy]; rfl)
      rw [← hX] at hr1 Hls
      rw [← hY] at hr2 Hls
      cases hlt : lt (l.getD m []) (l.getD k [])
      · rw [hlt] at Hls hs
        have Hs := Lib.hid hs
        clear hs
        clear hX hY hx hy hr hlt hm
        go_wp2_with fail
        (refine Ord.wp_region_ord [(false, 0), (false, 1), (false, 2), (false, 3), (false, 4), (false, 5), (false, 6), (false, 7), (false, 8), (false, 9), (false, 10), (false, 11), (true, 12), (false, 13), (false, 14)] (fun W => (W.rangeAt b (off + m * 32) X ∧ W.rangeAt b (off + k * 32) Y)) (by kernel_rfl) (by kernel_rfl) (by kernel_rfl) (by kernel_rfl) (by exact ⟨hr1, hr2⟩) ?_; simp only [Ord.ordOps, List.filterMap_cons, List.filterMap_nil, List.getElem?_toArray, List.getElem?_cons_succ, List.getElem?_cons_zero, Option.map_some]; repeat (first | (refine Ord.wpOrd_skip ?_ ?_; (focus (go_simp; (try (intro h; cases h)); done)); simp only [Act.put, List.setIfInBounds_toArray, List.set_cons_zero, List.set_cons_succ]) | (refine Ord.wpOrd_take (v := ?_) ?_ ?_ ?_; rotate_left; (focus (go_simp; done)); (focus (intro w' hSw; (try dsimp only at hSw); go_simp; (try with_reducible rfl); done)); simp only [Act.put, List.setIfInBounds_toArray, List.set_cons_zero, List.set_cons_succ])))
        refine Ord.wpOrd_load_mid ?_ 23 _ rfl b (off + m * 32) rfl X _ (fun w h => h.1) Try.underlying23 rfl Hi1.out ?_
        focus (go_simp; done)
        ((try simp only [Act.put, List.setIfInBounds_toArray, List.set_cons_zero, List.set_cons_succ]); repeat (first | (refine Ord.wpOrd_skip ?_ ?_; (focus (go_simp; (try (intro h; cases h)); done)); simp only [Act.put, List.setIfInBounds_toArray, List.set_cons_zero, List.set_cons_succ]) | (refine Ord.wpOrd_take (v := ?_) ?_ ?_ ?_; rotate_left; (focus (go_simp; done)); (focus (intro w' hSw; (try dsimp only at hSw); go_simp; (try with_reducible rfl); done)); simp only [Act.put, List.setIfInBounds_toArray, List.set_cons_zero, List.set_cons_succ])))
        refine Ord.wpOrd_load_mid ?_ 23 _ rfl b (off + k * 32) rfl Y _ (fun w h => h.2) Try.underlying23 rfl Hi2.out ?_
        focus (go_simp; done)
        ((try simp only [Act.put, List.setIfInBounds_toArray, List.set_cons_zero, List.set_cons_succ]); repeat (first | (refine Ord.wpOrd_skip ?_ ?_; (focus (go_simp; (try (intro h; cases h)); done)); simp only [Act.put, List.setIfInBounds_toArray, List.set_cons_zero, List.set_cons_succ]) | (refine Ord.wpOrd_take (v := ?_) ?_ ?_ ?_; rotate_left; (focus (go_simp; done)); (focus (intro w' hSw; (try dsimp only at hSw); go_simp; (try with_reducible rfl); done)); simp only [Act.put, List.setIfInBounds_toArray, List.set_cons_zero, List.set_cons_succ])))
        (refine Ord.wpOrd_call ?_ (fun K hK => ?_); (focus (go_simp; done)); go_simp)
        go_at_call 16
        refine (Hls.out _).mono ?_
        rintro r w5 ⟨rfl, hb5⟩
        have hb5' := below_go hb5 (Below.refl wr.heap.size wr).drew
        (refine hK _ _ (by exact ⟨fun j u hu => cell_below hb5' (hr1 j u hu), fun j u hu => cell_below hb5' (hr2 j u hu)⟩) ?_; clear hK K; (try simp only [Act.put, List.setIfInBounds_toArray, List.set_cons_zero, List.set_cons_succ]); repeat (first | (refine Ord.wpOrd_skip ?_ ?_; (focus (go_simp; (try (intro h; cases h)); done)); simp only [Act.put, List.setIfInBounds_toArray, List.set_cons_zero, List.set_cons_succ]) | (refine Ord.wpOrd_take (v := ?_) ?_ ?_ ?_; rotate_left; (focus (go_simp; done)); (focus (intro w' hSw; (try dsimp only at hSw); go_simp; (try with_reducible rfl); done)); simp only [Act.put, List.setIfInBounds_toArray, List.set_cons_zero, List.set_cons_succ])))
        refine Ord.wpOrd_nil ?_
        go_wp2_with fail
        go_ret
        exact ⟨ret_b (upTo_false Hs.out (by omega)).symm, below_go hb5 hB.drew⟩
      · rw [hlt] at Hls hs
        have Hs := Lib.hid hs
        clear hs
        clear hX hY hx hy hr hlt hm
        go_wp2_with fail
        (refine Ord.wp_region_ord [(false, 0), (false, 1), (false, 2), (false, 3), (false, 4), (false, 5), (false, 6), (false, 7), (false, 8), (false, 9), (false, 10), (false, 11), (true, 12), (false, 13), (false, 14)] (fun W => (W.rangeAt b (off + m * 32) X ∧ W.rangeAt b (off + k * 32) Y)) (by kernel_rfl) (by kernel_rfl) (by kernel_rfl) (by kernel_rfl) (by exact ⟨hr1, hr2⟩) ?_; simp only [Ord.ordOps, List.filterMap_cons, List.filterMap_nil, List.getElem?_toArray, List.getElem?_cons_succ, List.getElem?_cons_zero, Option.map_some]; repeat (first | (refine Ord.wpOrd_skip ?_ ?_; (focus (go_simp; (try (intro h; cases h)); done)); simp only [Act.put, List.setIfInBounds_toArray, List.set_cons_zero, List.set_cons_succ]) | (refine Ord.wpOrd_take (v := ?_) ?_ ?_ ?_; rotate_left; (focus (go_simp; done)); (focus (intro w' hSw; (try dsimp only at hSw); go_simp; (try with_reducible rfl); done)); simp only [Act.put, List.setIfInBounds_toArray, List.set_cons_zero, List.set_cons_succ])))
        refine Ord.wpOrd_load_mid ?_ 23 _ rfl b (off + m * 32) rfl X _ (fun w h => h.1) Try.underlying23 rfl Hi1.out ?_
        focus (go_simp; done)
        ((try simp only [Act.put, List.setIfInBounds_toArray, List.set_cons_zero, List.set_cons_succ]); repeat (first | (refine Ord.wpOrd_skip ?_ ?_; (focus (go_simp; (try (intro h; cases h)); done)); simp only [Act.put, List.setIfInBounds_toArray, List.set_cons_zero, List.set_cons_succ]) | (refine Ord.wpOrd_take (v := ?_) ?_ ?_ ?_; rotate_left; (focus (go_simp; done)); (focus (intro w' hSw; (try dsimp only at hSw); go_simp; (try with_reducible rfl); done)); simp only [Act.put, List.setIfInBounds_toArray, List.set_cons_zero, List.set_cons_succ])))
        refine Ord.wpOrd_load_mid ?_ 23 _ rfl b (off + k * 32) rfl Y _ (fun w h => h.2) Try.underlying23 rfl Hi2.out ?_
        focus (go_simp; done)
        ((try simp only [Act.put, List.setIfInBounds_toArray, List.set_cons_zero, List.set_cons_succ]); repeat (first | (refine Ord.wpOrd_skip ?_ ?_; (focus (go_simp; (try (intro h; cases h)); done)); simp only [Act.put, List.setIfInBounds_toArray, List.set_cons_zero, List.set_cons_succ]) | (refine Ord.wpOrd_take (v := ?_) ?_ ?_ ?_; rotate_left; (focus (go_simp; done)); (focus (intro w' hSw; (try dsimp only at hSw); go_simp; (try with_reducible rfl); done)); simp only [Act.put, List.setIfInBounds_toArray, List.set_cons_zero, List.set_cons_succ])))
        (refine Ord.wpOrd_call ?_ (fun K hK => ?_); (focus (go_simp; done)); go_simp)
        go_at_call 16
        refine (Hls.out _).mono ?_
        rintro r w5 ⟨rfl, hb5⟩
        have hb5' := below_go hb5 (Below.refl wr.heap.size wr).drew
        (refine hK _ _ (by exact ⟨fun j u hu => cell_below hb5' (hr1 j u hu), fun j u hu => cell_below hb5' (hr2 j u hu)⟩) ?_; clear hK K; (try simp only [Act.put, List.setIfInBounds_toArray, List.set_cons_zero, List.set_cons_succ]); repeat (first | (refine Ord.wpOrd_skip ?_ ?_; (focus (go_simp; (try (intro h; cases h)); done)); simp only [Act.put, List.setIfInBounds_toArray, List.set_cons_zero, List.set_cons_succ]) | (refine Ord.wpOrd_take (v := ?_) ?_ ?_ ?_; rotate_left; (focus (go_simp; done)); (focus (intro w' hSw; (try dsimp only at hSw); go_simp; (try with_reducible rfl); done)); simp only [Act.put, List.setIfInBounds_toArray, List.set_cons_zero, List.set_cons_succ])))
        refine Ord.wpOrd_nil ?_
        go_wp2_with fail
        exact ⟨⟨k + 1, by omega, by go_num, Hs, below_go hb5 hB.drew⟩, by simp only [intOf]; omega⟩
end Go.Proofs.Ytpldkplfdbjidaa.Ids
