/- The reference of ids, walked: With, Of. -/
import Derived.Test.YtpldkplfdbjidaaRef03W2
import Derived.Test.YtpldkplfdbjidaaAppO
import Derived.Great.BuildSlice
set_option linter.unusedVariables false
set_option linter.unusedSimpArgs false
namespace Go.Proofs.Ytpldkplfdbjidaa.Ids
open Go.RowKit Go.Proofs.Ytpldkplfdbjidaa.Wd Go.Proofs.Ytpldkplfdbjidaa.Use Go.Proofs.Ytpldkplfdbjidaa.Lay

def zid' : Id := List.replicate 32 0
theorem elR : El Try.prog 42 22 (.agg (bs zid').toArray) 32 32 := ⟨Try.underlying42, by kernel_rfl, rfl, by decide, by decide⟩
/-- a row of one element of several cells -/
theorem wp_build_one {P : Program} {t e : TypeId} {z : Value} {size bytes : Nat} (E : El P t e z size bytes) (hsm : size ≤ 16777216) {o : Oper} {a : Act} {w : World} {K : Act → World → Prop} {Q : Exit → Act → World → Prop} (x : Operand) (ho : o.op = .buildSlice t 1 #[(0, x)]) (X : List Value) (hx : a.eval x = .agg X.toArray) (hX : X.length = size)
    (h : K (a.put o.dst (.slice (some ⟨w.heap.size, 0, none⟩) 1 1)) (w.alloc (.cells X.toArray e))) : o.wp P a w K Q := by
  obtain ⟨ht, hinfo, hz, hs0, -⟩ := E
  obtain ⟨i0, hi, hzz⟩ := Option.map_eq_some_iff.1 hinfo
  simp only [Prod.mk.injEq] at hzz
  obtain ⟨hz0, hz1, -⟩ := hzz
  have hf := Great.fill_whole (s := size) hs0 [Value.agg X.toArray] ((Array.range (1 * i0.size)).map (z.cells[· % z.cells.size]!)) (by intro v hv; simp at hv; subst hv; simp [Value.cells, hX]) (by simp [hz1])
  refine wp_buildSlice t e 1 #[(0, x)] ho X.toArray i0 _ ht hi hz0 (by rw [hz1]; omega) (by rw [hz1]; omega) ?_ h
  have hfl : ([Value.agg X.toArray].flatMap fun v => v.cells.toList) = X := by simp [Value.cells]
  rw [hfl] at hf
  rw [hz1] at hf ⊢
  rw [show (#[(0, x)].map fun (i, x) => (i, a.eval x)).toList = (([Value.agg X.toArray].zipIdx 0).map fun x => (x.2, x.1)) by simp [hx]]
  exact hf
theorem Rd_takeN {w : World} {sz : Nat} {A : Option Addr} {n c : Nat} {xs : List Value} (h : Rd w sz (.slice A n c) n xs) (m : Nat) (hm : m ≤ n) : Rd w sz (.slice A m c) m (xs.take (m * sz)) := by
  obtain ⟨hl, A', c', hA, h1, h2, h3⟩ := h
  injection hA with hA1 _ hA3
  subst hA1 hA3
  have hmn : m * sz ≤ n * sz := Nat.mul_le_mul_right _ hm
  refine ⟨by rw [List.length_take]; omega, _, _, rfl, by omega, h2, fun h0 => ?_⟩
  obtain ⟨b, off, rfl, hc⟩ := h3 (by omega)
  refine ⟨b, off, rfl, fun i hi => ?_⟩
  rw [hc i (by omega), List.getElem?_take, if_pos hi]
theorem Rd_dropN {w : World} {sz : Nat} {A A' : Option Addr} {n c : Nat} {xs : List Value} (h : Rd w sz (.slice A n c) n xs) (m : Nat) (hm : m ≤ n) (ha : m < n → ∀ b o, A = some ⟨b, o, none⟩ → A' = some ⟨b, o + m * sz, none⟩) : Rd w sz (.slice A' (n - m) (c - m)) (n - m) (xs.drop (m * sz)) := by
  obtain ⟨hl, A1, c1, hA, h1, h2, h3⟩ := h
  injection hA with hA1 _ hA3
  subst hA1 hA3
  refine ⟨by rw [List.length_drop, hl, Nat.sub_mul], _, _, rfl, by omega, by omega, fun h0 => ?_⟩
  obtain ⟨b, off, rfl, hc⟩ := h3 (by omega)
  refine ⟨b, off + m * sz, ha (by omega) b off rfl, fun i hi => ?_⟩
  rw [Nat.add_assoc, hc (m * sz + i) (by rw [Nat.sub_mul] at hi; omega), List.getElem?_drop]
theorem ix_take {l : List Id} (h : W32 l) (k : Nat) : ix (l.take k) = (ix l).take (k * 32) := by
  induction l generalizing k with
  | nil => simp [ix, bs]
  | cons i l ih =>
    have hi := h i List.mem_cons_self
    have hl : W32 l := fun j hj => h j (List.mem_cons_of_mem _ hj)
    cases k with
    | zero => simp [ix, bs]
    | succ k =>
      have := ih hl k
      simp only [ix, List.take_succ_cons, List.flatten_cons, bs_append] at this ⊢
      rw [this, List.take_append, List.take_of_length_le (l := bs i) (by rw [bs_length, hi]; omega), bs_length, hi, show (k + 1) * 32 - 32 = k * 32 by omega]
theorem ix_drop {l : List Id} (h : W32 l) (k : Nat) : ix (l.drop k) = (ix l).drop (k * 32) := by
  induction l generalizing k with
  | nil => simp [ix, bs]
  | cons i l ih =>
    have hi := h i List.mem_cons_self
    have hl : W32 l := fun j hj => h j (List.mem_cons_of_mem _ hj)
    cases k with
    | zero => simp [ix, bs]
    | succ k =>
      have := ih hl k
      simp only [ix, List.drop_succ_cons, List.flatten_cons, bs_append] at this ⊢
      rw [this, List.drop_append, List.drop_of_length_le (l := bs i) (by rw [bs_length, hi]; omega), bs_length, hi, show (k + 1) * 32 - 32 = k * 32 by omega]; rfl
theorem ix_app (l m : List Id) : ix (l ++ m) = ix l ++ ix m := by simp [ix, bs_append]
theorem ix_cons (x : Id) (m : List Id) : ix (x :: m) = bs x ++ ix m := by simp [ix, bs_append]
theorem ix_one1 (l : List Id) : ∀ v ∈ ix l, v.oneCell' = true := bs_oneCell _
set_option maxRecDepth 100000 in
set_option maxHeartbeats 16000000 in
theorem rWith_any (l : List Id) (x : Id) (h32 : W32 l) (hx : x.length = 32) (hn : l.length ≤ 1000000) (v : Value) (w : World) (hv : Rd w 32 v l.length (ix l)) :
    Calls Try.prog 126 #[v, .agg (bs x).toArray] w fun r w' => ∃ v', r = .returned v' ∧ Rd w' 32 v' (rwith l x).length (ix (rwith l x)) ∧ Below w.heap.size w w' := by
  obtain ⟨W0, hW0⟩ : ∃ W, W = w.alloc (.cells (bs x).toArray 22) := ⟨_, rfl⟩
  have hb0 : Below w.heap.size w W0 := by rw [hW0]; exact below_one _ _
  have hhas := rHas_any l x h32 hx v W0 (hv.below hb0)
  obtain ⟨A, c, rfl, hc1, hc2, -⟩ := hv.slice_
  unfold maxLen at hc2
  obtain ⟨g0, hg0⟩ : ∃ g, g = w.heap.size := ⟨_, rfl⟩
  have Hra := Lib.hid (show ∀ W, Below W0.heap.size W0 W → W.rangeAt g0 0 (bs x) from fun W h => by rw [hW0] at h; rw [hg0]; exact range_all (t := 22) (blk_below (heap_alloc_new _ _) h))
  have hle := fun W k (hk : k < l.length) => rLess_any (l.getD k []) x (h32.get k hk) hx W
  have HW0 := Lib.hid hW0
  have Hv := Lib.hid hv
  have H32 := Lib.hid h32
  have Hle := Lib.hid hle
  have Hhas := Lib.hid hhas
  have Hwi := Lib.hid (show rwith l x = if x ∈ l then l else rins x l from rfl)
  have Hat := Lib.hid (fun k => @rins_at x l k)
  obtain ⟨X, hX⟩ : ∃ X, X = bs x := ⟨_, rfl⟩
  have HX := Lib.hid hX
  have Hone := Lib.hid (show ∀ u ∈ X, u.oneCell' = true by rw [hX]; exact bs_oneCell _)
  have HXl := Lib.hid (show X.length = 32 by rw [hX, bs_length, hx])
  have Hix := Lib.hid (show (Try.prog.info? 22).map (·.size) = some X.length by rw [HXl.out]; rfl)
  rw [← hX] at Hra Hle Hhas HW0
  rw [← hX]
  obtain ⟨n, hn'⟩ : ∃ n, n = l.length := ⟨_, rfl⟩
  rw [← hn'] at Hv hc1 Hhas hn
  rw [← hn']
  have Hn := Lib.hid hn'
  clear hW0 hv h32 hle hhas hX hn' hx
  go_enter Try.func126, Try.ntmps126
  go_upto_region 1 with fail
  rw [← HW0.out, ← hg0]
  have hb0' : Below g0 w W0 := by rw [hg0]; exact hb0
  have Hg0 := Lib.hid hg0
  clear hg0
  by_cases hmem : x ∈ l
  · have Hr := Lib.hid (show rwith l x = l by rw [Hwi.out, if_pos hmem])
    rw [decide_eq_true hmem] at Hhas
    go_wp2_with (first
      | (refine wpList_load_mid rfl 22 _ rfl g0 0 rfl X _ (Hra.out _ (Below.refl _ _)) Try.underlying22 rfl Hix.out ?_)
      | (go_at_call 169; refine Hhas.out.mono ?_; rintro r w2 ⟨rfl, hb2⟩))
    go_ret
    exact ⟨_, rfl, by rw [Hr.out, ← Hn.out]; exact Hv.out.below (below_go hb2 hb0), below_go hb2 hb0⟩
  have Hr := Lib.hid (show rwith l x = rins x l by rw [Hwi.out, if_neg hmem])
  rw [decide_eq_false hmem] at Hhas
  go_wp2_with (first
    | (refine wpList_load_mid rfl 22 _ rfl g0 0 rfl X _ (Hra.out _ (Below.refl _ _)) Try.underlying22 rfl Hix.out ?_)
    | (go_at_call 169; refine Hhas.out.mono ?_; rintro r w2 ⟨rfl, hb2⟩))
  clear hmem
  go_loopw [5] (fun i_ wr => ∃ k : Nat, k ≤ n ∧ i_ = .int .i64 (k : Int) ∧ Hid (∀ j, j < k → lt (l.getD j []) x = true) ∧ Below W0.heap.size W0 wr) (fun i_ _ => n - (intOf i_).toNat)
  case atStart => exact ⟨0, Nat.zero_le _, rfl, Lib.hid (fun j hj => absurd hj (Nat.not_lt_zero _)), hb2⟩
  case round =>
    obtain ⟨k, hkl, rfl, Hlo, hB⟩ := hrel
    have i0 : (0 : Int) ≤ (k : Int) := by omega
    have i1 : (k : Int) ≤ (n : Int) := by omega
    have i2 : (k : Int) ≤ (c : Int) := by omega
    have i3 : k ≤ n := by omega
    have i4 : k ≤ c := by omega
    have hx0 := Hra.out wr hB
    by_cases hkn : k < n
    rotate_left
    · have hd1 : decide ((k : Int) < (n : Int)) = false := decide_eq_false (by omega)
      have Hend := Lib.hid (show k = l.length ∨ lt (l.getD k []) x = false from .inl (by have := Hn.out; omega))
      have hkn' : n = k := by omega
      have Hkn := Lib.hid hkn'
      clear hkn'
      go_upto_region 4 with fail
      (refine Ord.wp_region_ord [(false, 0), (false, 1), (false, 2), (false, 3), (false, 4), (false, 5), (false, 6), (false, 7), (false, 8), (false, 9), (true, 10), (false, 11)] (fun W => True) (by kernel_rfl) (by kernel_rfl) (by kernel_rfl) (by kernel_rfl) (by trivial) ?_; simp only [Ord.ordOps, List.filterMap_cons, List.filterMap_nil, List.getElem?_toArray, List.getElem?_cons_succ, List.getElem?_cons_zero, Option.map_some]; repeat (first | (refine Ord.wpOrd_skip ?_ ?_; (focus (go_simp; (try (intro h; cases h)); done)); simp only [Act.put, List.setIfInBounds_toArray, List.set_cons_zero, List.set_cons_succ]) | (refine Ord.wpOrd_take (v := ?_) ?_ ?_ ?_; rotate_left; (focus (go_simp; done)); (focus (intro w' hSw; (try dsimp only at hSw); go_simp; (try with_reducible rfl); done)); simp only [Act.put, List.setIfInBounds_toArray, List.set_cons_zero, List.set_cons_succ])))
      refine Ord.wpOrd_nil ?_
      go_upto_region 6 with fail
      have Hd := Lib.hid (fun W (h : Below W0.heap.size W0 W) => Rd_dropN (A' := if c = k then A else Option.map (fun x => x.add (k * 32)) A) (Hv.out.below (below_go h hb0)) k i3 (fun h => absurd h (by have := Hkn.out; omega)))
      obtain ⟨WX, hWX⟩ : ∃ W, W = wr.drew := ⟨_, rfl⟩
      have hBX := hB.drew
      rw [← hWX] at hBX
      rw [← hWX]
      have Ht := Lib.hid (fun W (h : Below W0.heap.size W0 W) => Rd_takeN (Hv.out.below (below_go h hb0)) k i3)
      have hins := Hat.out k (by have := Hn.out; omega) Hlo.out Hend.out
      obtain ⟨TK, hTK⟩ : ∃ x, x = (ix l).take (k * 32) := ⟨_, rfl⟩
      obtain ⟨DK, hDK⟩ : ∃ x, x = (ix l).drop (k * 32) := ⟨_, rfl⟩
      have Hfin := Lib.hid (show k + 1 + (n - k) = (rwith l x).length ∧ ix (rwith l x) = TK ++ X ++ DK by
        rw [Hr.out, rins_len]
        refine ⟨by have := Hn.out; omega, ?_⟩
        rw [hins, ix_app, ix_cons, hTK, hDK, ix_take H32.out, ix_drop H32.out, HX.out, List.append_assoc])
      have HTone := Lib.hid (show ∀ u ∈ TK, u.oneCell' = true by rw [hTK]; exact fun u hu => ix_one1 l u (List.mem_of_mem_take hu))
      have HDone := Lib.hid (show ∀ u ∈ DK, u.oneCell' = true by rw [hDK]; exact fun u hu => ix_one1 l u (List.mem_of_mem_drop hu))
      rw [← hTK] at Ht
      rw [← hDK] at Hd
      have Hd2 := Hd
      clear hWX hins hTK hDK
      (refine Ord.wp_region_tree (Ord.OT.of [(false, 1), (false, 2), (false, 3), (false, 5), (false, 8), (false, 9), (false, 10)] (Ord.OT.two 0 (Ord.OT.of [] (Ord.OT.two 4 (Ord.OT.of [(true, 6), (true, 7), (true, 11), (false, 12)] Ord.OT.nil) 6 (Ord.OT.of [(true, 4), (true, 7), (true, 11), (false, 12)] Ord.OT.nil))) 6 (Ord.OT.of [(true, 0), (true, 4), (true, 7), (true, 11), (false, 12)] Ord.OT.nil))) (fun W => W.rangeAt g0 0 X) (by kernel_rfl) (by kernel_rfl) (by kernel_rfl) (by kernel_rfl) (by exact Hra.out _ hBX.drew) ?_; simp only [Ord.OT.of, Ord.OT.opers, List.getElem?_toArray, List.getElem?_cons_succ, List.getElem?_cons_zero]; repeat (first | (refine Ord.wpT_skip ?_ ?_; (focus (go_simp; (try (intro h; cases h)); done)); simp only [Act.put, List.setIfInBounds_toArray, List.set_cons_zero, List.set_cons_succ]) | (refine Ord.wpT_take (v := ?_) ?_ ?_ ?_; rotate_left; (focus (go_simp; done)); (focus (intro w' hSw; (try dsimp only at hSw); go_simp; (try with_reducible rfl); done)); simp only [Act.put, List.setIfInBounds_toArray, List.set_cons_zero, List.set_cons_succ])))
      refine Ord.wpT_load_mid ?_ 22 _ rfl g0 0 rfl X _ (fun w h => h) Try.underlying22 rfl Hix.out ?_
      focus (go_simp; done)
      ((try simp only [Act.put, List.setIfInBounds_toArray, List.set_cons_zero, List.set_cons_succ]); repeat (first | (refine Ord.wpT_skip ?_ ?_; (focus (go_simp; (try (intro h; cases h)); done)); simp only [Act.put, List.setIfInBounds_toArray, List.set_cons_zero, List.set_cons_succ]) | (refine Ord.wpT_take (v := ?_) ?_ ?_ ?_; rotate_left; (focus (go_simp; done)); (focus (intro w' hSw; (try dsimp only at hSw); go_simp; (try with_reducible rfl); done)); simp only [Act.put, List.setIfInBounds_toArray, List.set_cons_zero, List.set_cons_succ])))
      refine Ord.wpT_two ?_ ?_
      · (refine Ord.wpT_call ?_ (fun K hK => ?_); (focus (go_simp; done)); go_simp)
        have hB4 : Below WX.heap.size WX (WX.alloc (.cells #[] 22)).drew := (below_one _ _).drew
        (refine hK _ _ (by exact Hra.out _ (below_go hB4 hBX)) ?_; clear hK K; (try simp only [Act.put, List.setIfInBounds_toArray, List.set_cons_zero, List.set_cons_succ]); repeat (first | (refine Ord.wpT_skip ?_ ?_; (focus (go_simp; (try (intro h; cases h)); done)); simp only [Act.put, List.setIfInBounds_toArray, List.set_cons_zero, List.set_cons_succ]) | (refine Ord.wpT_take (v := ?_) ?_ ?_ ?_; rotate_left; (focus (go_simp; done)); (focus (intro w' hSw; (try dsimp only at hSw); go_simp; (try with_reducible rfl); done)); simp only [Act.put, List.setIfInBounds_toArray, List.set_cons_zero, List.set_cons_succ])))
        have HO4 := Lib.hid (own_below (own_empty WX WX.heap.size 22 32 (Nat.le_refl _)) (show Below (WX.alloc (.cells #[] 22)).heap.size (WX.alloc (.cells #[] 22)) (WX.alloc (.cells #[] 22)).drew from (Below.refl _ _).drew))
        refine Ord.wpT_two ?_ ?_
        · refine Ord.wpT_app_row elR ?_ (.tmp 24) (.tmp 27) rfl WX.heap.size (.slice (some ⟨WX.heap.size, 0, none⟩) 0 0) _ 0 k [] TK rfl rfl HTone.out HO4.out (Ht.out _ (below_go hB4 hBX)) hB4.size (by omega) (fun v7 w7 ho7 hg7 hat7 => ?_)
          focus (go_simp; done)
          rw [Nat.zero_add, List.nil_append] at ho7
          have hB7 := hB4.grown hg7 hB4.size (own_base HO4.out)
          refine ⟨Hra.out _ (below_go hB7 hBX), ?_⟩
          have HO6 := Lib.hid ho7
          clear ho7 hg7 hat7
          ((try simp only [Act.put, List.setIfInBounds_toArray, List.set_cons_zero, List.set_cons_succ]); repeat (first | (refine Ord.wpT_skip ?_ ?_; (focus (go_simp; (try (intro h; cases h)); done)); simp only [Act.put, List.setIfInBounds_toArray, List.set_cons_zero, List.set_cons_succ]) | (refine Ord.wpT_take (v := ?_) ?_ ?_ ?_; rotate_left; (focus (go_simp; done)); (focus (intro w' hSw; (try dsimp only at hSw); go_simp; (try with_reducible rfl); done)); simp only [Act.put, List.setIfInBounds_toArray, List.set_cons_zero, List.set_cons_succ])))
          have hB6 := below_go (below_one w7 (.cells X.toArray 22)) hB7
          refine Ord.wpT_call ?_ (fun K hK => ?_)
          focus (go_simp; done)
          refine wp_build_one elR (by decide) _ rfl X rfl HXl.out ?_
          refine hK _ _ (Hra.out _ (below_go hB6 hBX)) ?_
          clear hK K
          ((try simp only [Act.put, List.setIfInBounds_toArray, List.set_cons_zero, List.set_cons_succ]); repeat (first | (refine Ord.wpT_skip ?_ ?_; (focus (go_simp; (try (intro h; cases h)); done)); simp only [Act.put, List.setIfInBounds_toArray, List.set_cons_zero, List.set_cons_succ]) | (refine Ord.wpT_take (v := ?_) ?_ ?_ ?_; rotate_left; (focus (go_simp; done)); (focus (intro w' hSw; (try dsimp only at hSw); go_simp; (try with_reducible rfl); done)); simp only [Act.put, List.setIfInBounds_toArray, List.set_cons_zero, List.set_cons_succ])))
          have HO7 := Lib.hid (own_alloc HO6.out (.cells X.toArray 22))
          have HY7 := Lib.hid (Rd.lit w7 32 1 X 22 (by rw [HXl.out]) (by simp [maxLen]))
          clear HO6 hB7
          have hB7 := hB6
          ((try simp only [Act.put, List.setIfInBounds_toArray, List.set_cons_zero, List.set_cons_succ]); repeat (first | (refine Ord.wpT_skip ?_ ?_; (focus (go_simp; (try (intro h; cases h)); done)); simp only [Act.put, List.setIfInBounds_toArray, List.set_cons_zero, List.set_cons_succ]) | (refine Ord.wpT_take (v := ?_) ?_ ?_ ?_; rotate_left; (focus (go_simp; done)); (focus (intro w' hSw; (try dsimp only at hSw); go_simp; (try with_reducible rfl); done)); simp only [Act.put, List.setIfInBounds_toArray, List.set_cons_zero, List.set_cons_succ])))
          refine Ord.wpT_app_row elR ?_ (.tmp 28) (.tmp 30) rfl WX.heap.size v7 _ k 1 TK X rfl rfl Hone.out HO7.out HY7.out hB7.size (by omega) (fun v8 w8 ho8 hg8 hat8 => ?_)
          focus (go_simp; done)
          have hB8 := hB7.grown hg8 hB7.size (own_base HO7.out)
          refine ⟨Hra.out _ (below_go hB8 hBX), ?_⟩
          have HO8 := Lib.hid ho8
          clear ho8 hg8 hat8 HO7 HY7
          ((try simp only [Act.put, List.setIfInBounds_toArray, List.set_cons_zero, List.set_cons_succ]); repeat (first | (refine Ord.wpT_skip ?_ ?_; (focus (go_simp; (try (intro h; cases h)); done)); simp only [Act.put, List.setIfInBounds_toArray, List.set_cons_zero, List.set_cons_succ]) | (refine Ord.wpT_take (v := ?_) ?_ ?_ ?_; rotate_left; (focus (go_simp; done)); (focus (intro w' hSw; (try dsimp only at hSw); go_simp; (try with_reducible rfl); done)); simp only [Act.put, List.setIfInBounds_toArray, List.set_cons_zero, List.set_cons_succ])))
          refine Ord.wpT_app_row elR ?_ (.tmp 31) (.tmp 34) rfl WX.heap.size v8 _ (k + 1) (n - k) (TK ++ X) DK rfl rfl HDone.out HO8.out (Hd2.out _ (below_go hB8 hBX)) hB8.size (by omega) (fun v9 w9 ho9 hg9 hat9 => ?_)
          focus (go_simp; done)
          have hB9 := hB8.grown hg9 hB8.size (own_base HO8.out)
          refine ⟨Hra.out _ (below_go hB9 hBX), ?_⟩
          have HO9 := Lib.hid ho9
          clear ho9 hg9 hat9 HO8
          ((try simp only [Act.put, List.setIfInBounds_toArray, List.set_cons_zero, List.set_cons_succ]); repeat (first | (refine Ord.wpT_skip ?_ ?_; (focus (go_simp; (try (intro h; cases h)); done)); simp only [Act.put, List.setIfInBounds_toArray, List.set_cons_zero, List.set_cons_succ]) | (refine Ord.wpT_take (v := ?_) ?_ ?_ ?_; rotate_left; (focus (go_simp; done)); (focus (intro w' hSw; (try dsimp only at hSw); go_simp; (try with_reducible rfl); done)); simp only [Act.put, List.setIfInBounds_toArray, List.set_cons_zero, List.set_cons_succ])))
          refine Ord.wpT_nil ?_
          go_wp2_with fail
          all_goals
            go_ret
            refine ⟨v9, rfl, ?_, below_go (below_go hB9 hBX) hb0⟩
            have h := Rd.of_own HO9.out
            rw [Hfin.out.1, ← Hfin.out.2] at h
            exact h
        · have hBB : Below WX.heap.size WX (((WX.alloc (.cells #[] 22)).drew).alloc (.cells X.toArray 22)) := below_go (below_one _ _) (below_one _ _).drew
          refine Ord.wpT_call ?_ (fun K hK => ?_)
          focus (go_simp; done)
          refine wp_build_one elR (by decide) _ rfl X rfl HXl.out ?_
          refine hK _ _ (Hra.out _ (below_go hBB hBX)) ?_
          clear hK K
          ((try simp only [Act.put, List.setIfInBounds_toArray, List.set_cons_zero, List.set_cons_succ]); repeat (first | (refine Ord.wpT_skip ?_ ?_; (focus (go_simp; (try (intro h; cases h)); done)); simp only [Act.put, List.setIfInBounds_toArray, List.set_cons_zero, List.set_cons_succ]) | (refine Ord.wpT_take (v := ?_) ?_ ?_ ?_; rotate_left; (focus (go_simp; done)); (focus (intro w' hSw; (try dsimp only at hSw); go_simp; (try with_reducible rfl); done)); simp only [Act.put, List.setIfInBounds_toArray, List.set_cons_zero, List.set_cons_succ])))
          have HOB := Lib.hid (own_below HO4.out (below_one ((WX.alloc (.cells #[] 22)).drew) (.cells X.toArray 22)))
          have e1 : ((WX.alloc (.cells #[] 22)).drew).heap.size = WX.heap.size + 1 := alloc_size _ _
          have HYB := Lib.hid (show Rd (((WX.alloc (.cells #[] 22)).drew).alloc (.cells X.toArray 22)) 32 (.slice (some ⟨((WX.alloc (.cells #[] 22)).drew).heap.size, 0, none⟩) 1 1) 1 X from Rd.lit ((WX.alloc (.cells #[] 22)).drew) 32 1 X 22 (by rw [HXl.out]) (by simp [maxLen]))
          have E1 := Lib.hid e1
          clear e1
          clear hB4 HO4
          have hB4 := hBB
          have HO4 := HOB
          refine Ord.wpT_app_row elR ?_ (.tmp 24) (.tmp 27) rfl WX.heap.size (.slice (some ⟨WX.heap.size, 0, none⟩) 0 0) _ 0 k [] TK rfl rfl HTone.out HO4.out (Ht.out _ (below_go hB4 hBX)) hB4.size (by omega) (fun v7 w7 ho7 hg7 hat7 => ?_)
          focus (go_simp; done)
          rw [Nat.zero_add, List.nil_append] at ho7
          have hB7 := hB4.grown hg7 hB4.size (own_base HO4.out)
          refine ⟨Hra.out _ (below_go hB7 hBX), ?_⟩
          have HO7 := Lib.hid ho7
          have HY7 := Lib.hid (HYB.out.grown hg7 (fun q hq h => by have h1 : some WX.heap.size = some q := hq; have h2 : some (((WX.alloc (.cells #[] 22)).drew).heap.size) = some q := h; have h3 := E1.out; injection h1 with h1; injection h2 with h2; omega))
          clear ho7 hg7 hat7
          ((try simp only [Act.put, List.setIfInBounds_toArray, List.set_cons_zero, List.set_cons_succ]); repeat (first | (refine Ord.wpT_skip ?_ ?_; (focus (go_simp; (try (intro h; cases h)); done)); simp only [Act.put, List.setIfInBounds_toArray, List.set_cons_zero, List.set_cons_succ]) | (refine Ord.wpT_take (v := ?_) ?_ ?_ ?_; rotate_left; (focus (go_simp; done)); (focus (intro w' hSw; (try dsimp only at hSw); go_simp; (try with_reducible rfl); done)); simp only [Act.put, List.setIfInBounds_toArray, List.set_cons_zero, List.set_cons_succ])))
          refine Ord.wpT_app_row elR ?_ (.tmp 28) (.tmp 30) rfl WX.heap.size v7 _ k 1 TK X rfl rfl Hone.out HO7.out HY7.out hB7.size (by omega) (fun v8 w8 ho8 hg8 hat8 => ?_)
          focus (go_simp; done)
          have hB8 := hB7.grown hg8 hB7.size (own_base HO7.out)
          refine ⟨Hra.out _ (below_go hB8 hBX), ?_⟩
          have HO8 := Lib.hid ho8
          clear ho8 hg8 hat8 HO7 HY7
          ((try simp only [Act.put, List.setIfInBounds_toArray, List.set_cons_zero, List.set_cons_succ]); repeat (first | (refine Ord.wpT_skip ?_ ?_; (focus (go_simp; (try (intro h; cases h)); done)); simp only [Act.put, List.setIfInBounds_toArray, List.set_cons_zero, List.set_cons_succ]) | (refine Ord.wpT_take (v := ?_) ?_ ?_ ?_; rotate_left; (focus (go_simp; done)); (focus (intro w' hSw; (try dsimp only at hSw); go_simp; (try with_reducible rfl); done)); simp only [Act.put, List.setIfInBounds_toArray, List.set_cons_zero, List.set_cons_succ])))
          refine Ord.wpT_app_row elR ?_ (.tmp 31) (.tmp 34) rfl WX.heap.size v8 _ (k + 1) (n - k) (TK ++ X) DK rfl rfl HDone.out HO8.out (Hd2.out _ (below_go hB8 hBX)) hB8.size (by omega) (fun v9 w9 ho9 hg9 hat9 => ?_)
          focus (go_simp; done)
          have hB9 := hB8.grown hg9 hB8.size (own_base HO8.out)
          refine ⟨Hra.out _ (below_go hB9 hBX), ?_⟩
          have HO9 := Lib.hid ho9
          clear ho9 hg9 hat9 HO8
          ((try simp only [Act.put, List.setIfInBounds_toArray, List.set_cons_zero, List.set_cons_succ]); repeat (first | (refine Ord.wpT_skip ?_ ?_; (focus (go_simp; (try (intro h; cases h)); done)); simp only [Act.put, List.setIfInBounds_toArray, List.set_cons_zero, List.set_cons_succ]) | (refine Ord.wpT_take (v := ?_) ?_ ?_ ?_; rotate_left; (focus (go_simp; done)); (focus (intro w' hSw; (try dsimp only at hSw); go_simp; (try with_reducible rfl); done)); simp only [Act.put, List.setIfInBounds_toArray, List.set_cons_zero, List.set_cons_succ])))
          refine Ord.wpT_nil ?_
          go_wp2_with fail
          all_goals
            go_ret
            refine ⟨v9, rfl, ?_, below_go (below_go hB9 hBX) hb0⟩
            have h := Rd.of_own HO9.out
            rw [Hfin.out.1, ← Hfin.out.2] at h
            exact h
      · have hB3 : Below WX.heap.size WX ((WX.drew).alloc (.cells X.toArray 22)) := below_go (below_one _ _) (Below.refl _ _).drew
        refine Ord.wpT_call ?_ (fun K hK => ?_)
        focus (go_simp; done)
        refine wp_build_one elR (by decide) _ rfl X rfl HXl.out ?_
        refine hK _ _ (Hra.out _ (below_go hB3 hBX)) ?_
        clear hK K
        ((try simp only [Act.put, List.setIfInBounds_toArray, List.set_cons_zero, List.set_cons_succ]); repeat (first | (refine Ord.wpT_skip ?_ ?_; (focus (go_simp; (try (intro h; cases h)); done)); simp only [Act.put, List.setIfInBounds_toArray, List.set_cons_zero, List.set_cons_succ]) | (refine Ord.wpT_take (v := ?_) ?_ ?_ ?_; rotate_left; (focus (go_simp; done)); (focus (intro w' hSw; (try dsimp only at hSw); go_simp; (try with_reducible rfl); done)); simp only [Act.put, List.setIfInBounds_toArray, List.set_cons_zero, List.set_cons_succ])))
        (refine Ord.wpT_call ?_ (fun K hK => ?_); (focus (go_simp; done)); go_simp)
        have hB4 : Below WX.heap.size WX (((WX.drew).alloc (.cells X.toArray 22)).alloc (.cells #[] 22)) := below_go (below_one _ _) hB3
        (refine hK _ _ (by exact Hra.out _ (below_go hB4 hBX)) ?_; clear hK K; (try simp only [Act.put, List.setIfInBounds_toArray, List.set_cons_zero, List.set_cons_succ]); repeat (first | (refine Ord.wpT_skip ?_ ?_; (focus (go_simp; (try (intro h; cases h)); done)); simp only [Act.put, List.setIfInBounds_toArray, List.set_cons_zero, List.set_cons_succ]) | (refine Ord.wpT_take (v := ?_) ?_ ?_ ?_; rotate_left; (focus (go_simp; done)); (focus (intro w' hSw; (try dsimp only at hSw); go_simp; (try with_reducible rfl); done)); simp only [Act.put, List.setIfInBounds_toArray, List.set_cons_zero, List.set_cons_succ])))
        have e1 : ((WX.drew).alloc (.cells X.toArray 22)).heap.size = WX.heap.size + 1 := alloc_size _ _
        have HO4 := Lib.hid (show (((WX.drew).alloc (.cells X.toArray 22)).alloc (.cells #[] 22)).ownsRow WX.heap.size 22 32 (.slice (some ⟨WX.heap.size + 1, 0, none⟩) 0 0) 0 [] from by
          have h := own_empty ((WX.drew).alloc (.cells X.toArray 22)) WX.heap.size 22 32 hB3.size
          rw [e1] at h; exact h)
        clear e1
        have HYB := Lib.hid (show Rd (((WX.drew).alloc (.cells X.toArray 22)).alloc (.cells #[] 22)) 32 (.slice (some ⟨WX.heap.size, 0, none⟩) 1 1) 1 X from (Rd.lit WX.drew 32 1 X 22 (by rw [HXl.out]) (by simp [maxLen])).below (below_one _ _))
        refine Ord.wpT_app_row elR ?_ (.tmp 24) (.tmp 27) rfl WX.heap.size (.slice (some ⟨WX.heap.size + 1, 0, none⟩) 0 0) _ 0 k [] TK rfl rfl HTone.out HO4.out (Ht.out _ (below_go hB4 hBX)) hB4.size (by omega) (fun v7 w7 ho7 hg7 hat7 => ?_)
        focus (go_simp; done)
        rw [Nat.zero_add, List.nil_append] at ho7
        have hB7 := hB4.grown hg7 hB4.size (own_base HO4.out)
        refine ⟨Hra.out _ (below_go hB7 hBX), ?_⟩
        have HO7 := Lib.hid ho7
        have HY7 := Lib.hid (HYB.out.grown hg7 (fun q hq h => by have h1 : some (WX.heap.size + 1) = some q := hq; have h2 : some WX.heap.size = some q := h; injection h1 with h1; injection h2 with h2; omega))
        clear ho7 hg7 hat7
        ((try simp only [Act.put, List.setIfInBounds_toArray, List.set_cons_zero, List.set_cons_succ]); repeat (first | (refine Ord.wpT_skip ?_ ?_; (focus (go_simp; (try (intro h; cases h)); done)); simp only [Act.put, List.setIfInBounds_toArray, List.set_cons_zero, List.set_cons_succ]) | (refine Ord.wpT_take (v := ?_) ?_ ?_ ?_; rotate_left; (focus (go_simp; done)); (focus (intro w' hSw; (try dsimp only at hSw); go_simp; (try with_reducible rfl); done)); simp only [Act.put, List.setIfInBounds_toArray, List.set_cons_zero, List.set_cons_succ])))
        refine Ord.wpT_app_row elR ?_ (.tmp 28) (.tmp 30) rfl WX.heap.size v7 _ k 1 TK X rfl rfl Hone.out HO7.out HY7.out hB7.size (by omega) (fun v8 w8 ho8 hg8 hat8 => ?_)
        focus (go_simp; done)
        have hB8 := hB7.grown hg8 hB7.size (own_base HO7.out)
        refine ⟨Hra.out _ (below_go hB8 hBX), ?_⟩
        have HO8 := Lib.hid ho8
        clear ho8 hg8 hat8 HO7 HY7
        ((try simp only [Act.put, List.setIfInBounds_toArray, List.set_cons_zero, List.set_cons_succ]); repeat (first | (refine Ord.wpT_skip ?_ ?_; (focus (go_simp; (try (intro h; cases h)); done)); simp only [Act.put, List.setIfInBounds_toArray, List.set_cons_zero, List.set_cons_succ]) | (refine Ord.wpT_take (v := ?_) ?_ ?_ ?_; rotate_left; (focus (go_simp; done)); (focus (intro w' hSw; (try dsimp only at hSw); go_simp; (try with_reducible rfl); done)); simp only [Act.put, List.setIfInBounds_toArray, List.set_cons_zero, List.set_cons_succ])))
        refine Ord.wpT_app_row elR ?_ (.tmp 31) (.tmp 34) rfl WX.heap.size v8 _ (k + 1) (n - k) (TK ++ X) DK rfl rfl HDone.out HO8.out (Hd2.out _ (below_go hB8 hBX)) hB8.size (by omega) (fun v9 w9 ho9 hg9 hat9 => ?_)
        focus (go_simp; done)
        have hB9 := hB8.grown hg9 hB8.size (own_base HO8.out)
        refine ⟨Hra.out _ (below_go hB9 hBX), ?_⟩
        have HO9 := Lib.hid ho9
        clear ho9 hg9 hat9 HO8
        ((try simp only [Act.put, List.setIfInBounds_toArray, List.set_cons_zero, List.set_cons_succ]); repeat (first | (refine Ord.wpT_skip ?_ ?_; (focus (go_simp; (try (intro h; cases h)); done)); simp only [Act.put, List.setIfInBounds_toArray, List.set_cons_zero, List.set_cons_succ]) | (refine Ord.wpT_take (v := ?_) ?_ ?_ ?_; rotate_left; (focus (go_simp; done)); (focus (intro w' hSw; (try dsimp only at hSw); go_simp; (try with_reducible rfl); done)); simp only [Act.put, List.setIfInBounds_toArray, List.set_cons_zero, List.set_cons_succ])))
        refine Ord.wpT_nil ?_
        go_wp2_with fail
        all_goals
          go_ret
          refine ⟨v9, rfl, ?_, below_go (below_go hB9 hBX) hb0⟩
          have h := Rd.of_own HO9.out
          rw [Hfin.out.1, ← Hfin.out.2] at h
          exact h
    have hd1 : decide ((k : Int) < (n : Int)) = true := decide_eq_true (by omega)
    have hj2 : (k : Int) < (n : Int) := by omega
    obtain ⟨b, off, hA, hr⟩ := ix_at (Hv.out.below (below_go hB hb0)) H32.out Hn.out (by omega)
    subst hA
    have hr1 := hr k hkn
    have hle1 := fun W => Hle.out W k (by have := Hn.out; omega)
    have hyl := H32.out.get k (by have := Hn.out; omega)
    obtain ⟨y, hy⟩ : ∃ y, y = l.getD k [] := ⟨_, rfl⟩
    rw [← hy] at hr1 hle1 hyl
    have Hy := Lib.hid hy
    clear hy
    have Hst := Lib.hid (fun (h : lt y x = true) j (hj : j < k + 1) => show lt (l.getD j []) x = true by
      rcases Nat.lt_or_ge j k with h1 | h1
      · exact Hlo.out j h1
      · obtain rfl : j = k := by omega
        rw [← Hy.out]; exact h)
    obtain ⟨Y, hY⟩ : ∃ Y, Y = bs y := ⟨_, rfl⟩
    have Hiy := Lib.hid (show (Try.prog.info? 22).map (·.size) = some Y.length by rw [hY, bs_length, hyl]; rfl)
    rw [← hY] at hr1 hle1
    clear hr hY hyl
    cases hlt : lt y x with
    | true =>
      rw [hlt] at hle1
      have Hs2 := Lib.hid (Hst.out hlt)
      have Hle1 := Lib.hid hle1
      clear hle1 hlt
      go_upto_region 4 with fail
      (refine Ord.wp_region_ord [(false, 0), (false, 1), (false, 2), (false, 3), (false, 4), (false, 5), (false, 6), (false, 7), (false, 8), (false, 9), (true, 10), (false, 11)] (fun W => W.rangeAt b (off + k * 32) Y ∧ W.rangeAt g0 0 X) (by kernel_rfl) (by kernel_rfl) (by kernel_rfl) (by kernel_rfl) (by exact ⟨hr1, hx0⟩) ?_; simp only [Ord.ordOps, List.filterMap_cons, List.filterMap_nil, List.getElem?_toArray, List.getElem?_cons_succ, List.getElem?_cons_zero, Option.map_some]; repeat (first | (refine Ord.wpOrd_skip ?_ ?_; (focus (go_simp; (try (intro h; cases h)); done)); simp only [Act.put, List.setIfInBounds_toArray, List.set_cons_zero, List.set_cons_succ]) | (refine Ord.wpOrd_take (v := ?_) ?_ ?_ ?_; rotate_left; (focus (go_simp; done)); (focus (intro w' hSw; (try dsimp only at hSw); go_simp; (try with_reducible rfl); done)); simp only [Act.put, List.setIfInBounds_toArray, List.set_cons_zero, List.set_cons_succ])))
      refine Ord.wpOrd_load_mid ?_ 22 _ rfl b (off + k * 32) rfl Y _ (fun w h => h.1) Try.underlying22 rfl Hiy.out ?_
      focus (go_simp; done)
      ((try simp only [Act.put, List.setIfInBounds_toArray, List.set_cons_zero, List.set_cons_succ]); repeat (first | (refine Ord.wpOrd_skip ?_ ?_; (focus (go_simp; (try (intro h; cases h)); done)); simp only [Act.put, List.setIfInBounds_toArray, List.set_cons_zero, List.set_cons_succ]) | (refine Ord.wpOrd_take (v := ?_) ?_ ?_ ?_; rotate_left; (focus (go_simp; done)); (focus (intro w' hSw; (try dsimp only at hSw); go_simp; (try with_reducible rfl); done)); simp only [Act.put, List.setIfInBounds_toArray, List.set_cons_zero, List.set_cons_succ])))
      refine Ord.wpOrd_load_mid ?_ 22 _ rfl g0 0 rfl X _ (fun w h => h.2) Try.underlying22 rfl Hix.out ?_
      focus (go_simp; done)
      ((try simp only [Act.put, List.setIfInBounds_toArray, List.set_cons_zero, List.set_cons_succ]); repeat (first | (refine Ord.wpOrd_skip ?_ ?_; (focus (go_simp; (try (intro h; cases h)); done)); simp only [Act.put, List.setIfInBounds_toArray, List.set_cons_zero, List.set_cons_succ]) | (refine Ord.wpOrd_take (v := ?_) ?_ ?_ ?_; rotate_left; (focus (go_simp; done)); (focus (intro w' hSw; (try dsimp only at hSw); go_simp; (try with_reducible rfl); done)); simp only [Act.put, List.setIfInBounds_toArray, List.set_cons_zero, List.set_cons_succ])))
      (refine Ord.wpOrd_call ?_ (fun K hK => ?_); (focus (go_simp; done)); go_simp)
      go_at_call 17
      refine (Hle1.out _).mono ?_
      rintro r w5 ⟨rfl, hb5⟩
      have hb5' := below_go hb5 (Below.refl wr.heap.size wr).drew
      have hB5 := below_go hb5' hB
      (refine hK _ _ (by exact ⟨fun j u hu => cell_below hb5' (hr1 j u hu), fun j u hu => cell_below hb5' (hx0 j u hu)⟩) ?_; clear hK K; (try simp only [Act.put, List.setIfInBounds_toArray, List.set_cons_zero, List.set_cons_succ]); repeat (first | (refine Ord.wpOrd_skip ?_ ?_; (focus (go_simp; (try (intro h; cases h)); done)); simp only [Act.put, List.setIfInBounds_toArray, List.set_cons_zero, List.set_cons_succ]) | (refine Ord.wpOrd_take (v := ?_) ?_ ?_ ?_; rotate_left; (focus (go_simp; done)); (focus (intro w' hSw; (try dsimp only at hSw); go_simp; (try with_reducible rfl); done)); simp only [Act.put, List.setIfInBounds_toArray, List.set_cons_zero, List.set_cons_succ])))
      refine Ord.wpOrd_nil ?_
      go_wp2_with fail
      exact ⟨⟨k + 1, by omega, by go_num, Hs2, hB5⟩, by simp only [intOf]; omega⟩
    | false =>
      rw [hlt] at hle1
      have Hend := Lib.hid (show k = l.length ∨ lt (l.getD k []) x = false from .inr (by rw [← Hy.out]; exact hlt))
      have hck : ¬ c = k := by omega
      have Hle1 := Lib.hid hle1
      clear hle1 hlt
      go_upto_region 4 with fail
      (refine Ord.wp_region_ord [(false, 0), (false, 1), (false, 2), (false, 3), (false, 4), (false, 5), (false, 6), (false, 7), (false, 8), (false, 9), (true, 10), (false, 11)] (fun W => W.rangeAt b (off + k * 32) Y ∧ W.rangeAt g0 0 X) (by kernel_rfl) (by kernel_rfl) (by kernel_rfl) (by kernel_rfl) (by exact ⟨hr1, hx0⟩) ?_; simp only [Ord.ordOps, List.filterMap_cons, List.filterMap_nil, List.getElem?_toArray, List.getElem?_cons_succ, List.getElem?_cons_zero, Option.map_some]; repeat (first | (refine Ord.wpOrd_skip ?_ ?_; (focus (go_simp; (try (intro h; cases h)); done)); simp only [Act.put, List.setIfInBounds_toArray, List.set_cons_zero, List.set_cons_succ]) | (refine Ord.wpOrd_take (v := ?_) ?_ ?_ ?_; rotate_left; (focus (go_simp; done)); (focus (intro w' hSw; (try dsimp only at hSw); go_simp; (try with_reducible rfl); done)); simp only [Act.put, List.setIfInBounds_toArray, List.set_cons_zero, List.set_cons_succ])))
      refine Ord.wpOrd_load_mid ?_ 22 _ rfl b (off + k * 32) rfl Y _ (fun w h => h.1) Try.underlying22 rfl Hiy.out ?_
      focus (go_simp; done)
      ((try simp only [Act.put, List.setIfInBounds_toArray, List.set_cons_zero, List.set_cons_succ]); repeat (first | (refine Ord.wpOrd_skip ?_ ?_; (focus (go_simp; (try (intro h; cases h)); done)); simp only [Act.put, List.setIfInBounds_toArray, List.set_cons_zero, List.set_cons_succ]) | (refine Ord.wpOrd_take (v := ?_) ?_ ?_ ?_; rotate_left; (focus (go_simp; done)); (focus (intro w' hSw; (try dsimp only at hSw); go_simp; (try with_reducible rfl); done)); simp only [Act.put, List.setIfInBounds_toArray, List.set_cons_zero, List.set_cons_succ])))
      refine Ord.wpOrd_load_mid ?_ 22 _ rfl g0 0 rfl X _ (fun w h => h.2) Try.underlying22 rfl Hix.out ?_
      focus (go_simp; done)
      ((try simp only [Act.put, List.setIfInBounds_toArray, List.set_cons_zero, List.set_cons_succ]); repeat (first | (refine Ord.wpOrd_skip ?_ ?_; (focus (go_simp; (try (intro h; cases h)); done)); simp only [Act.put, List.setIfInBounds_toArray, List.set_cons_zero, List.set_cons_succ]) | (refine Ord.wpOrd_take (v := ?_) ?_ ?_ ?_; rotate_left; (focus (go_simp; done)); (focus (intro w' hSw; (try dsimp only at hSw); go_simp; (try with_reducible rfl); done)); simp only [Act.put, List.setIfInBounds_toArray, List.set_cons_zero, List.set_cons_succ])))
      (refine Ord.wpOrd_call ?_ (fun K hK => ?_); (focus (go_simp; done)); go_simp)
      go_at_call 17
      refine (Hle1.out _).mono ?_
      rintro r w5 ⟨rfl, hb5⟩
      have hb5' := below_go hb5 (Below.refl wr.heap.size wr).drew
      have hB5 := below_go hb5' hB
      (refine hK _ _ (by exact ⟨fun j u hu => cell_below hb5' (hr1 j u hu), fun j u hu => cell_below hb5' (hx0 j u hu)⟩) ?_; clear hK K; (try simp only [Act.put, List.setIfInBounds_toArray, List.set_cons_zero, List.set_cons_succ]); repeat (first | (refine Ord.wpOrd_skip ?_ ?_; (focus (go_simp; (try (intro h; cases h)); done)); simp only [Act.put, List.setIfInBounds_toArray, List.set_cons_zero, List.set_cons_succ]) | (refine Ord.wpOrd_take (v := ?_) ?_ ?_ ?_; rotate_left; (focus (go_simp; done)); (focus (intro w' hSw; (try dsimp only at hSw); go_simp; (try with_reducible rfl); done)); simp only [Act.put, List.setIfInBounds_toArray, List.set_cons_zero, List.set_cons_succ])))
      refine Ord.wpOrd_nil ?_
      go_upto_region 6 with fail
      have Hd := Lib.hid (fun W (h : Below W0.heap.size W0 W) => Rd_dropN (A' := some ⟨b, off + k * 32, none⟩) (Hv.out.below (below_go h hb0)) k i3 (fun _ b' o' h => by injection h with h; injection h with h1 h2; rw [← h1, ← h2]))
      clear hr1
      obtain ⟨WX, hWX⟩ : ∃ W, W = w5 := ⟨_, rfl⟩
      have hBX := hB5
      rw [← hWX] at hBX
      rw [← hWX]
      have Ht := Lib.hid (fun W (h : Below W0.heap.size W0 W) => Rd_takeN (Hv.out.below (below_go h hb0)) k i3)
      have hins := Hat.out k (by have := Hn.out; omega) Hlo.out Hend.out
      obtain ⟨TK, hTK⟩ : ∃ x, x = (ix l).take (k * 32) := ⟨_, rfl⟩
      obtain ⟨DK, hDK⟩ : ∃ x, x = (ix l).drop (k * 32) := ⟨_, rfl⟩
      have Hfin := Lib.hid (show k + 1 + (n - k) = (rwith l x).length ∧ ix (rwith l x) = TK ++ X ++ DK by
        rw [Hr.out, rins_len]
        refine ⟨by have := Hn.out; omega, ?_⟩
        rw [hins, ix_app, ix_cons, hTK, hDK, ix_take H32.out, ix_drop H32.out, HX.out, List.append_assoc])
      have HTone := Lib.hid (show ∀ u ∈ TK, u.oneCell' = true by rw [hTK]; exact fun u hu => ix_one1 l u (List.mem_of_mem_take hu))
      have HDone := Lib.hid (show ∀ u ∈ DK, u.oneCell' = true by rw [hDK]; exact fun u hu => ix_one1 l u (List.mem_of_mem_drop hu))
      rw [← hTK] at Ht
      rw [← hDK] at Hd
      have Hd2 := Hd
      clear hWX hins hTK hDK
      (refine Ord.wp_region_tree (Ord.OT.of [(false, 1), (false, 2), (false, 3), (false, 5), (false, 8), (false, 9), (false, 10)] (Ord.OT.two 0 (Ord.OT.of [] (Ord.OT.two 4 (Ord.OT.of [(true, 6), (true, 7), (true, 11), (false, 12)] Ord.OT.nil) 6 (Ord.OT.of [(true, 4), (true, 7), (true, 11), (false, 12)] Ord.OT.nil))) 6 (Ord.OT.of [(true, 0), (true, 4), (true, 7), (true, 11), (false, 12)] Ord.OT.nil))) (fun W => W.rangeAt g0 0 X) (by kernel_rfl) (by kernel_rfl) (by kernel_rfl) (by kernel_rfl) (by exact Hra.out _ hBX.drew) ?_; simp only [Ord.OT.of, Ord.OT.opers, List.getElem?_toArray, List.getElem?_cons_succ, List.getElem?_cons_zero]; repeat (first | (refine Ord.wpT_skip ?_ ?_; (focus (go_simp; (try (intro h; cases h)); done)); simp only [Act.put, List.setIfInBounds_toArray, List.set_cons_zero, List.set_cons_succ]) | (refine Ord.wpT_take (v := ?_) ?_ ?_ ?_; rotate_left; (focus (go_simp; done)); (focus (intro w' hSw; (try dsimp only at hSw); go_simp; (try with_reducible rfl); done)); simp only [Act.put, List.setIfInBounds_toArray, List.set_cons_zero, List.set_cons_succ])))
      refine Ord.wpT_load_mid ?_ 22 _ rfl g0 0 rfl X _ (fun w h => h) Try.underlying22 rfl Hix.out ?_
      focus (go_simp; done)
      ((try simp only [Act.put, List.setIfInBounds_toArray, List.set_cons_zero, List.set_cons_succ]); repeat (first | (refine Ord.wpT_skip ?_ ?_; (focus (go_simp; (try (intro h; cases h)); done)); simp only [Act.put, List.setIfInBounds_toArray, List.set_cons_zero, List.set_cons_succ]) | (refine Ord.wpT_take (v := ?_) ?_ ?_ ?_; rotate_left; (focus (go_simp; done)); (focus (intro w' hSw; (try dsimp only at hSw); go_simp; (try with_reducible rfl); done)); simp only [Act.put, List.setIfInBounds_toArray, List.set_cons_zero, List.set_cons_succ])))
      refine Ord.wpT_two ?_ ?_
      · (refine Ord.wpT_call ?_ (fun K hK => ?_); (focus (go_simp; done)); go_simp)
        have hB4 : Below WX.heap.size WX (WX.alloc (.cells #[] 22)).drew := (below_one _ _).drew
        (refine hK _ _ (by exact Hra.out _ (below_go hB4 hBX)) ?_; clear hK K; (try simp only [Act.put, List.setIfInBounds_toArray, List.set_cons_zero, List.set_cons_succ]); repeat (first | (refine Ord.wpT_skip ?_ ?_; (focus (go_simp; (try (intro h; cases h)); done)); simp only [Act.put, List.setIfInBounds_toArray, List.set_cons_zero, List.set_cons_succ]) | (refine Ord.wpT_take (v := ?_) ?_ ?_ ?_; rotate_left; (focus (go_simp; done)); (focus (intro w' hSw; (try dsimp only at hSw); go_simp; (try with_reducible rfl); done)); simp only [Act.put, List.setIfInBounds_toArray, List.set_cons_zero, List.set_cons_succ])))
        have HO4 := Lib.hid (own_below (own_empty WX WX.heap.size 22 32 (Nat.le_refl _)) (show Below (WX.alloc (.cells #[] 22)).heap.size (WX.alloc (.cells #[] 22)) (WX.alloc (.cells #[] 22)).drew from (Below.refl _ _).drew))
        refine Ord.wpT_two ?_ ?_
        · refine Ord.wpT_app_row elR ?_ (.tmp 24) (.tmp 27) rfl WX.heap.size (.slice (some ⟨WX.heap.size, 0, none⟩) 0 0) _ 0 k [] TK rfl rfl HTone.out HO4.out (Ht.out _ (below_go hB4 hBX)) hB4.size (by omega) (fun v7 w7 ho7 hg7 hat7 => ?_)
          focus (go_simp; done)
          rw [Nat.zero_add, List.nil_append] at ho7
          have hB7 := hB4.grown hg7 hB4.size (own_base HO4.out)
          refine ⟨Hra.out _ (below_go hB7 hBX), ?_⟩
          have HO6 := Lib.hid ho7
          clear ho7 hg7 hat7
          ((try simp only [Act.put, List.setIfInBounds_toArray, List.set_cons_zero, List.set_cons_succ]); repeat (first | (refine Ord.wpT_skip ?_ ?_; (focus (go_simp; (try (intro h; cases h)); done)); simp only [Act.put, List.setIfInBounds_toArray, List.set_cons_zero, List.set_cons_succ]) | (refine Ord.wpT_take (v := ?_) ?_ ?_ ?_; rotate_left; (focus (go_simp; done)); (focus (intro w' hSw; (try dsimp only at hSw); go_simp; (try with_reducible rfl); done)); simp only [Act.put, List.setIfInBounds_toArray, List.set_cons_zero, List.set_cons_succ])))
          have hB6 := below_go (below_one w7 (.cells X.toArray 22)) hB7
          refine Ord.wpT_call ?_ (fun K hK => ?_)
          focus (go_simp; done)
          refine wp_build_one elR (by decide) _ rfl X rfl HXl.out ?_
          refine hK _ _ (Hra.out _ (below_go hB6 hBX)) ?_
          clear hK K
          ((try simp only [Act.put, List.setIfInBounds_toArray, List.set_cons_zero, List.set_cons_succ]); repeat (first | (refine Ord.wpT_skip ?_ ?_; (focus (go_simp; (try (intro h; cases h)); done)); simp only [Act.put, List.setIfInBounds_toArray, List.set_cons_zero, List.set_cons_succ]) | (refine Ord.wpT_take (v := ?_) ?_ ?_ ?_; rotate_left; (focus (go_simp; done)); (focus (intro w' hSw; (try dsimp only at hSw); go_simp; (try with_reducible rfl); done)); simp only [Act.put, List.setIfInBounds_toArray, List.set_cons_zero, List.set_cons_succ])))
          have HO7 := Lib.hid (own_alloc HO6.out (.cells X.toArray 22))
          have HY7 := Lib.hid (Rd.lit w7 32 1 X 22 (by rw [HXl.out]) (by simp [maxLen]))
          clear HO6 hB7
          have hB7 := hB6
          ((try simp only [Act.put, List.setIfInBounds_toArray, List.set_cons_zero, List.set_cons_succ]); repeat (first | (refine Ord.wpT_skip ?_ ?_; (focus (go_simp; (try (intro h; cases h)); done)); simp only [Act.put, List.setIfInBounds_toArray, List.set_cons_zero, List.set_cons_succ]) | (refine Ord.wpT_take (v := ?_) ?_ ?_ ?_; rotate_left; (focus (go_simp; done)); (focus (intro w' hSw; (try dsimp only at hSw); go_simp; (try with_reducible rfl); done)); simp only [Act.put, List.setIfInBounds_toArray, List.set_cons_zero, List.set_cons_succ])))
          refine Ord.wpT_app_row elR ?_ (.tmp 28) (.tmp 30) rfl WX.heap.size v7 _ k 1 TK X rfl rfl Hone.out HO7.out HY7.out hB7.size (by omega) (fun v8 w8 ho8 hg8 hat8 => ?_)
          focus (go_simp; done)
          have hB8 := hB7.grown hg8 hB7.size (own_base HO7.out)
          refine ⟨Hra.out _ (below_go hB8 hBX), ?_⟩
          have HO8 := Lib.hid ho8
          clear ho8 hg8 hat8 HO7 HY7
          ((try simp only [Act.put, List.setIfInBounds_toArray, List.set_cons_zero, List.set_cons_succ]); repeat (first | (refine Ord.wpT_skip ?_ ?_; (focus (go_simp; (try (intro h; cases h)); done)); simp only [Act.put, List.setIfInBounds_toArray, List.set_cons_zero, List.set_cons_succ]) | (refine Ord.wpT_take (v := ?_) ?_ ?_ ?_; rotate_left; (focus (go_simp; done)); (focus (intro w' hSw; (try dsimp only at hSw); go_simp; (try with_reducible rfl); done)); simp only [Act.put, List.setIfInBounds_toArray, List.set_cons_zero, List.set_cons_succ])))
          refine Ord.wpT_app_row elR ?_ (.tmp 31) (.tmp 34) rfl WX.heap.size v8 _ (k + 1) (n - k) (TK ++ X) DK rfl rfl HDone.out HO8.out (Hd2.out _ (below_go hB8 hBX)) hB8.size (by omega) (fun v9 w9 ho9 hg9 hat9 => ?_)
          focus (go_simp; done)
          have hB9 := hB8.grown hg9 hB8.size (own_base HO8.out)
          refine ⟨Hra.out _ (below_go hB9 hBX), ?_⟩
          have HO9 := Lib.hid ho9
          clear ho9 hg9 hat9 HO8
          ((try simp only [Act.put, List.setIfInBounds_toArray, List.set_cons_zero, List.set_cons_succ]); repeat (first | (refine Ord.wpT_skip ?_ ?_; (focus (go_simp; (try (intro h; cases h)); done)); simp only [Act.put, List.setIfInBounds_toArray, List.set_cons_zero, List.set_cons_succ]) | (refine Ord.wpT_take (v := ?_) ?_ ?_ ?_; rotate_left; (focus (go_simp; done)); (focus (intro w' hSw; (try dsimp only at hSw); go_simp; (try with_reducible rfl); done)); simp only [Act.put, List.setIfInBounds_toArray, List.set_cons_zero, List.set_cons_succ])))
          refine Ord.wpT_nil ?_
          go_wp2_with fail
          all_goals
            go_ret
            refine ⟨v9, rfl, ?_, below_go (below_go hB9 hBX) hb0⟩
            have h := Rd.of_own HO9.out
            rw [Hfin.out.1, ← Hfin.out.2] at h
            exact h
        · have hBB : Below WX.heap.size WX (((WX.alloc (.cells #[] 22)).drew).alloc (.cells X.toArray 22)) := below_go (below_one _ _) (below_one _ _).drew
          refine Ord.wpT_call ?_ (fun K hK => ?_)
          focus (go_simp; done)
          refine wp_build_one elR (by decide) _ rfl X rfl HXl.out ?_
          refine hK _ _ (Hra.out _ (below_go hBB hBX)) ?_
          clear hK K
          ((try simp only [Act.put, List.setIfInBounds_toArray, List.set_cons_zero, List.set_cons_succ]); repeat (first | (refine Ord.wpT_skip ?_ ?_; (focus (go_simp; (try (intro h; cases h)); done)); simp only [Act.put, List.setIfInBounds_toArray, List.set_cons_zero, List.set_cons_succ]) | (refine Ord.wpT_take (v := ?_) ?_ ?_ ?_; rotate_left; (focus (go_simp; done)); (focus (intro w' hSw; (try dsimp only at hSw); go_simp; (try with_reducible rfl); done)); simp only [Act.put, List.setIfInBounds_toArray, List.set_cons_zero, List.set_cons_succ])))
          have HOB := Lib.hid (own_below HO4.out (below_one ((WX.alloc (.cells #[] 22)).drew) (.cells X.toArray 22)))
          have e1 : ((WX.alloc (.cells #[] 22)).drew).heap.size = WX.heap.size + 1 := alloc_size _ _
          have HYB := Lib.hid (show Rd (((WX.alloc (.cells #[] 22)).drew).alloc (.cells X.toArray 22)) 32 (.slice (some ⟨((WX.alloc (.cells #[] 22)).drew).heap.size, 0, none⟩) 1 1) 1 X from Rd.lit ((WX.alloc (.cells #[] 22)).drew) 32 1 X 22 (by rw [HXl.out]) (by simp [maxLen]))
          have E1 := Lib.hid e1
          clear e1
          clear hB4 HO4
          have hB4 := hBB
          have HO4 := HOB
          refine Ord.wpT_app_row elR ?_ (.tmp 24) (.tmp 27) rfl WX.heap.size (.slice (some ⟨WX.heap.size, 0, none⟩) 0 0) _ 0 k [] TK rfl rfl HTone.out HO4.out (Ht.out _ (below_go hB4 hBX)) hB4.size (by omega) (fun v7 w7 ho7 hg7 hat7 => ?_)
          focus (go_simp; done)
          rw [Nat.zero_add, List.nil_append] at ho7
          have hB7 := hB4.grown hg7 hB4.size (own_base HO4.out)
          refine ⟨Hra.out _ (below_go hB7 hBX), ?_⟩
          have HO7 := Lib.hid ho7
          have HY7 := Lib.hid (HYB.out.grown hg7 (fun q hq h => by have h1 : some WX.heap.size = some q := hq; have h2 : some (((WX.alloc (.cells #[] 22)).drew).heap.size) = some q := h; have h3 := E1.out; injection h1 with h1; injection h2 with h2; omega))
          clear ho7 hg7 hat7
          ((try simp only [Act.put, List.setIfInBounds_toArray, List.set_cons_zero, List.set_cons_succ]); repeat (first | (refine Ord.wpT_skip ?_ ?_; (focus (go_simp; (try (intro h; cases h)); done)); simp only [Act.put, List.setIfInBounds_toArray, List.set_cons_zero, List.set_cons_succ]) | (refine Ord.wpT_take (v := ?_) ?_ ?_ ?_; rotate_left; (focus (go_simp; done)); (focus (intro w' hSw; (try dsimp only at hSw); go_simp; (try with_reducible rfl); done)); simp only [Act.put, List.setIfInBounds_toArray, List.set_cons_zero, List.set_cons_succ])))
          refine Ord.wpT_app_row elR ?_ (.tmp 28) (.tmp 30) rfl WX.heap.size v7 _ k 1 TK X rfl rfl Hone.out HO7.out HY7.out hB7.size (by omega) (fun v8 w8 ho8 hg8 hat8 => ?_)
          focus (go_simp; done)
          have hB8 := hB7.grown hg8 hB7.size (own_base HO7.out)
          refine ⟨Hra.out _ (below_go hB8 hBX), ?_⟩
          have HO8 := Lib.hid ho8
          clear ho8 hg8 hat8 HO7 HY7
          ((try simp only [Act.put, List.setIfInBounds_toArray, List.set_cons_zero, List.set_cons_succ]); repeat (first | (refine Ord.wpT_skip ?_ ?_; (focus (go_simp; (try (intro h; cases h)); done)); simp only [Act.put, List.setIfInBounds_toArray, List.set_cons_zero, List.set_cons_succ]) | (refine Ord.wpT_take (v := ?_) ?_ ?_ ?_; rotate_left; (focus (go_simp; done)); (focus (intro w' hSw; (try dsimp only at hSw); go_simp; (try with_reducible rfl); done)); simp only [Act.put, List.setIfInBounds_toArray, List.set_cons_zero, List.set_cons_succ])))
          refine Ord.wpT_app_row elR ?_ (.tmp 31) (.tmp 34) rfl WX.heap.size v8 _ (k + 1) (n - k) (TK ++ X) DK rfl rfl HDone.out HO8.out (Hd2.out _ (below_go hB8 hBX)) hB8.size (by omega) (fun v9 w9 ho9 hg9 hat9 => ?_)
          focus (go_simp; done)
          have hB9 := hB8.grown hg9 hB8.size (own_base HO8.out)
          refine ⟨Hra.out _ (below_go hB9 hBX), ?_⟩
          have HO9 := Lib.hid ho9
          clear ho9 hg9 hat9 HO8
          ((try simp only [Act.put, List.setIfInBounds_toArray, List.set_cons_zero, List.set_cons_succ]); repeat (first | (refine Ord.wpT_skip ?_ ?_; (focus (go_simp; (try (intro h; cases h)); done)); simp only [Act.put, List.setIfInBounds_toArray, List.set_cons_zero, List.set_cons_succ]) | (refine Ord.wpT_take (v := ?_) ?_ ?_ ?_; rotate_left; (focus (go_simp; done)); (focus (intro w' hSw; (try dsimp only at hSw); go_simp; (try with_reducible rfl); done)); simp only [Act.put, List.setIfInBounds_toArray, List.set_cons_zero, List.set_cons_succ])))
          refine Ord.wpT_nil ?_
          go_wp2_with fail
          all_goals
            go_ret
            refine ⟨v9, rfl, ?_, below_go (below_go hB9 hBX) hb0⟩
            have h := Rd.of_own HO9.out
            rw [Hfin.out.1, ← Hfin.out.2] at h
            exact h
      · have hB3 : Below WX.heap.size WX ((WX.drew).alloc (.cells X.toArray 22)) := below_go (below_one _ _) (Below.refl _ _).drew
        refine Ord.wpT_call ?_ (fun K hK => ?_)
        focus (go_simp; done)
        refine wp_build_one elR (by decide) _ rfl X rfl HXl.out ?_
        refine hK _ _ (Hra.out _ (below_go hB3 hBX)) ?_
        clear hK K
        ((try simp only [Act.put, List.setIfInBounds_toArray, List.set_cons_zero, List.set_cons_succ]); repeat (first | (refine Ord.wpT_skip ?_ ?_; (focus (go_simp; (try (intro h; cases h)); done)); simp only [Act.put, List.setIfInBounds_toArray, List.set_cons_zero, List.set_cons_succ]) | (refine Ord.wpT_take (v := ?_) ?_ ?_ ?_; rotate_left; (focus (go_simp; done)); (focus (intro w' hSw; (try dsimp only at hSw); go_simp; (try with_reducible rfl); done)); simp only [Act.put, List.setIfInBounds_toArray, List.set_cons_zero, List.set_cons_succ])))
        (refine Ord.wpT_call ?_ (fun K hK => ?_); (focus (go_simp; done)); go_simp)
        have hB4 : Below WX.heap.size WX (((WX.drew).alloc (.cells X.toArray 22)).alloc (.cells #[] 22)) := below_go (below_one _ _) hB3
        (refine hK _ _ (by exact Hra.out _ (below_go hB4 hBX)) ?_; clear hK K; (try simp only [Act.put, List.setIfInBounds_toArray, List.set_cons_zero, List.set_cons_succ]); repeat (first | (refine Ord.wpT_skip ?_ ?_; (focus (go_simp; (try (intro h; cases h)); done)); simp only [Act.put, List.setIfInBounds_toArray, List.set_cons_zero, List.set_cons_succ]) | (refine Ord.wpT_take (v := ?_) ?_ ?_ ?_; rotate_left; (focus (go_simp; done)); (focus (intro w' hSw; (try dsimp only at hSw); go_simp; (try with_reducible rfl); done)); simp only [Act.put, List.setIfInBounds_toArray, List.set_cons_zero, List.set_cons_succ])))
        have e1 : ((WX.drew).alloc (.cells X.toArray 22)).heap.size = WX.heap.size + 1 := alloc_size _ _
        have HO4 := Lib.hid (show (((WX.drew).alloc (.cells X.toArray 22)).alloc (.cells #[] 22)).ownsRow WX.heap.size 22 32 (.slice (some ⟨WX.heap.size + 1, 0, none⟩) 0 0) 0 [] from by
          have h := own_empty ((WX.drew).alloc (.cells X.toArray 22)) WX.heap.size 22 32 hB3.size
          rw [e1] at h; exact h)
        clear e1
        have HYB := Lib.hid (show Rd (((WX.drew).alloc (.cells X.toArray 22)).alloc (.cells #[] 22)) 32 (.slice (some ⟨WX.heap.size, 0, none⟩) 1 1) 1 X from (Rd.lit WX.drew 32 1 X 22 (by rw [HXl.out]) (by simp [maxLen])).below (below_one _ _))
        refine Ord.wpT_app_row elR ?_ (.tmp 24) (.tmp 27) rfl WX.heap.size (.slice (some ⟨WX.heap.size + 1, 0, none⟩) 0 0) _ 0 k [] TK rfl rfl HTone.out HO4.out (Ht.out _ (below_go hB4 hBX)) hB4.size (by omega) (fun v7 w7 ho7 hg7 hat7 => ?_)
        focus (go_simp; done)
        rw [Nat.zero_add, List.nil_append] at ho7
        have hB7 := hB4.grown hg7 hB4.size (own_base HO4.out)
        refine ⟨Hra.out _ (below_go hB7 hBX), ?_⟩
        have HO7 := Lib.hid ho7
        have HY7 := Lib.hid (HYB.out.grown hg7 (fun q hq h => by have h1 : some (WX.heap.size + 1) = some q := hq; have h2 : some WX.heap.size = some q := h; injection h1 with h1; injection h2 with h2; omega))
        clear ho7 hg7 hat7
        ((try simp only [Act.put, List.setIfInBounds_toArray, List.set_cons_zero, List.set_cons_succ]); repeat (first | (refine Ord.wpT_skip ?_ ?_; (focus (go_simp; (try (intro h; cases h)); done)); simp only [Act.put, List.setIfInBounds_toArray, List.set_cons_zero, List.set_cons_succ]) | (refine Ord.wpT_take (v := ?_) ?_ ?_ ?_; rotate_left; (focus (go_simp; done)); (focus (intro w' hSw; (try dsimp only at hSw); go_simp; (try with_reducible rfl); done)); simp only [Act.put, List.setIfInBounds_toArray, List.set_cons_zero, List.set_cons_succ])))
        refine Ord.wpT_app_row elR ?_ (.tmp 28) (.tmp 30) rfl WX.heap.size v7 _ k 1 TK X rfl rfl Hone.out HO7.out HY7.out hB7.size (by omega) (fun v8 w8 ho8 hg8 hat8 => ?_)
        focus (go_simp; done)
        have hB8 := hB7.grown hg8 hB7.size (own_base HO7.out)
        refine ⟨Hra.out _ (below_go hB8 hBX), ?_⟩
        have HO8 := Lib.hid ho8
        clear ho8 hg8 hat8 HO7 HY7
        ((try simp only [Act.put, List.setIfInBounds_toArray, List.set_cons_zero, List.set_cons_succ]); repeat (first | (refine Ord.wpT_skip ?_ ?_; (focus (go_simp; (try (intro h; cases h)); done)); simp only [Act.put, List.setIfInBounds_toArray, List.set_cons_zero, List.set_cons_succ]) | (refine Ord.wpT_take (v := ?_) ?_ ?_ ?_; rotate_left; (focus (go_simp; done)); (focus (intro w' hSw; (try dsimp only at hSw); go_simp; (try with_reducible rfl); done)); simp only [Act.put, List.setIfInBounds_toArray, List.set_cons_zero, List.set_cons_succ])))
        refine Ord.wpT_app_row elR ?_ (.tmp 31) (.tmp 34) rfl WX.heap.size v8 _ (k + 1) (n - k) (TK ++ X) DK rfl rfl HDone.out HO8.out (Hd2.out _ (below_go hB8 hBX)) hB8.size (by omega) (fun v9 w9 ho9 hg9 hat9 => ?_)
        focus (go_simp; done)
        have hB9 := hB8.grown hg9 hB8.size (own_base HO8.out)
        refine ⟨Hra.out _ (below_go hB9 hBX), ?_⟩
        have HO9 := Lib.hid ho9
        clear ho9 hg9 hat9 HO8
        ((try simp only [Act.put, List.setIfInBounds_toArray, List.set_cons_zero, List.set_cons_succ]); repeat (first | (refine Ord.wpT_skip ?_ ?_; (focus (go_simp; (try (intro h; cases h)); done)); simp only [Act.put, List.setIfInBounds_toArray, List.set_cons_zero, List.set_cons_succ]) | (refine Ord.wpT_take (v := ?_) ?_ ?_ ?_; rotate_left; (focus (go_simp; done)); (focus (intro w' hSw; (try dsimp only at hSw); go_simp; (try with_reducible rfl); done)); simp only [Act.put, List.setIfInBounds_toArray, List.set_cons_zero, List.set_cons_succ])))
        refine Ord.wpT_nil ?_
        go_wp2_with fail
        all_goals
          go_ret
          refine ⟨v9, rfl, ?_, below_go (below_go hB9 hBX) hb0⟩
          have h := Rd.of_own HO9.out
          rw [Hfin.out.1, ← Hfin.out.2] at h
          exact h
end Go.Proofs.Ytpldkplfdbjidaa.Ids
