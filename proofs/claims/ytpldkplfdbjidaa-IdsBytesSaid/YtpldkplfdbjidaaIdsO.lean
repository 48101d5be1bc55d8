/- Ids' walks: sums sorted; a set of any ids. -/
import Derived.Test.YtpldkplfdbjidaaIdsD
import Derived.Test.YtpldkplfdbjidaaIdsP
import Derived.Test.YtpldkplfdbjidaaShelfS
set_option linter.unusedVariables false
set_option linter.unusedSimpArgs false
namespace Go.Proofs.Ytpldkplfdbjidaa.Ids
open Go.RowKit Go.Proofs.Ytpldkplfdbjidaa.Wd Go.Proofs.Ytpldkplfdbjidaa.Use Go.Proofs.Ytpldkplfdbjidaa.Lay
open Go.Op (bytesLess)
open Go.Proofs.Ytpldkplfdbjidaa.Leaf (lt_trans lt_irr lt_tri lt_asym)
open Go.Sort (grow putRowK HoldsK flatK SWO)

instance : Inhabited I32 := ⟨⟨List.replicate 32 0, rfl⟩⟩
def encI (x : I32) : List Value := bs x.1
def cfI (x y : I32) : Int := Lib.compareBytes x.1 y.1
theorem ltI (x y : I32) : ltOf cfI x y = lt x.1 y.1 := cmp_lt x.1 y.1
theorem encI_len (x : I32) : (encI x).length = 32 := by rw [encI, bs_length, x.2]
theorem swoI : SWO (ltOf cfI) where
  irrefl x := by rw [ltI]; exact lt_irr _
  trans x y z h1 h2 := by rw [ltI] at *; exact lt_trans h1 h2
  ntrans x y z h1 h2 := by
    rw [ltI] at *
    cases h3 : lt x.1 z.1 with
    | false => rfl
    | true =>
      cases h4 : lt y.1 x.1 with
      | true => exact absurd ((lt_trans h4 h3).symm.trans h2) (by decide)
      | false => have e := lt_tri h1 h4; rw [e] at h3; exact absurd (h3.symm.trans h2) (by decide)
set_option maxRecDepth 100000 in
set_option maxHeartbeats 1000000 in
theorem compare_grow (a b : Id) (ha : a.length = 32) (hb : b.length = 32) (w : World) :
    Calls Try.prog 65 #[.agg (bs a).toArray, .agg (bs b).toArray] w fun e w' => e = .returned (.int .i64 (Lib.compareBytes a b)) ∧ ∃ q os, w' = grow (w.drewN q) os := by
  have hc := fun v1 v2 W h1 h2 => bytesCompare_any v1 v2 a b W h1 h2
  obtain ⟨A, hA⟩ : ∃ A, A = bs a := ⟨_, rfl⟩
  obtain ⟨B, hB⟩ : ∃ B, B = bs b := ⟨_, rfl⟩
  obtain ⟨n, hn⟩ : ∃ n, n = Lib.compareBytes a b := ⟨_, rfl⟩
  rw [← hn] at hc ⊢
  rw [← hA, ← hB]
  have h1 := rd_blk32 (W := ((w.alloc (.cells A.toArray 23)).alloc (.cells B.toArray 23)).drew) (g := w.heap.size) (l := a) (t := 23) (by rw [← hA]; exact blk_alloc (heap_alloc_new _ _) _) ha
  have h2 := rd_blk32 (W := ((w.alloc (.cells A.toArray 23)).alloc (.cells B.toArray 23)).drew) (g := w.heap.size + 1) (l := b) (t := 23) (by rw [← hB]; exact alloc_at _ _ _) hb
  have Hc := Lib.hid (hc _ _ _ h1 h2)
  clear hc h1 h2 ha hb hn hA hB
  go_enter Try.func65, Try.ntmps65
  go_wp2_with fail
  (refine Ord.wp_region_ord [(false, 0), (false, 1), (true, 2), (false, 3)] (fun W => W = ((w.alloc (.cells A.toArray 23)).alloc (.cells B.toArray 23)).drew) (by kernel_rfl) (by kernel_rfl) (by kernel_rfl) (by kernel_rfl) (by rfl) ?_; simp only [Ord.ordOps, List.filterMap_cons, List.filterMap_nil, List.getElem?_toArray, List.getElem?_cons_succ, List.getElem?_cons_zero, Option.map_some]; repeat (first | (refine Ord.wpOrd_skip ?_ ?_; (focus (go_simp; (try (intro h; cases h)); done)); simp only [Act.put, List.setIfInBounds_toArray, List.set_cons_zero, List.set_cons_succ]) | (refine Ord.wpOrd_take (v := ?_) ?_ ?_ ?_; rotate_left; (focus (go_simp; done)); (focus (intro w' hSw; (try dsimp only at hSw); go_simp; (try with_reducible rfl); done)); simp only [Act.put, List.setIfInBounds_toArray, List.set_cons_zero, List.set_cons_succ])))
  (refine Ord.wpOrd_call ?_ (fun K hK => ?_); (focus (go_simp; done)); go_simp)
  go_at_call 114
  refine Hc.out.mono ?_
  rintro e w' ⟨rfl, rfl⟩
  (refine hK _ _ (rfl) ?_; clear hK K; (try simp only [Act.put, List.setIfInBounds_toArray, List.set_cons_zero, List.set_cons_succ]); repeat (first | (refine Ord.wpOrd_skip ?_ ?_; (focus (go_simp; (try (intro h; cases h)); done)); simp only [Act.put, List.setIfInBounds_toArray, List.set_cons_zero, List.set_cons_succ]) | (refine Ord.wpOrd_take (v := ?_) ?_ ?_ ?_; rotate_left; (focus (go_simp; done)); (focus (intro w' hSw; (try dsimp only at hSw); go_simp; (try with_reducible rfl); done)); simp only [Act.put, List.setIfInBounds_toArray, List.set_cons_zero, List.set_cons_succ])))
  refine Ord.wpOrd_nil ?_
  go_wp2_with fail
  go_ret
  exact ⟨rfl, 1, _, by rw [Sort.alloc_eq_grow, Sort.alloc_eq_grow, Sort.grow_grow]; rfl⟩
/-- the row as the sort's own words have it -/
theorem holds_ids {W : World} {g : Nat} {e : TypeId} {cur : List Value} {zs : List I32} (hg : W.heap[g]? = some (.cells cur.toArray e (0, 0))) (hc : cur.take (zs.length * 32) = ix (vals zs)) : HoldsK encI 32 W g 0 zs.toArray := by
  intro j hj
  rw [Sort.size_flatK, List.size_toArray] at hj
  rw [Nat.zero_add, blk_cell hg, Sort.get_flatK _ _ _ _ (by rw [List.size_toArray]; exact hj)]
  refine ⟨?_, blk_frozen hg _⟩
  have hd : j / 32 < zs.length := by omega
  have hr : j % 32 < 32 := Nat.mod_lt _ (by omega)
  have h1 : cur[j]? = (ix (vals zs))[j / 32 * 32 + j % 32]? := by
    rw [← hc, List.getElem?_take, if_pos (by omega), Nat.div_add_mod']
  simp only [List.getElem?_toArray]
  rw [h1, ix_get (vals_w zs) _ _ (by rw [vals_len]; exact hd) hr]
  have h2 : (vals zs).getD (j / 32) [] = (zs[j / 32]'hd).1 := by
    rw [getD_at (by rw [vals_len]; exact hd)]; simp [vals]
  have h3 : zs.toArray[j / 32]! = zs[j / 32]'hd := by rw [getElem!_pos _ _ (by simpa using hd)]; simp
  rw [h2, h3]
  have h4 : (encI (zs[j / 32]'hd)).length = 32 := encI_len _
  show (encI (zs[j / 32]'hd))[j % 32]? = some (id ((encI (zs[j / 32]'hd))[j % 32]!))
  rw [getElem!_pos _ _ (by rw [h4]; exact hr), List.getElem?_eq_getElem (by rw [h4]; exact hr)]
  rfl
theorem heap_sort {W : World} {g : Nat} {e : TypeId} {cur : List Value} {zs : Array I32} {n : Nat} {os : Array Obj} (hg : W.heap[g]? = some (.cells cur.toArray e (0, 0))) (hl : zs.size * 32 ≤ cur.length) :
    ∃ cur' : List Value, (sortWorldK encI 32 W g 0 n zs os).heap[g]? = some (.cells cur'.toArray e (0, 0)) ∧ cur'.length = cur.length ∧ cur'.take (zs.size * 32) = ix (vals zs.toList) := by
  have hgl := blk_lt hg
  refine ⟨(Sort.putCells id 0 (flatK encI 32 zs) cur.toArray).toList, ?_, by simp [Sort.putCells], ?_⟩
  · have h1 : (sortWorldK encI 32 W g 0 n zs os).heap[g]? = (Sort.putRow id (Sort.ahead W n) g 0 (flatK encI 32 zs)).heap[g]? :=
      Sort.heap_grow_old _ _ (by show g < (W.heap.modify _ _).size; simpa using hgl)
    rw [h1]
    show (W.heap.modify g (Sort.onCells _))[g]? = _
    rw [Array.getElem?_modify, if_pos rfl, hg]
    simp [Sort.onCells]
  · apply List.ext_getElem?
    intro j
    have hz : (vals zs.toList).length = zs.size := by rw [vals_len]; simp
    rw [List.getElem?_take]
    by_cases hj : j < zs.size * 32
    · rw [if_pos hj]
      have hd : j / 32 < zs.size := by omega
      have hr : j % 32 < 32 := Nat.mod_lt _ (by omega)
      have h0 : (ix (vals zs.toList))[j]? = (ix (vals zs.toList))[j / 32 * 32 + j % 32]? := by rw [Nat.div_add_mod']
      rw [h0, ix_get (vals_w _) _ _ (by rw [hz]; exact hd) hr]
      have h2 : (vals zs.toList).getD (j / 32) [] = (zs[j / 32]'hd).1 := by
        rw [getD_at (by rw [hz]; exact hd)]; simp [vals]
      have h3 : zs[j / 32]! = zs[j / 32]'hd := getElem!_pos zs _ hd
      rw [h2]
      have hjc : j < cur.length := by omega
      have h4 : (encI (zs[j / 32]'hd)).length = 32 := encI_len _
      show _ = (encI (zs[j / 32]'hd))[j % 32]?
      have h6 : (encI (zs[j / 32]'hd))[j % 32]? = some ((encI (zs[j / 32]'hd))[j % 32]!) := by
        rw [getElem!_pos (encI (zs[j / 32]'hd)) _ (by rw [h4]; exact hr), List.getElem?_eq_getElem]
      rw [h6]
      have h5 : (flatK encI 32 zs)[j]! = (encI (zs[j / 32]'hd))[j % 32]! := by rw [Sort.get_flatK _ _ _ _ hj, h3]
      simp only [Sort.putCells, Array.getElem?_toList, Array.getElem?_mapIdx, List.getElem?_toArray, List.getElem?_eq_getElem hjc, Option.map_some, Nat.zero_le, true_and, Nat.zero_add, Sort.size_flatK, if_pos hj, Nat.sub_zero, id, h5]
    · rw [if_neg hj, List.getElem?_eq_none]
      rw [ix_len (vals_w _), hz]; omega
theorem grown_sort {W : World} {g : Nat} {zs : Array I32} {n : Nat} {os : Array Obj} (hg : g < W.heap.size) : W.grownBy (sortWorldK encI 32 W g 0 n zs os) (some g) := by
  refine ⟨rfl, rfl, rfl, ?_, fun k hk hne => ?_⟩
  · show W.heap.size ≤ ((W.heap.modify _ _) ++ os).size
    simp
  · have h1 : (sortWorldK encI 32 W g 0 n zs os).heap[k]? = (Sort.putRow id (Sort.ahead W n) g 0 (flatK encI 32 zs)).heap[k]? :=
      Sort.heap_grow_old _ _ (by show k < (W.heap.modify _ _).size; simpa using hk)
    rw [h1]
    show (W.heap.modify g (Sort.onCells _))[k]? = _
    rw [Array.getElem?_modify, if_neg (fun e => hne (by rw [e]))]
set_option maxRecDepth 100000 in
set_option maxHeartbeats 2000000 in
theorem Sort_any (l : List Id) (h32 : W32 l) (hlen : l.length ≤ 1000000) (v : Value) (w : World) (base : Nat) (ho : w.ownsRow base 23 32 v l.length (ix l)) :
    Calls Try.prog 68 #[v, .func (.func 65) #[] #[]] w fun e w' => e = .returned (.tuple #[]) ∧ ∃ m, W32 m ∧ m.length = l.length ∧ (∀ x, x ∈ m ↔ x ∈ l) ∧ Row m ∧ w'.ownsRow base 23 32 v m.length (ix m) ∧ w.grownBy w' v.ownBlock := by
  rcases Nat.eq_zero_or_pos l.length with h0 | h0
  · obtain rfl : l = [] := List.eq_nil_of_length_eq_zero h0
    obtain ⟨A, c, rfl, -, -, -⟩ := (Rd.of_own ho).slice_
    have h := AnyF.slices_SortFunc_none Try.laysSortSum A c (.func (.func 65) #[] #[]) w
    change Calls Try.prog 68 _ _ _ at h
    refine h.mono ?_
    rintro e w' ⟨rfl, rfl⟩
    exact ⟨rfl, [], W32.nil, rfl, fun x => Iff.rfl, List.Pairwise.nil, ho, World.grownBy.refl _ _⟩
  · obtain ⟨g, cap, cur, rfl, hbg, hg, hnc, hcm, hcl, hct⟩ := Ord.own_open ho h0
    obtain ⟨zs, rfl⟩ := vals_of h32
    rw [vals_len] at *
    have eg : ∀ args w, (callFunc 65 args).run Try.prog w = .ok (.enter 65 args) w := enters_of Try.func65 (by kernel_rfl) rfl
    have hcmp : CmpLays Try.prog 65 #[] encI 32 cfI g 0 zs.toArray.size w := fun m os dk _ x y => compare_grow x.1 y.1 x.2 y.2 _
    have hcon := AnyQ.slices_SortFunc Try.laysSortSum 32 Try.isAgg23 Try.sizeOf23 encI encI_len (fun x v hv => bs_oneCell _ v hv) cfI swoI 65 #[] g 0 cap zs.toArray w eg hcmp (holds_ids hg hct) (blk_lt hg) (by rw [List.size_toArray]; omega)
    change Calls Try.prog 68 _ _ _ at hcon
    rw [List.size_toArray] at hcon
    refine hcon.mono ?_
    rintro e w' ⟨rfl, d', n, os, ⟨hp1, -, hp3⟩, hs, rfl⟩
    have hp1 : d'.size = zs.length := by simpa using hp1
    obtain ⟨cur', h1, h2, h3⟩ := heap_sort (n := n) (os := os) (zs := d') hg (by rw [hp1, hcl]; omega)
    have hper : d'.toList.Perm zs := by
      have e1 : d'.extract 0 zs.length = d' := by rw [← hp1]; simp
      have e2 : zs.toArray.extract 0 zs.length = zs.toArray := by simp
      rw [e1, e2] at hp3
      simpa using hp3
    refine ⟨rfl, vals d'.toList, vals_w _, by rw [vals_len]; simpa using hp1, fun x => ?_, ?_, ?_, ?_⟩
    · exact (hper.map Subtype.val).mem_iff
    · rw [Row, vals, List.pairwise_map, List.pairwise_iff_getElem]
      intro i j hi hj hij
      have hi' : i < d'.size := by simpa using hi
      have hj' : j < d'.size := by simpa using hj
      have h := hs i j (Nat.zero_le _) hij (by rw [← hp1]; exact hj')
      rw [getElem!_pos d' i hi', getElem!_pos d' j hj', ltI] at h
      simpa using h
    · rw [vals_len, show d'.toList.length = zs.length by simpa using hp1]
      exact Ord.own_shut hbg h1 hnc hcm (by rw [h2, hcl]) (by rw [← hp1]; exact h3)
    · exact grown_sort (blk_lt hg)
set_option maxRecDepth 100000 in
set_option maxHeartbeats 2000000 in
theorem Of_any (l : List Id) (h32 : W32 l) (hlen : l.length ≤ 1000000) (v : Value) (w : World) (hv : Rd w 32 v l.length (ix l)) :
    Calls Try.prog 19 #[v] w fun e w' => ∃ v', e = .returned v' ∧ w'.ownsRow w.heap.size 23 32 v' (rof l).length (ix (rof l)) ∧ Below w.heap.size w w' := by
  have Hcl := Lib.hid (CloneL_any l v w hv hlen)
  have Hso := Lib.hid (fun v W ho => Sort_any l h32 hlen v W w.heap.size ho)
  have Hco := Lib.hid (fun m hm v W ho => Compact_any m hm v W w.heap.size ho)
  have Hof := Lib.hid (fun m hm h => @of_one l m hm h)
  clear hv
  go_enter Try.func19, Try.ntmps19
  go_wp2_with (first
    | (go_at_call 67; refine Hcl.out.mono ?_; rintro e w1 ⟨v1, rfl, ho1, hb1⟩; have Ho1 := Lib.hid ho1; clear ho1)
    | (go_at_call 68; refine (Hso.out _ _ Ho1.out).mono ?_; rintro e w2 ⟨rfl, m, hm32, hml, hmm, hmr, ho2, hg2⟩; have Ho2 := Lib.hid ho2; have Hg2 := Lib.hid hg2; have He := Lib.hid (Hof.out m hmr hmm); clear ho2 hg2 hmr hmm hml)
    | (go_at_call 69; refine (Hco.out m hm32 _ _ Ho2.out).mono ?_; rintro e w3 ⟨v3, rfl, ho3, hg3⟩))
  rw [He.out] at ho3
  go_ret
  exact ⟨_, rfl, ho3, (hb1.grown Hg2.out hb1.size (fun k hk => own_base Ho1.out k hk)).grown hg3 (Nat.le_trans hb1.size Hg2.out.size) (fun k hk => own_base Ho2.out k hk)⟩
end Go.Proofs.Ytpldkplfdbjidaa.Ids
