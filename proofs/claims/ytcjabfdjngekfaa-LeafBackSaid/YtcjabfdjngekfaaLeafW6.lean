/- Leaves' walks: the reference's Bytes and Same; the law's Own. -/
import Derived.Test.YtcjabfdjngekfaaLeafW4
set_option linter.unusedVariables false
set_option linter.unusedSimpArgs false
namespace Go.Proofs.Ytcjabfdjngekfaa.Leaf
open Go.RowKit Go.Proofs.Ytcjabfdjngekfaa.Wd Go.Proofs.Ytcjabfdjngekfaa.Use Go.Proofs.Ytcjabfdjngekfaa.Lay
open Go.Proofs.Ytcjabfdjngekfaa.Rel (env_cells)

theorem elRef : El Try.prog 25 87 (.agg #[.string ⟨#[]⟩, .int .i64 0, .int .i64 0]) 3 32 := ⟨Try.underlying25, by kernel_rfl, rfl, by decide, by decide⟩
theorem ls_append (l m : List L) : ls (l ++ m) = ls l ++ ls m := by simp [ls]
theorem ls_one (l : List L) : ∀ u ∈ ls l, u.oneCell' = true := by
  intro u hu
  simp only [ls, List.mem_flatMap] at hu
  obtain ⟨e, -, he⟩ := hu
  simp only [L.cs, List.mem_cons, List.not_mem_nil, or_false] at he
  rcases he with rfl | rfl | rfl <;> rfl
set_option maxRecDepth 100000 in
set_option maxHeartbeats 4000000 in
theorem Own_any (l : List L) (v : Value) (w : World) (hv : Rd w 3 v l.length (ls l)) (hn : l.length ≤ 1000000) :
    Calls Try.prog 16 #[v] w fun r w' => ∃ v', r = .returned v' ∧ w'.ownsRow w.heap.size 87 3 v' l.length (ls l) ∧ Below w.heap.size w w' := by
  obtain ⟨A, c, rfl, hc1, hc2, -⟩ := hv.slice_
  unfold maxLen at hc2
  have Hv := Lib.hid hv
  clear hv
  go_enter Try.func16, Try.ntmps16
  go_wp2_with fail
  go_loopw [3, 4] (fun v i wr => ∃ k : Nat, k ≤ l.length ∧ i = .int .i64 (k : Int) ∧ Hid (wr.ownsRow w.heap.size 87 3 v k (ls (l.take k))) ∧ Below w.heap.size w wr) (fun _ i _ => l.length - (intOf i).toNat)
  case atStart => exact ⟨0, Nat.zero_le _, rfl, Lib.hid (own_nil _ _ _ _), Below.refl _ _⟩
  case round =>
    obtain ⟨k, hkl, rfl, Ho, hB⟩ := hrel
    by_cases hkn : k < l.length
    rotate_left
    · obtain rfl : k = l.length := by omega
      have hd1 : decide ((l.length : Int) < (l.length : Int)) = false := decide_eq_false (by omega)
      go_wp2_with fail
      go_ret
      have h := Ho.out
      rw [List.take_of_length_le (Nat.le_refl _)] at h
      exact ⟨_, rfl, h, hB⟩
    obtain ⟨b, off, rfl, hcell⟩ := ents_at Hv.out rfl (by omega)
    obtain ⟨c0, c1, c2⟩ := hcell k hkn
    have Hts := Lib.hid (take_succ l k hkn)
    generalize l.getD k L.zero = e at c0 c1 c2 Hts
    obtain ⟨key, first, len⟩ := e
    simp only at c0 c1 c2
    have Hcw := Lib.hid (fun W (h : Below w.heap.size w W) => (show W.cell? ⟨b, off + k * 3, none⟩ = some (.string (str key)) ∧ W.cell? ⟨b, off + k * 3 + 1, none⟩ = some (.int .i64 first) ∧ W.cell? ⟨b, off + k * 3 + 2, none⟩ = some (.int .i64 len) from ⟨cell_below h c0, cell_below h c1, cell_below h c2⟩))
    clear hcell c0 c1 c2
    have hd1 : decide ((k : Int) < (l.length : Int)) = true := decide_eq_true (by omega)
    have hj2 : (k : Int) < (l.length : Int) := by omega
    have hj0 : (0 : Int) ≤ (k : Int) := by omega
    go_upto_region 5 with fail
    (refine Ord.wp_region_ord [(false, 0), (false, 1), (false, 2), (false, 3), (false, 4), (false, 5), (false, 6), (false, 7), (false, 8), (false, 9), (false, 10), (false, 11), (false, 12), (false, 13), (false, 14), (false, 15), (false, 16), (true, 17), (true, 18), (false, 19)] (fun W => W.cell? ⟨b, off + k * 3, none⟩ = some (.string (str key)) ∧ W.cell? ⟨b, off + k * 3 + 1, none⟩ = some (.int .i64 first) ∧ W.cell? ⟨b, off + k * 3 + 2, none⟩ = some (.int .i64 len)) (by kernel_rfl) (by kernel_rfl) (by kernel_rfl) (by kernel_rfl) (by exact Hcw.out _ hB.drew) ?_; simp only [Ord.ordOps, List.filterMap_cons, List.filterMap_nil, List.getElem?_toArray, List.getElem?_cons_succ, List.getElem?_cons_zero, Option.map_some]; repeat (first | (refine Ord.wpOrd_skip ?_ ?_; (focus (go_simp; (try (intro h; cases h)); done)); simp only [Act.put, List.setIfInBounds_toArray, List.set_cons_zero, List.set_cons_succ]) | (refine Ord.wpOrd_take (v := ?_) ?_ ?_ ?_; rotate_left; (focus (go_simp; done)); (focus (intro w' hSw; (try dsimp only at hSw); go_simp; (try with_reducible rfl); done)); simp only [Act.put, List.setIfInBounds_toArray, List.set_cons_zero, List.set_cons_succ])))
    (refine Ord.wpOrd_call ?_ (fun K hK => ?_); (focus (go_simp; done)); go_simp)
    have hBd : Below wr.heap.size wr (wr.alloc (.cells #[.string (str key), .int .i64 first, .int .i64 len] 87)).drew := (below_one _ _).drew
    (refine hK _ _ (by exact Hcw.out _ (below_go hBd hB)) ?_; clear hK K; (try simp only [Act.put, List.setIfInBounds_toArray, List.set_cons_zero, List.set_cons_succ]); repeat (first | (refine Ord.wpOrd_skip ?_ ?_; (focus (go_simp; (try (intro h; cases h)); done)); simp only [Act.put, List.setIfInBounds_toArray, List.set_cons_zero, List.set_cons_succ]) | (refine Ord.wpOrd_take (v := ?_) ?_ ?_ ?_; rotate_left; (focus (go_simp; done)); (focus (intro w' hSw; (try dsimp only at hSw); go_simp; (try with_reducible rfl); done)); simp only [Act.put, List.setIfInBounds_toArray, List.set_cons_zero, List.set_cons_succ])))
    have hRl := Rd.lit wr 3 1 (ls [⟨key, first, len⟩]) 87 rfl (by simp [maxLen])
    have hB1 := below_go hBd hB
    refine Ord.wpOrd_app_row elRef ?_ (.tmp 11) (.tmp 28) rfl w.heap.size u3 _ k 1 (ls (l.take k)) (ls [⟨key, first, len⟩]) rfl rfl (ls_one _) (own_below Ho.out hBd) hRl hB1.size (by omega) (fun v1 w1 ho1 hg1 hat1 => ?_)
    · go_simp
    have hB2 := hB1.grown hg1 hB1.size (own_base Ho.out)
    rw [← ls_append, ← Hts.out] at ho1
    refine ⟨Hcw.out _ hB2, ?_⟩
    have Ho1 := Lib.hid ho1
    clear ho1 hg1 hat1 hRl
    ((try simp only [Act.put, List.setIfInBounds_toArray, List.set_cons_zero, List.set_cons_succ]); repeat (first | (refine Ord.wpOrd_skip ?_ ?_; (focus (go_simp; (try (intro h; cases h)); done)); simp only [Act.put, List.setIfInBounds_toArray, List.set_cons_zero, List.set_cons_succ]) | (refine Ord.wpOrd_take (v := ?_) ?_ ?_ ?_; rotate_left; (focus (go_simp; done)); (focus (intro w' hSw; (try dsimp only at hSw); go_simp; (try with_reducible rfl); done)); simp only [Act.put, List.setIfInBounds_toArray, List.set_cons_zero, List.set_cons_succ])))
    refine Ord.wpOrd_nil ?_
    go_wp2_with fail
    exact ⟨⟨k + 1, by omega, by go_num, Ho1, hB2⟩, by simp only [intOf]; omega⟩
/-- numbers that fit two bytes -/
def Fit (e : L) : Prop := (0 ≤ e.first ∧ e.first < 65536) ∧ 0 ≤ e.len ∧ e.len < 65536
theorem ofNat_mod (n : Nat) : UInt8.ofNat ((n : Int) % 256).toNat = UInt8.ofNat n := by
  apply UInt8.toNat_inj.1
  rw [UInt8.toNat_ofNat', UInt8.toNat_ofNat']; omega
theorem ofNat_mod' (n : Nat) : UInt8.ofNat (n % 256) = UInt8.ofNat n := by
  apply UInt8.toNat_inj.1
  rw [UInt8.toNat_ofNat', UInt8.toNat_ofNat']; omega
theorem ofNat_div (a : Nat) (h : a < 65536) : UInt8.ofNat ((a : Int) / 256).toNat = UInt8.ofNat (a / 256) := by
  congr 1
set_option maxRecDepth 100000 in
set_option maxHeartbeats 4000000 in
theorem Bytes_any (l : List L) (v : Value) (w : World) (hv : Rd w 3 v l.length (ls l)) (hn : l.length ≤ 1000000) (hk : ∀ k, k < l.length → (l.getD k L.zero).key.length ≤ 1000 ∧ Fit (l.getD k L.zero)) (hs : (put l).length ≤ 1000000) :
    Calls Try.prog 22 #[v] w fun r w' => r = .returned (.string (str (put l))) ∧ Below w.heap.size w w' := by
  obtain ⟨A, c, rfl, hc1, hc2, -⟩ := hv.slice_
  unfold maxLen at hc2
  have ks := fun (y : Int) (W : World) => conv_lit1 (P := Try.prog) (dst := 9) Try.underlying23 Try.underlying5 Try.underlying9 y W
  have k4 := fun (y1 y2 y3 y4 : Int) (W : World) => conv_lit4 (P := Try.prog) (dst := 9) Try.underlying23 Try.underlying5 Try.underlying9 y1 y2 y3 y4 W
  have ks2 := fun (y : Int) (W : World) (X : Obj) => by have h := ks y (W.alloc X); rw [alloc_size] at h; exact h
  have k42 := fun (y1 y2 y3 y4 : Int) (W : World) (X Y : Obj) => by have h := k4 y1 y2 y3 y4 ((W.alloc X).alloc Y); rw [alloc_size, alloc_size] at h; exact h
  have Hv := Lib.hid hv
  have Hk := Lib.hid hk
  have Hpt := Lib.hid (fun k => Nat.le_trans (putTo_le l k) hs)
  have Hall := Lib.hid (putTo_all l)
  clear hv hk
  go_enter Try.func22, Try.ntmps22
  go_wp2_with fail
  go_loopw [3, 4] (fun s i wr => ∃ k : Nat, k ≤ l.length ∧ i = .int .i64 (k : Int) ∧ s = .string (str (putTo l k)) ∧ Below w.heap.size w wr) (fun _ i _ => l.length - (intOf i).toNat)
  case atStart => exact ⟨0, Nat.zero_le _, rfl, by rw [ofNat_mod']; rfl, below_one _ _⟩
  case round =>
    obtain ⟨k, hkl, rfl, rfl, hB⟩ := hrel
    have hpl := Hpt.out k
    by_cases hkn : k < l.length
    rotate_left
    · obtain rfl : k = l.length := by omega
      have hd1 : decide ((l.length : Int) < (l.length : Int)) = false := decide_eq_false (by omega)
      rw [Hall.out] at hpl ⊢
      go_wp2_with fail
      go_ret
      exact ⟨rfl, hB⟩
    obtain ⟨b, off, rfl, hcell⟩ := ents_at (Hv.out.below hB) rfl (by omega)
    obtain ⟨c0, c1, c2⟩ := hcell k hkn
    have hke := Hk.out k hkn
    have Hsu := Lib.hid (putTo_succ l k hkn)
    have hp2 := Hpt.out (k + 1)
    generalize hX : putTo l (k + 1) = X at Hsu hp2
    generalize putTo l k = p at hpl Hsu ⊢
    generalize l.getD k L.zero = e at c0 c1 c2 hke Hsu
    obtain ⟨key, first, len⟩ := e
    simp only [Fit] at hke c0 c1 c2
    obtain ⟨r1, ⟨r3, r4⟩, r5, r6⟩ := hke
    obtain ⟨a, rfl⟩ := Int.eq_ofNat_of_zero_le r3
    obtain ⟨d, rfl⟩ := Int.eq_ofNat_of_zero_le r5
    have HX := Lib.hid hX
    have hd1 : decide ((k : Int) < (l.length : Int)) = true := decide_eq_true (by omega)
    have q1 : (a : Int).tdiv 256 = (a : Int) / 256 := Int.tdiv_eq_ediv_of_nonneg (by omega)
    have q2 : (d : Int).tdiv 256 = (d : Int) / 256 := Int.tdiv_eq_ediv_of_nonneg (by omega)
    have q3 : (a : Int).tmod 256 = (a : Int) % 256 := Int.tmod_eq_emod_of_nonneg (by omega)
    have q4 : (d : Int).tmod 256 = (d : Int) % 256 := Int.tmod_eq_emod_of_nonneg (by omega)
    have hss := str_size key
    clear hcell hX
    go_wp2_with fail
    refine ⟨⟨k + 1, by omega, by go_num, ?_, ((hB.alloc hB.size _).alloc (by have := hB.size; rw [alloc_size]; omega) _).alloc (by have := hB.size; rw [alloc_size, alloc_size]; omega) _⟩, by simp only [intOf]; omega⟩
    rw [HX.out, Hsu.out, str_append, str_append, str_append, ofNat_mod']
    simp [L.ent, num2]
section
variable {P : Program} {w : World} {d : Nat} {xs ys : Array Value}
theorem eqF_nil : (Op.eqFields d xs ys []).run P w = .ok true w := by simp [Op.eqFields]
theorem eqF_cons {f : Field} {fs : List Field} {a b : Value} {r s : Bool} (hn : f.name ≠ "_") (ha : (part f.type xs f.offset).run P w = .ok a w) (hb : (part f.type ys f.offset).run P w = .ok b w)
    (hr : (Op.equalIn d f.type a b).run P w = .ok r w) (hs : (Op.eqFields d xs ys fs).run P w = .ok s w) : (Op.eqFields d xs ys (f :: fs)).run P w = .ok (r && s) w := by
  simp only [Op.eqFields, if_pos hn, Sem.run_bind, ha, hb, hr, Result.andThen_ok]
  cases r
  · rfl
  · exact hs
theorem part_one {t : TypeId} {off : Nat} {u : Value} (h : (isAgg t).run P w = .ok false w) (hu : xs[off]? = some u) : (part t xs off).run P w = .ok u w := by
  simp [part, h, hu]
end
def eqL (e f : L) : Bool := e.key == f.key && (e.first == f.first && e.len == f.len)
set_option maxRecDepth 100000 in
set_option maxHeartbeats 400000 in
theorem eqEnt (w : World) (e f : L) :
    (Op.equalIn 10000 87 (.agg e.cs.toArray) (.agg f.cs.toArray)).run Try.prog w = .ok (eqL e f) w := by
  rw [run_equalIn_agg w 9999 87 _ _ (by kernel_rfl) (by kernel_rfl)]
  have hfs : (Try.prog.fieldsOf 87).toList.map (fun f => (f.type, f.offset, f.name == "_")) = [(9, 0, false), (3, 1, false), (3, 2, false)] := by kernel_rfl
  generalize (Try.prog.fieldsOf 87).toList = fs at hfs ⊢
  rcases fs with _ | ⟨f0, _ | ⟨f1, _ | ⟨f2, _ | ⟨f3, fs⟩⟩⟩⟩ <;> simp at hfs
  obtain ⟨⟨t0, o0, n0⟩, ⟨t1, o1, n1⟩, t2, o2, n2⟩ := hfs
  have h1 : (isAgg 9).run Try.prog w = .ok false w := by kernel_rfl
  have h3 : (isAgg 3).run Try.prog w = .ok false w := by kernel_rfl
  have hi := fun (x y : Int) => run_equalIn_int (P := Try.prog) w 9998 3 .i64 .i64 x y Try.underlying3
  have hst := fun (x y : ByteArray) => run_equalIn_string (P := Try.prog) w 9998 9 x y Try.underlying9
  refine (eqF_cons (a := .string (str e.key)) (b := .string (str f.key)) n0 (by rw [t0, o0]; exact part_one h1 rfl) (by rw [t0, o0]; exact part_one h1 rfl) (by rw [t0]; exact hst _ _)
    (eqF_cons (a := .int .i64 e.first) (b := .int .i64 f.first) n1 (by rw [t1, o1]; exact part_one h3 rfl) (by rw [t1, o1]; exact part_one h3 rfl) (by rw [t1]; exact hi _ _)
    (eqF_cons (a := .int .i64 e.len) (b := .int .i64 f.len) n2 (by rw [t2, o2]; exact part_one h3 rfl) (by rw [t2, o2]; exact part_one h3 rfl) (by rw [t2]; exact hi _ _) eqF_nil))).trans ?_
  rw [str_toL, str_toL, Bool.and_true]; rfl
theorem neqEnt (w : World) (e f : L) :
    (binOp .neq 87 (.agg e.cs.toArray) (.agg f.cs.toArray)).run Try.prog w = .ok (.bool (!eqL e f)) w := by
  rw [run_neq_struct, eqEnt w e f]; rfl
theorem eqL_self (e : L) : eqL e e = true := by simp [eqL]
set_option maxRecDepth 100000 in
set_option maxHeartbeats 4000000 in
theorem Same_any (l : List L) (v1 v2 : Value) (w : World) (h1 : Rd w 3 v1 l.length (ls l)) (h2 : Rd w 3 v2 l.length (ls l)) :
    Calls Try.prog 26 #[v1, v2] w fun r w' => r = .returned (.bool true) ∧ Below w.heap.size w w' := by
  obtain ⟨A1, c1, rfl, ha1, ha2, -⟩ := h1.slice_
  obtain ⟨A2, c2, rfl, hb1, hb2, -⟩ := h2.slice_
  unfold maxLen at ha2 hb2
  have H1 := Lib.hid h1
  have H2 := Lib.hid h2
  clear h1 h2
  go_enter Try.func26, Try.ntmps26
  go_wp2_with fail
  go_loopw [5] (fun i wr => ∃ k : Nat, k ≤ l.length ∧ i = .int .i64 (k : Int) ∧ Below w.heap.size w wr) (fun i _ => l.length - (intOf i).toNat)
  case atStart => exact ⟨0, Nat.zero_le _, rfl, Below.refl _ _⟩
  case round =>
    obtain ⟨k, hkl, rfl, hB⟩ := hrel
    by_cases hkn : k < l.length
    rotate_left
    · obtain rfl : k = l.length := by omega
      have hd1 : decide ((l.length : Int) < (l.length : Int)) = false := decide_eq_false (by omega)
      go_wp2_with fail
      go_ret
      exact ⟨rfl, hB⟩
    obtain ⟨b, off, rfl, hcell⟩ := ents_at (H1.out.below hB) rfl (by omega)
    obtain ⟨b2, off2, rfl, hcell2⟩ := ents_at (H2.out.below hB) rfl (by omega)
    obtain ⟨c0, c1, c2⟩ := hcell k hkn
    obtain ⟨d0, d1, d2⟩ := hcell2 k hkn
    have hnq := fun W => neqEnt W (l.getD k L.zero) (l.getD k L.zero)
    rw [eqL_self] at hnq
    generalize l.getD k L.zero = e at c0 c1 c2 d0 d1 d2 hnq
    obtain ⟨key, first, len⟩ := e
    simp only [L.cs] at c0 c1 c2 d0 d1 d2 hnq
    have Hnq := Lib.hid hnq
    clear hcell hcell2 hnq
    have hd1 : decide ((k : Int) < (l.length : Int)) = true := decide_eq_true (by omega)
    have hj2 : (k : Int) < (l.length : Int) := by omega
    have hj0 : (0 : Int) ≤ (k : Int) := by omega
    go_upto_region 6 with fail
    (refine Ord.wp_region_ord [(false, 0), (false, 1), (false, 2), (false, 3), (false, 4), (false, 5), (false, 6), (false, 7), (false, 8)] (fun W => (W.cell? ⟨b, off + k * 3, none⟩ = some (.string (str key)) ∧ W.cell? ⟨b, off + k * 3 + 1, none⟩ = some (.int .i64 first) ∧ W.cell? ⟨b, off + k * 3 + 2, none⟩ = some (.int .i64 len)) ∧ (W.cell? ⟨b2, off2 + k * 3, none⟩ = some (.string (str key)) ∧ W.cell? ⟨b2, off2 + k * 3 + 1, none⟩ = some (.int .i64 first) ∧ W.cell? ⟨b2, off2 + k * 3 + 2, none⟩ = some (.int .i64 len))) (by kernel_rfl) (by kernel_rfl) (by kernel_rfl) (by kernel_rfl) (by exact ⟨⟨c0, c1, c2⟩, d0, d1, d2⟩) ?_; simp only [Ord.ordOps, List.filterMap_cons, List.filterMap_nil, List.getElem?_toArray, List.getElem?_cons_succ, List.getElem?_cons_zero, Option.map_some]; repeat (first | (refine Ord.wpOrd_skip ?_ ?_; (focus (go_simp; (try (intro h; cases h)); done)); simp only [Act.put, List.setIfInBounds_toArray, List.set_cons_zero, List.set_cons_succ]) | (refine Ord.wpOrd_take (v := ?_) ?_ ?_ ?_; rotate_left; (focus (go_simp; done)); (focus (intro w' hSw; (try dsimp only at hSw); go_simp; (try with_reducible rfl); done)); simp only [Act.put, List.setIfInBounds_toArray, List.set_cons_zero, List.set_cons_succ])))
    refine Ord.wpOrd_nil ?_
    go_wp2_with fail
    exact ⟨⟨k + 1, by omega, by go_num, hB.drew⟩, by simp only [intOf]; omega⟩
end Go.Proofs.Ytcjabfdjngekfaa.Leaf
