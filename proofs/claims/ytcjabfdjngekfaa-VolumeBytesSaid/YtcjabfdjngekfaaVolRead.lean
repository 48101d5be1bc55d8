/- The volume of bytes is read. -/
import Derived.Test.YtcjabfdjngekfaaVolPut
import Derived.Test.YtcjabfdjngekfaaShaOfL
import Derived.Test.YtcjabfdjngekfaaBytesW
import Derived.WalkSpells
set_option linter.unusedVariables false
set_option linter.unusedSimpArgs false
namespace Go.Proofs.Ytcjabfdjngekfaa.Vol
open Go.RowKit Go.Proofs.Ytcjabfdjngekfaa.Wd

set_option maxRecDepth 100000 in
set_option maxHeartbeats 1000000 in
theorem clone_bytes (v : Value) (l : List UInt8) (w : World) (HR : Rd w 1 v l.length (bs l)) (hl : l.length ≤ 140737488355328) :
    Calls Try.prog 95 #[v] w fun e w' => ∃ v', e = .returned v' ∧ w'.ownsRow w.heap.size 5 1 v' l.length (bs l) ∧ Below w.heap.size w w' := by
  obtain ⟨A, c, rfl, h1, h2, -⟩ := HR.slice_
  cases A with
  | none =>
    have h0 : l.length = 0 := by
      rcases Nat.eq_zero_or_pos l.length with h | h
      · exact h
      · obtain ⟨b, off, hA, -⟩ := HR.at_ h; cases hA
    obtain rfl : l = [] := List.eq_nil_of_length_eq_zero h0
    have kn := fun W : World => Lib.run_eql_slice_nil (P := Try.prog) W 23 5 none 0 c 0 0 Try.underlying23
    go_enter Try.func95, Try.ntmps95
    go_wp2
    go_ret
    exact ⟨_, rfl, ⟨rfl, .inl ⟨rfl, rfl⟩⟩, Below.refl _ _⟩
  | some ad =>
    have kn := fun W : World => Lib.run_eql_slice_nil (P := Try.prog) W 23 5 (some ad) l.length c 0 0 Try.underlying23
    have hB1 : Below w.heap.size w (w.alloc (.cells #[] 5)) := (Below.refl _ _).alloc (Nat.le_refl _) _
    go_enter Try.func95, Try.ntmps95
    go_wp2_with (at_builtin; refine app_row elU8 rfl (.tmp 5) (.tmp 6) rfl w.heap.size _ _ 0 l.length [] (bs l) rfl rfl (bs_oneCell l) (own_empty w _ _ _ (Nat.le_refl _)) (HR.below hB1) hB1 (by simp) (by omega) ?_; intro v1 w1 ho1 hB hg1 hat1; rw [Nat.zero_add, List.nil_append] at ho1)
    go_ret
    exact ⟨_, rfl, ho1, hB⟩
/-- two results, the first one in memory -/
theorem results_cell_tmp {P : Program} {fn : Func} {p q : Tmp} {ty : TypeId} (h : fn.results = #[.cell p ty, .tmp q]) (tmps : Array Value) (w : World) (g : Nat) (cs : List Value) (d : TypeDesc) (u : Value)
    (hp : tmps.getD p undef = .pointer (some ⟨g, 0, none⟩)) (hq : tmps.getD q undef = u) (hc : w.rangeAt g 0 cs)
    (hu : P.underlying ty = some d) (hd : d.isRow = true) (hi : (P.info? ty).map (·.size) = some cs.length) :
    (results fn tmps).run P w = .ok (.tuple #[.agg cs.toArray, u]) w := by
  have hp' : tmps[p]?.getD undef = .pointer (some ⟨g, 0, none⟩) := by simpa using hp
  have hq' : tmps[q]?.getD undef = u := by simpa using hq
  simp [results, h, hp', hq', asAddr, run_loadVar_mid w g 0 ty cs d hc hu hd hi]
def zcells : List Value := vcells V.zero (.slice none 0 0)
theorem built_vol : Try.prog.built 46 [] = some zcells.toArray := by kernel_rfl
theorem zcells_one : ∀ v ∈ zcells, v.oneCell' = true := vcells_one _ _ rfl
/-- a zero volume is laid in the result, and the call returns -/
theorem ret_zero (b : List UInt8) (e0 : Nat) (hr : V.read b = (V.zero, e0)) {w w' : World} (hb : Below w.heap.size w w') :
    ∃ vp, Ending.returned (.tuple #[.agg zcells.toArray, .int .i64 (e0 : Int)]) = Ending.returned (.tuple #[.agg (vcells (V.read b).1 vp).toArray, .int .i64 ((V.read b).2 : Int)]) ∧ Rd w' 1 vp (V.read b).1.pc.length (bs (V.read b).1.pc) ∧ Below w.heap.size w w' := by
  rw [hr]
  exact ⟨.slice none 0 0, rfl, Rd.nil _ _, hb⟩
theorem set_far {W : World} {B o g i : Nat} {u v : Value} (h : W.cell? ⟨B, o, none⟩ = some v) (hne : ¬ g = B) : (W.setCell ⟨g, i, none⟩ u).cell? ⟨B, o, none⟩ = some v :=
  (grown_setCell W g i u).cell (a := ⟨B, o, none⟩) h (by intro e; injection e with e; exact hne e.symm)
theorem set_far3 {W : World} {B o g i : Nat} {u v1 v2 v3 : Value} (hne : ¬ g = B) (h : W.cell? ⟨B, o, none⟩ = some v1 ∧ W.cell? ⟨B, o + 1, none⟩ = some v2 ∧ W.cell? ⟨B, o + 2, none⟩ = some v3) :
    (W.setCell ⟨g, i, none⟩ u).cell? ⟨B, o, none⟩ = some v1 ∧ (W.setCell ⟨g, i, none⟩ u).cell? ⟨B, o + 1, none⟩ = some v2 ∧ (W.setCell ⟨g, i, none⟩ u).cell? ⟨B, o + 2, none⟩ = some v3 := ⟨set_far h.1 hne, set_far h.2.1 hne, set_far h.2.2 hne⟩
/-- the read volume's block, the result's, and the piece's row -/
structure RF (w W : World) (Z : List Value) (G : Nat) (v : V) (vp : Value) : Prop where
  z : W.heap[w.heap.size]? = some (.cells Z.toArray 46 (0, 0))
  g : W.heap[G]? = some (.cells (vcells v vp).toArray 46 (0, 0))
  own : W.ownsRow (w.heap.size + 1) 5 1 vp v.pc.length (bs v.pc)
  ne : vp.ownBlock ≠ some G
  lt : w.heap.size < G
  b : Below w.heap.size w W
theorem RF.drew {w W : World} {Z : List Value} {G : Nat} {v : V} {vp : Value} (h : RF w W Z G v vp) : RF w W.drew Z G v vp := ⟨h.z, h.g, h.own, h.ne, h.lt, ⟨h.b.os, h.b.tape, h.b.output, h.b.size, h.b.block⟩⟩
theorem RF.set {w W : World} {Z : List Value} {G : Nat} {v v' : V} {vp : Value} (h : RF w W Z G v vp) (i : Nat) (u : Value) (e : (vcells v vp).toArray.setIfInBounds i u = (vcells v' vp).toArray) (hp : v'.pc = v.pc) : RF w (W.setCell ⟨G, i, none⟩ u) Z G v' vp :=
  ⟨blk_far h.z (by have := h.lt; show w.heap.size ≠ G; omega) u, by rw [← e]; exact blk_set h.g i u, by rw [hp]; exact Sha.own_grown h.own (grown_setCell _ _ _ _) (fun k hk => by injection hk with hk; subst hk; exact h.ne), h.ne, h.lt, h.b.grown (grown_setCell _ _ _ _) h.b.size (fun k hk => by injection hk with hk; have := h.lt; omega)⟩
theorem vset0 (bd : List UInt8) (h : bd.length = 32) (a b c d x : Int) (p : List UInt8) (vp : Value) : (vcells ⟨bd, a, b, c, d, p⟩ vp).toArray.setIfInBounds 32 (.int .i64 x) = (vcells ⟨bd, x, b, c, d, p⟩ vp).toArray := by simp [vcells, List.set_append, bs_length, h]
theorem vset1 (bd : List UInt8) (h : bd.length = 32) (a b c d x : Int) (p : List UInt8) (vp : Value) : (vcells ⟨bd, a, b, c, d, p⟩ vp).toArray.setIfInBounds 33 (.int .i64 x) = (vcells ⟨bd, a, x, c, d, p⟩ vp).toArray := by simp [vcells, List.set_append, bs_length, h]
theorem vset2 (bd : List UInt8) (h : bd.length = 32) (a b c d x : Int) (p : List UInt8) (vp : Value) : (vcells ⟨bd, a, b, c, d, p⟩ vp).toArray.setIfInBounds 34 (.int .i64 x) = (vcells ⟨bd, a, b, x, d, p⟩ vp).toArray := by simp [vcells, List.set_append, bs_length, h]
theorem vset3 (bd : List UInt8) (h : bd.length = 32) (a b c d x : Int) (p : List UInt8) (vp : Value) : (vcells ⟨bd, a, b, c, d, p⟩ vp).toArray.setIfInBounds 35 (.int .i64 x) = (vcells ⟨bd, a, b, c, x, p⟩ vp).toArray := by simp [vcells, List.set_append, bs_length, h]
theorem parse_hdr (bod : List UInt8) (h : 43 ≤ bod.length) : V.parse bod = ⟨((bod.drop 4).take 39).take 32, ((((bod.drop 4).take 39).getD 32 0).toNat : Int), ((((bod.drop 4).take 39).getD 33 0).toNat : Int), ((((bod.drop 4).take 39).getD 34 0).toNat : Int), (unbe (((bod.drop 4).take 39).drop 35) : Int), bod.drop 43⟩ := by
  have e1 : ((bod.drop 4).take 39).take 32 = (bod.drop 4).take 32 := by rw [List.take_take]; rfl
  have e2 : ((bod.drop 4).take 39).drop 35 = (bod.drop 39).take 4 := by rw [List.drop_take, List.drop_drop]
  unfold V.parse
  rw [e1, e2]
  simp [List.getD_eq_getElem?_getD, List.getElem?_take, List.getElem?_drop]
theorem i64_or8 (X y : Nat) (hX : X < 16777216) (hy : y < 256) : bits .or .i64 ((X : Int) * 256) (y : Int) = ((X * 256 + y : Nat) : Int) := by
  have h : X * 256 + y = (X * 256) ||| y := by
    rw [show X * 256 = X <<< 8 by rw [Nat.shiftLeft_eq], Nat.shiftLeft_add_eq_or_of_lt (by omega : y < 2 ^ 8)]
  have h1 : (BitVec.ofInt 64 ((X : Int) * 256)).toNat = X * 256 := by rw [BitVec.toNat_ofInt]; omega
  have h2 : (BitVec.ofInt 64 (y : Int)).toNat = y := by rw [BitVec.toNat_ofInt]; omega
  show IntKind.i64.wrap ((BitVec.ofInt 64 ((X : Int) * 256) ||| BitVec.ofInt 64 (y : Int)).toNat : Int) = _
  rw [BitVec.toNat_or, h1, h2, ← h, IntKind.wrap_i64]; omega
/-- the magic bytes, laid as the second block -/
theorem magic_rd (w : World) (X : Obj) : Rd ((w.alloc X).alloc (.cells #[.int .u8 83, .int .u8 66, .int .u8 86, .int .u8 49] 5 (4, 5))) 1 (.slice (some ⟨w.heap.size + 1, 0, none⟩) 4 4) 4 (bs magic) := by
  have h := Sha.Rd.marked (w.alloc X) 1 4 (bs magic) 5 (4, 5) rfl (by simp [maxLen])
  rw [alloc_size] at h
  exact h
theorem below_two (w : World) (X Y : Obj) : Below w.heap.size w ((w.alloc X).alloc Y) := ((Below.refl _ _).alloc (Nat.le_refl _) _).alloc (by rw [alloc_size]; omega) _
/-- copy(v.Bundle[:], h) -/
theorem copy_vol {ops : Array Oper} {rest : List Oper} {o : Oper} {a : Act} {W : World} {Q : Exit → Act → World → Prop} (hgd : o.guard = none) (d s : Operand) (ho : o.op = .call { callee := .builtin .copy, args := #[d, s], argTypes := #[23, 23] })
    (g : Nat) (v : V) (vp : Value) (hz : v.bd.length = 32) (t : TypeId) (hg : W.heap[g]? = some (.cells (vcells v vp).toArray t (0, 0))) (hd : a.eval d = .slice (some ⟨g, 0, none⟩) 32 32) (sv : Value) (hs : a.eval s = sv) (n : Nat) (h : List UInt8) (HR : Rd W 1 sv n (bs h)) (hn : 32 ≤ n)
    (hk : ∀ W', Hid (W'.heap[g]? = some (.cells (vcells ⟨h.take 32, v.ix, v.dt, v.mr, v.lg, v.pc⟩ vp).toArray t (0, 0))) → W.grownBy W' (some g) → wpList Try.prog ops Q rest (a.put o.dst (.int .i64 32)) W') : wpList Try.prog ops Q (o :: rest) a W := by
  obtain ⟨A, c, rfl, hmc, hcm, hlen⟩ := HR.slice_
  obtain ⟨b, bo, rfl, -, -, -, hcell⟩ := HR.at_ (by omega)
  rw [bs_length, Nat.mul_one] at hlen
  have hl : (bs (h.take 32)).length = 32 := by rw [bs_length, List.length_take, hlen]; omega
  refine wpList_copy_own hgd d s _ _ ho 5 Try.underlying23 (by kernel_rfl) g 0 32 32 ⟨b, bo, none⟩ n c hd hs (vcells v vp).toArray t hg (bs (h.take 32)) ?_ ?_ ?_ (bs_oneCell _) ?_
  · rw [hl]; exact (Nat.min_eq_right hn).symm
  · intro j u hj
    rw [add_plain]
    have hjl : j < (bs (h.take 32)).length := (List.getElem?_eq_some_iff.1 hj).1
    rw [hl] at hjl
    rw [hcell j (by rw [bs_length]; omega), ← hj]
    simp only [bs, List.map_take, List.getElem?_take]
    rw [if_pos (by omega), List.getElem?_eq_getElem]
  · rw [hl, List.size_toArray, vcells_length _ _ hz]; omega
  · have e : (vcells v vp).toArray.toList.take 0 ++ (bs (h.take 32) ++ (vcells v vp).toArray.toList.drop (0 + (bs (h.take 32)).length)) = vcells ⟨h.take 32, v.ix, v.dt, v.mr, v.lg, v.pc⟩ vp := by
      rw [hl]
      simp only [List.take_zero, List.nil_append, Nat.zero_add]
      unfold vcells
      rw [List.drop_left' (by rw [bs_length, hz])]
    rw [e, hl]
    refine hk _ (Lib.hid ?_) (Sha.grown_setRow _ _ _)
    rw [setRow_heap W g _ _ _ _ hg]
theorem built_pc (A : Option Addr) (n c : Nat) : Try.prog.built 46 [(5, .slice A n c)] = some (vcells ⟨zbd, 0, 0, 0, 0, []⟩ (.slice A n c)).toArray := by kernel_rfl
set_option maxRecDepth 100000 in
set_option maxHeartbeats 1000000 in
theorem read_any (vb : Value) (b : List UInt8) (w : World) (HR : Rd w 1 vb b.length (bs b)) (hl : b.length ≤ 140737488355328) :
    Calls Try.prog 34 #[vb] w fun e w' => ∃ vp, e = .returned (.tuple #[.agg (vcells (V.read b).1 vp).toArray, .int .i64 ((V.read b).2 : Int)]) ∧ Rd w' 1 vp (V.read b).1.pc.length (bs (V.read b).1.pc) ∧ Below w.heap.size w w' := by
  obtain ⟨A, c, rfl, hp1, hp2, -⟩ := HR.slice_
  unfold maxLen at hp2
  generalize hn : b.length = n at HR hl hp1
  have Hn := Lib.hid hn
  have HR0 := Lib.hid HR
  clear hn HR
  obtain ⟨Z, hZ⟩ : ∃ Z, Z = zcells := ⟨_, rfl⟩
  have hbu := built_vol
  have hzo := zcells_one
  have hiz : (Try.prog.info? 46).map (·.size) = some zcells.length := infoVol
  rw [← hZ] at hbu hzo hiz
  have HZ := Lib.hid hZ
  have Hbu := Lib.hid hbu
  have Hzo := Lib.hid hzo
  have Hiz := Lib.hid hiz
  clear hZ hbu hzo hiz
  by_cases h75 : n < 75
  · have hr : V.read b = (V.zero, 10) := by unfold V.read; rw [if_pos (by rw [Hn.out]; exact h75)]
    have Hr := Lib.hid hr
    clear hr
    have hd1 : decide ((n : Int) < 75) = true := decide_eq_true (by omega)
    go_enter Try.func34, Try.ntmps34
    go_wp2_with (first
      | (go_at_call 29; refine (size_any 0 (by omega) (by omega) _).mono ?_; rintro e w1 ⟨rfl, rfl⟩)
      | (refine Sha.wpList_build_to rfl _ _ rfl Z.toArray ?_ ?_; focus (rw [List.map_toArray]; exact Hbu.out))
      | (refine Sha.wpList_store_all rfl 46 _ _ rfl w.heap.size Z zcells rfl rfl Hzo.out (by rw [HZ.out]) Hiz.out 46 (heap_alloc_new w _) ?_; intro w3 hw3 hg3))
    have hrg : w3.rangeAt w.heap.size 0 Z := fun j v hv => by rw [Nat.zero_add, blk_cell hw3.out j]; simpa using hv
    refine bodyPost_ret (v := .tuple #[.agg Z.toArray, .int .i64 10]) (results_cell_tmp rfl _ _ w.heap.size Z _ _ rfl rfl hrg Try.underlying46 rfl Hiz.out) rfl ?_
    rw [HZ.out]
    exact ret_zero b 10 Hr.out (((Below.refl _ _).alloc (Nat.le_refl _) _).grown hg3 (by rw [alloc_size]; omega) (fun k hk => by injection hk with hk; omega))
  · have HB0 := Lib.hid HR0.out
    obtain ⟨B, off, rfl, -, hcn, hcm, -⟩ := HB0.out.at_ (by omega)
    unfold maxLen at hcm
    have hBl : B < w.heap.size := Sha.Rd.lt HB0.out (by omega) (by decide) _ rfl
    have hd1 : decide ((n : Int) < 75) = false := decide_eq_false (by omega)
    have kc : ∀ (X : Obj) (C : Array Value) (n c : Nat), (convert 23 23 (.slice (some ⟨w.heap.size + 1, 0, none⟩) n c)).run Try.prog ((w.alloc X).alloc (.cells C 5)) = .ok (.slice (some ⟨w.heap.size + 1, 0, none⟩) n c) ((w.alloc X).alloc (.cells C 5 (C.size, C.size + 1))) := by
      intro X C n c
      have h := Lib.run_convert_bytes_const (P := Try.prog) (w.alloc X) 23 5 C n c Try.underlying23 Try.underlying5
      rw [alloc_size] at h
      exact h
    have hpf : ∀ (r : Bool), decide (b.take 4 = magic) = r → ∀ (W : World) (v2 : Value), Rd W 1 (.slice (some ⟨B, off, none⟩) n c) n (bs b) → Rd W 1 v2 4 (bs magic) → Calls Try.prog 93 #[.slice (some ⟨B, off, none⟩) n c, v2] W fun e w' => e = .returned (.bool r) ∧ w' = W := by
      intro r hr W v2 h1 h2
      have hn := Hn.out
      subst hn
      refine (Byt.prefix_any _ v2 b magic W h1 h2).mono fun e w' ⟨h1, h2⟩ => ⟨?_, h2⟩
      rw [h1, show decide (magic.length ≤ b.length) = true from decide_eq_true (by show 4 ≤ _; omega), Bool.true_and, ← hr]
      congr 2
      show (b.take 4 == magic) = _
      by_cases h : b.take 4 = magic
      · rw [h]; simp
      · simp [h]
    by_cases hm : b.take 4 = magic
    rotate_left
    · have hr : V.read b = (V.zero, 11) := by unfold V.read; rw [if_neg (by rw [Hn.out]; exact h75), if_pos hm]
      have Hr := Lib.hid hr
      have Hpf := Lib.hid (hpf false (decide_eq_false hm))
      clear hr hpf hm
      go_enter Try.func34, Try.ntmps34
      go_wp2_with (first
        | (go_at_call 29; refine (size_any 0 (by omega) (by omega) _).mono ?_; rintro e w1 ⟨rfl, rfl⟩)
        | (go_at_call 93; refine (Hpf.out _ _ (HB0.out.below (below_two _ _ _)) (magic_rd _ _)).mono ?_; rintro e w1 ⟨rfl, rfl⟩)
        | (refine Sha.wpList_build_to rfl _ _ rfl Z.toArray ?_ ?_; focus (rw [List.map_toArray]; exact Hbu.out))
        | (refine Sha.wpList_store_all rfl 46 _ _ rfl w.heap.size Z zcells rfl rfl Hzo.out (by rw [HZ.out]) Hiz.out 46 (blk_alloc (heap_alloc_new w _) _) ?_; intro w3 hw3 hg3))
      have hrg : w3.rangeAt w.heap.size 0 Z := fun j v hv => by rw [Nat.zero_add, blk_cell hw3.out j]; simpa using hv
      refine bodyPost_ret (v := .tuple #[.agg Z.toArray, .int .i64 11]) (results_cell_tmp rfl _ _ w.heap.size Z _ _ rfl rfl hrg Try.underlying46 rfl Hiz.out) rfl ?_
      rw [HZ.out]
      exact ret_zero b 11 Hr.out ((below_two w _ _).grown hg3 (below_two w _ _).size (fun k hk => by injection hk with hk; omega))
    · have Hpf := Lib.hid (hpf true (decide_eq_true hm))
      clear hpf
      obtain ⟨bod, hbod⟩ : ∃ l, l = b.take (n - 32) := ⟨_, rfl⟩
      obtain ⟨lst, hlst⟩ : ∃ l, l = b.drop (n - 32) := ⟨_, rfl⟩
      have hbl : bod.length = n - 32 := by rw [hbod, List.length_take, Hn.out]; omega
      have hll : lst.length = 32 := by rw [hlst, List.length_drop, Hn.out]; omega
      have hW1 : IntKind.i64.wrap ((n : Int) - 32) = ((n - 32 : Nat) : Int) := by rw [IntKind.wrap_i64]; omega
      have hW2 : (n : Int) - 32 = ((n - 32 : Nat) : Int) := by omega
      have hW3 : IntKind.i64.wrap ((n - 32 : Nat) : Int) = ((n - 32 : Nat) : Int) := by rw [IntKind.wrap_i64]; omega
      have hw3 : (((n - 32 : Nat)) : Int) ≤ (c : Int) := by omega
      have hw4 : (((n - 32 : Nat)) : Int) ≤ (n : Int) := by omega
      have hw5 : n - (n - 32) = 32 := by omega
      have hw6 : decide (c = n - 32) = false := decide_eq_false (by omega)
      have hw6' : ¬ c = n - 32 := by omega
      have hw7 : ((n - 32 : Nat) : Int) = ((n - 32 : Nat) : Int) := rfl
      have HRb : Rd w 1 (.slice (some ⟨B, off, none⟩) (n - 32) c) bod.length (bs bod) := by
        have h := Sha.Rd.take HB0.out (n - 32) (by omega)
        rw [Nat.mul_one] at h
        rw [hbl, hbod]
        simpa [bs, List.map_take] using h
      have HRl : Rd w 1 (.slice (some ⟨B, off + (n - 32), none⟩) 32 (c - (n - 32))) lst.length (bs lst) := by
        have h := Sha.Rd.sub HB0.out (n - 32) 32 (by omega)
        rw [show ((bs b).drop (n - 32)).take 32 = bs lst by
          rw [hlst, List.take_of_length_le (by rw [List.length_drop, bs_length, Hn.out]; omega)]; simp [bs, List.map_drop]] at h
        rw [hll]
        simpa [add_plain] using h
      obtain ⟨m, hmm⟩ : ∃ m, m = n - 32 := ⟨_, rfl⟩
      rw [← hmm] at hW1 hW2 hW3 hw3 hw4 hw5 hw6 hw6' HRb HRl hbl hbod hlst
      replace HRb := Lib.hid HRb
      replace HRl := Lib.hid HRl
      clear hw7
      have Hbod := Lib.hid hbod
      have Hlst := Lib.hid hlst
      have Hbl := Lib.hid hbl
      have Hll := Lib.hid hll
      have hm43 : 43 ≤ m := by omega
      have hmn : m ≤ n := by omega
      obtain ⟨sm, hsm⟩ : ∃ s, s = Sha.sha bod := ⟨_, rfl⟩
      have hsl : sm.length = 32 := by rw [hsm, Sha.sha_length]
      have Hsm := Lib.hid hsm
      have Hsl := Lib.hid hsl
      have HM := Lib.hid hm
      have hbl3 : bod.length ≤ 140737488355328 := by omega
      clear hbod hlst hbl hll hmm hsm hsl hm
      by_cases hs : sm = lst
      rotate_left
      · have hr : V.read b = (V.zero, 12) := by
          unfold V.read
          rw [if_neg (by rw [Hn.out]; exact h75), if_neg (by rw [HM.out]; simp), if_pos (by rw [Hn.out, show n - 32 = m by omega] ; rw [← Hbod.out, ← Hlst.out, ← Hsm.out]; exact hs)]
        have Hr := Lib.hid hr
        have hne : (sm == lst) = false := by simp [hs]
        have Hne := Lib.hid hne
        clear hr hs hne
        go_enter Try.func34, Try.ntmps34
        go_wp2_with (first
          | (go_at_call 29; refine (size_any 0 (by omega) (by omega) _).mono ?_; rintro e w1 ⟨rfl, rfl⟩)
          | (go_at_call 93; refine (Hpf.out _ _ (HB0.out.below (below_two _ _ _)) (magic_rd _ _)).mono ?_; rintro e w1 ⟨rfl, hw1⟩; have hB1 : Below w.heap.size w w1 := (by rw [hw1]; exact below_two _ _ _); have hz1 : w1.heap[w.heap.size]? = some (.cells Z.toArray 46 (0, 0)) := (by rw [hw1, HZ.out]; exact blk_alloc (heap_alloc_new w _) _); have Hz1 := Lib.hid hz1; clear hw1 hz1))
        (refine Ord.wp_region_ord [(false, 0), (false, 1), (false, 2), (false, 3), (false, 4), (false, 5), (false, 6), (false, 7), (false, 8), (false, 9), (false, 10), (false, 11)] (fun _ => True) (by kernel_rfl) (by kernel_rfl) (by kernel_rfl) (by kernel_rfl) (by trivial) ?_; simp only [Ord.ordOps, List.filterMap_cons, List.filterMap_nil, List.getElem?_toArray, List.getElem?_cons_succ, List.getElem?_cons_zero, Option.map_some]; repeat (first | (refine Ord.wpOrd_skip ?_ ?_; (focus (go_simp; (try (intro h; cases h)); done)); simp only [Act.put, List.setIfInBounds_toArray, List.set_cons_zero, List.set_cons_succ]) | (refine Ord.wpOrd_take (v := ?_) ?_ ?_ ?_; rotate_left; (focus (go_simp; done)); (focus (intro w' hSw; (try dsimp only at hSw); go_simp; (try with_reducible rfl); done)); simp only [Act.put, List.setIfInBounds_toArray, List.set_cons_zero, List.set_cons_succ])))
        refine Ord.wpOrd_nil ?_
        have hB1' : Below w.heap.size w w1.drew := ⟨hB1.os, hB1.tape, hB1.output, hB1.size, hB1.block⟩
        have Hz1' := Lib.hid (show w1.drew.heap[w.heap.size]? = some (.cells Z.toArray 46 (0, 0)) from Hz1.out)
        clear hB1 Hz1
        go_wp2_with (first
          | (go_at_call 92; refine (Sha.of_any _ bod _ (HRb.out.below hB1') hbl3).mono ?_; rintro e w2 ⟨he, hb2⟩; rw [← Hsm.out] at he; subst he; have hB2 : Below w.heap.size w w2 := hB1'.trans (hb2.mono hB1'.size); have Hz2 := Lib.hid (blk_below Hz1'.out hb2); have hz2 := blk_lt Hz2.out; clear hb2)
          | (refine Sha.wpList_store_sum rfl _ _ rfl w2.heap.size sm (List.replicate 32 0) Hsl.out rfl rfl rfl (heap_alloc_new w2 _) ?_; intro w3 hw3 hg3; have Hz3 := Lib.hid (blk_grown (blk_alloc Hz2.out _) hg3 (by intro e; injection e with e; omega)); have hB3 : Below w.heap.size w w3 := (hB2.alloc hB2.size _).grown hg3 (by rw [alloc_size]; have := hB2.size; omega) (fun k hk => by injection hk with hk; have := hB2.size; omega); have HS3 := Rd.head hw3 sm (by rw [List.take_of_length_le (by rw [bs_length]; exact Nat.le_refl _)]) (by rw [Hsl.out]; simp [maxLen]); have Hw3 := Lib.hid hw3; clear hg3 hw3)
          | (go_at_call 94; refine (Byt.equal_any _ _ sm lst w3 (by have h := HS3; rw [Hsl.out] at h; rw [Hsl.out]; exact h) (by have h := HRl.out.below hB3; exact h)).mono ?_; rintro e w4 ⟨he, rfl⟩; rw [Hne.out] at he; subst he)
          | (refine Sha.wpList_build_to rfl _ _ rfl Z.toArray ?_ ?_; focus (rw [List.map_toArray]; exact Hbu.out))
          | (refine Sha.wpList_store_all rfl 46 _ _ rfl w.heap.size Z Z rfl rfl Hzo.out rfl Hiz.out 46 Hz3.out ?_; intro w5 hw5 hg5))
        have hrg : w5.rangeAt w.heap.size 0 Z := fun j v hv => by rw [Nat.zero_add, blk_cell hw5.out j]; simpa using hv
        refine bodyPost_ret (v := .tuple #[.agg Z.toArray, .int .i64 12]) (results_cell_tmp rfl _ _ w.heap.size Z _ _ rfl rfl hrg Try.underlying46 rfl Hiz.out) rfl ?_
        rw [HZ.out]
        exact ret_zero b 12 Hr.out (hB3.grown hg5 hB3.size (fun k hk => by injection hk with hk; omega))
      · have heq : (sm == lst) = true := by simp [hs]
        have Heq := Lib.hid heq
        clear heq
        obtain ⟨hdr, hhdr⟩ : ∃ l, l = (bod.drop 4).take 39 := ⟨_, rfl⟩
        obtain ⟨pc, hpc⟩ : ∃ l, l = bod.drop 43 := ⟨_, rfl⟩
        have hpl : pc.length = m - 43 := by rw [hpc, List.length_drop, Hbl.out]
        have hhl : hdr.length = 39 := by rw [hhdr, List.length_take, List.length_drop, Hbl.out]; omega
        have hq1 : (43 : Int) ≤ (m : Int) := by omega
        have hq2 : (43 : Int) ≤ (c : Int) := by omega
        have hq3 : (m : Int) ≤ (c : Int) := by omega
        have hq4 : ¬ c = 43 := by omega
        have hq5 : ¬ c = 4 := by omega
        have hq6 : ¬ c - 4 = 32 := by omega
        have hq7 : ¬ c - 4 - 32 = 3 := by omega
        have hrb : Rd w 1 (.slice (some ⟨B, off, none⟩) m c) m (bs bod) := by have h := HRb.out; rw [Hbl.out] at h; exact h
        have HRh : Rd w 1 (.slice (some ⟨B, off + 4, none⟩) 39 (c - 4)) 39 (bs hdr) := by
          have h := Sha.Rd.sub hrb 4 39 (by omega)
          rw [show ((bs bod).drop 4).take 39 = bs hdr by rw [hhdr]; simp [bs, List.map_take, List.map_drop]] at h
          simpa [add_plain] using h
        have HRc : Rd w 1 (.slice (some ⟨B, off + 43, none⟩) (m - 43) (c - 43)) pc.length (bs pc) := by
          have h := Sha.Rd.sub hrb 43 (m - 43) (by omega)
          rw [show ((bs bod).drop 43).take (m - 43) = bs pc by rw [hpc, List.take_of_length_le (by rw [List.length_drop, bs_length, Hbl.out]; omega)]; simp [bs, List.map_drop]] at h
          rw [hpl]
          simpa [add_plain] using h
        replace HRh := Lib.hid HRh
        replace HRc := Lib.hid HRc
        have Hhdr := Lib.hid hhdr
        have Hpc := Lib.hid hpc
        have Hpl := Lib.hid hpl
        have Hhl := Lib.hid hhl
        have hpl3 : pc.length ≤ 140737488355328 := by omega
        clear hhdr hpc hpl hhl hs hrb
        go_enter Try.func34, Try.ntmps34
        go_wp2_with (first
          | (go_at_call 29; refine (size_any 0 (by omega) (by omega) _).mono ?_; rintro e w1 ⟨rfl, rfl⟩)
          | (go_at_call 93; refine (Hpf.out _ _ (HB0.out.below (below_two _ _ _)) (magic_rd _ _)).mono ?_; rintro e w1 ⟨rfl, hw1⟩; have hB1 : Below w.heap.size w w1 := (by rw [hw1]; exact below_two _ _ _); have hz1 : w1.heap[w.heap.size]? = some (.cells Z.toArray 46 (0, 0)) := (by rw [hw1, HZ.out]; exact blk_alloc (heap_alloc_new w _) _); have Hz1 := Lib.hid hz1; clear hw1 hz1))
        (refine Ord.wp_region_ord [(false, 0), (false, 1), (false, 2), (false, 3), (false, 4), (false, 5), (false, 6), (false, 7), (false, 8), (false, 9), (false, 10), (false, 11)] (fun _ => True) (by kernel_rfl) (by kernel_rfl) (by kernel_rfl) (by kernel_rfl) (by trivial) ?_; simp only [Ord.ordOps, List.filterMap_cons, List.filterMap_nil, List.getElem?_toArray, List.getElem?_cons_succ, List.getElem?_cons_zero, Option.map_some]; repeat (first | (refine Ord.wpOrd_skip ?_ ?_; (focus (go_simp; (try (intro h; cases h)); done)); simp only [Act.put, List.setIfInBounds_toArray, List.set_cons_zero, List.set_cons_succ]) | (refine Ord.wpOrd_take (v := ?_) ?_ ?_ ?_; rotate_left; (focus (go_simp; done)); (focus (intro w' hSw; (try dsimp only at hSw); go_simp; (try with_reducible rfl); done)); simp only [Act.put, List.setIfInBounds_toArray, List.set_cons_zero, List.set_cons_succ])))
        refine Ord.wpOrd_nil ?_
        have hB1' : Below w.heap.size w w1.drew := ⟨hB1.os, hB1.tape, hB1.output, hB1.size, hB1.block⟩
        have Hz1' := Lib.hid (show w1.drew.heap[w.heap.size]? = some (.cells Z.toArray 46 (0, 0)) from Hz1.out)
        clear hB1 Hz1
        go_wp2_with (first
          | (go_at_call 92; refine (Sha.of_any _ bod _ (HRb.out.below hB1') hbl3).mono ?_; rintro e w2 ⟨he, hb2⟩; rw [← Hsm.out] at he; subst he; have hB2 : Below w.heap.size w w2 := hB1'.trans (hb2.mono hB1'.size); have Hz2 := Lib.hid (blk_below Hz1'.out hb2); have hz2 := blk_lt Hz2.out; clear hb2)
          | (refine Sha.wpList_store_sum rfl _ _ rfl w2.heap.size sm (List.replicate 32 0) Hsl.out rfl rfl rfl (heap_alloc_new w2 _) ?_; intro w3 hw3 hg3; have Hz3 := Lib.hid (blk_grown (blk_alloc Hz2.out _) hg3 (by intro e; injection e with e; omega)); have hB3 : Below w.heap.size w w3 := (hB2.alloc hB2.size _).grown hg3 (by rw [alloc_size]; have := hB2.size; omega) (fun k hk => by injection hk with hk; have := hB2.size; omega); have HS3 := Rd.head hw3 sm (by rw [List.take_of_length_le (by rw [bs_length]; exact Nat.le_refl _)]) (by rw [Hsl.out]; simp [maxLen]); have Hw3 := Lib.hid hw3; clear hg3 hw3)
          | (go_at_call 94; refine (Byt.equal_any _ _ sm lst w3 (by have h := HS3; rw [Hsl.out] at h; rw [Hsl.out]; exact h) (by have h := HRl.out.below hB3; exact h)).mono ?_; rintro e w4 ⟨he, rfl⟩; rw [Heq.out] at he; subst he)
          | (go_at_call 95; refine (clone_bytes _ pc w4 (HRc.out.below hB3) hpl3).mono ?_; rintro e w5 ⟨v1, rfl, ho1, hb5⟩; have hB5 : Below w.heap.size w w5 := hB3.trans (hb5.mono hB3.size); have Hz5 := Lib.hid (blk_below Hz3.out hb5); have hz5 := blk_lt Hz5.out; have ho5 := Lib.hid ho1; obtain ⟨A1, c1, rfl, -⟩ := (Rd.of_own ho1).slice_; clear hb5 ho1)
          | (refine Sha.wpList_build_to rfl _ _ rfl (vcells ⟨zbd, 0, 0, 0, 0, []⟩ (.slice A1 pc.length c1)).toArray (built_pc _ _ _) ?_)
          | (refine Sha.wpList_store_all rfl 46 _ _ rfl w5.heap.size (vcells ⟨zbd, 0, 0, 0, 0, []⟩ (.slice A1 pc.length c1)) zcells rfl rfl (vcells_one _ _ rfl) rfl rfl 46 (heap_alloc_new w5 _) ?_; intro w6 Hw6 hg6; have Hz6 := Lib.hid (blk_grown (blk_alloc Hz5.out _) hg6 (by intro e; injection e with e; omega)); have hB6 : Below w.heap.size w w6 := (hB5.alloc hB5.size _).grown hg6 (by rw [alloc_size]; have := hB5.size; omega) (fun k hk => by injection hk with hk; have := hB5.size; omega))
          | (refine copy_vol rfl _ _ rfl w5.heap.size _ _ rfl _ Hw6.out rfl _ rfl 39 hdr (HRh.out.below hB6) (by omega) ?_; intro w7 Hw7 hg7))
        have hB7 : Below w.heap.size w w7 := hB6.grown hg7 hB6.size (fun k hk => by injection hk with hk; have := hB5.size; omega)
        have Hz7 := Lib.hid (blk_grown Hz6.out hg7 (by intro e; injection e with e; omega))
        have ho7 := Lib.hid (Sha.own_grown (Sha.own_grown (Sha.own_alloc ho5.out _) hg6 (fun k hk e => by have := (ho5.out.lt _ e).2; injection hk with hk; omega)) hg7 (fun k hk e => by have := (ho5.out.lt _ e).2; injection hk with hk; omega))
        obtain ⟨_, _, hA8, -, -, -, hc8⟩ := (HRh.out.below hB7).at_ (by omega)
        injection hA8 with hA8
        injection hA8 with hA8 hA9
        subst hA8 hA9
        have hgc : ∀ i, i < 39 → w7.cell? ⟨B, off + 4 + i, none⟩ = some (.int .u8 ((hdr.getD i 0).toNat : Int)) := by
          intro i hi
          rw [hc8 i (by rw [bs_length, Hhl.out]; exact hi)]
          simp [bs, List.getD_eq_getElem?_getD, List.getElem?_eq_getElem (show i < hdr.length by rw [Hhl.out]; exact hi)]
        have h32 := hgc 32 (by omega)
        have h33 := hgc 33 (by omega)
        have h34 := hgc 34 (by omega)
        rw [show off + 4 + 33 = off + 4 + 32 + 1 by omega] at h33
        rw [show off + 4 + 34 = off + 4 + 32 + 2 by omega] at h34
        obtain ⟨x0, hx0⟩ : ∃ x, x = (hdr.getD 32 0).toNat := ⟨_, rfl⟩
        obtain ⟨x1, hx1⟩ : ∃ x, x = (hdr.getD 33 0).toNat := ⟨_, rfl⟩
        obtain ⟨x2, hx2⟩ : ∃ x, x = (hdr.getD 34 0).toNat := ⟨_, rfl⟩
        rw [← hx0] at h32
        rw [← hx1] at h33
        rw [← hx2] at h34
        have hb0 : x0 < 256 := by rw [hx0]; exact UInt8.toNat_lt _
        have hb1 : x1 < 256 := by rw [hx1]; exact UInt8.toNat_lt _
        have hb2 : x2 < 256 := by rw [hx2]; exact UInt8.toNat_lt _
        have hv0 : IntKind.i64.wrap (x0 : Int) = (x0 : Int) := by rw [IntKind.wrap_i64]; omega
        have hv1 : IntKind.i64.wrap (x1 : Int) = (x1 : Int) := by rw [IntKind.wrap_i64]; omega
        have hv2 : IntKind.i64.wrap (x2 : Int) = (x2 : Int) := by rw [IntKind.wrap_i64]; omega
        have hbd7 : (hdr.take 32).length = 32 := by rw [List.length_take, Hhl.out]; rfl
        obtain ⟨c32, c33, c34, c35, c36⟩ := vol_cells (by exact hbd7) Hw7.out
        have f32 := blk_frozen Hw7.out 32
        have f33 := blk_frozen Hw7.out 33
        have f34 := blk_frozen Hw7.out 34
        have Hgc := Lib.hid hgc
        have Hx0 := Lib.hid hx0
        have Hx1 := Lib.hid hx1
        have Hx2 := Lib.hid hx2
        have hGB : ¬ w5.heap.size = B := by have := hB5.size; omega
        have hGB2 : ¬ B = w5.heap.size := by have := hB5.size; omega
        clear hgc hx0 hx1 hx2 hc8
        clear hd1 kc hw6' hw6 hw4 hw3 hW3 hW2 hW1
        (refine Ord.wp_region_ord [(false, 0), (false, 1), (false, 2), (false, 3), (false, 4), (false, 5), (false, 6), (false, 7), (false, 8), (false, 9), (false, 10), (false, 11), (false, 12), (true, 13), (false, 14), (true, 15), (false, 16), (true, 17)] (fun w' => w'.cell? ⟨B, off + 4 + 32, none⟩ = some (.int .u8 (x0 : Int)) ∧ w'.cell? ⟨B, off + 4 + 32 + 1, none⟩ = some (.int .u8 (x1 : Int)) ∧ w'.cell? ⟨B, off + 4 + 32 + 2, none⟩ = some (.int .u8 (x2 : Int))) (by kernel_rfl) (by kernel_rfl) (by kernel_rfl) (by kernel_rfl) (by exact ⟨h32, h33, h34⟩) ?_; simp only [Ord.ordOps, List.filterMap_cons, List.filterMap_nil, List.getElem?_toArray, List.getElem?_cons_succ, List.getElem?_cons_zero, Option.map_some]; repeat (first | (refine Ord.wpOrd_skip ?_ ?_; (focus (go_simp; (try (intro h; cases h)); done)); simp only [Act.put, List.setIfInBounds_toArray, List.set_cons_zero, List.set_cons_succ]) | (refine Ord.wpOrd_take (v := ?_) ?_ ?_ ?_; rotate_left; (focus (go_simp; done)); (focus (intro w' hSw; (try dsimp only at hSw); go_simp; (try with_reducible rfl); done)); simp only [Act.put, List.setIfInBounds_toArray, List.set_cons_zero, List.set_cons_succ])))
        have q0 := set_far3 (i := 32) (u := .int .i64 (x0 : Int)) hGB ⟨h32, h33, h34⟩
        have q1 := set_far3 (i := 33) (u := .int .i64 (x1 : Int)) hGB q0
        have q2 := set_far3 (i := 34) (u := .int .i64 (x2 : Int)) hGB q1
        (refine Ord.wpOrd_call ?_ (fun K hK => ?_); (focus (go_simp; done)); go_simp)
        (refine hK _ _ ((by exact q0)) ?_; clear hK K; (try simp only [Act.put, List.setIfInBounds_toArray, List.set_cons_zero, List.set_cons_succ]); repeat (first | (refine Ord.wpOrd_skip ?_ ?_; (focus (go_simp; (try (intro h; cases h)); done)); simp only [Act.put, List.setIfInBounds_toArray, List.set_cons_zero, List.set_cons_succ]) | (refine Ord.wpOrd_take (v := ?_) ?_ ?_ ?_; rotate_left; (focus (go_simp; done)); (focus (intro w' hSw; (try dsimp only at hSw); go_simp; (try with_reducible rfl); done)); simp only [Act.put, List.setIfInBounds_toArray, List.set_cons_zero, List.set_cons_succ])))
        (refine Ord.wpOrd_call ?_ (fun K hK => ?_); (focus (go_simp; done)); go_simp)
        (refine hK _ _ ((by exact q1)) ?_; clear hK K; (try simp only [Act.put, List.setIfInBounds_toArray, List.set_cons_zero, List.set_cons_succ]); repeat (first | (refine Ord.wpOrd_skip ?_ ?_; (focus (go_simp; (try (intro h; cases h)); done)); simp only [Act.put, List.setIfInBounds_toArray, List.set_cons_zero, List.set_cons_succ]) | (refine Ord.wpOrd_take (v := ?_) ?_ ?_ ?_; rotate_left; (focus (go_simp; done)); (focus (intro w' hSw; (try dsimp only at hSw); go_simp; (try with_reducible rfl); done)); simp only [Act.put, List.setIfInBounds_toArray, List.set_cons_zero, List.set_cons_succ])))
        (refine Ord.wpOrd_call ?_ (fun K hK => ?_); (focus (go_simp; done)); go_simp)
        (refine hK _ _ ((by exact q2)) ?_; clear hK K; (try simp only [Act.put, List.setIfInBounds_toArray, List.set_cons_zero, List.set_cons_succ]); repeat (first | (refine Ord.wpOrd_skip ?_ ?_; (focus (go_simp; (try (intro h; cases h)); done)); simp only [Act.put, List.setIfInBounds_toArray, List.set_cons_zero, List.set_cons_succ]) | (refine Ord.wpOrd_take (v := ?_) ?_ ?_ ?_; rotate_left; (focus (go_simp; done)); (focus (intro w' hSw; (try dsimp only at hSw); go_simp; (try with_reducible rfl); done)); simp only [Act.put, List.setIfInBounds_toArray, List.set_cons_zero, List.set_cons_succ])))
        refine Ord.wpOrd_nil ?_
        obtain ⟨vp, hvp⟩ : ∃ v, v = Value.slice A1 pc.length c1 := ⟨_, rfl⟩
        obtain ⟨bd, hbd⟩ : ∃ l, l = hdr.take 32 := ⟨_, rfl⟩
        have R7 : RF w w7 Z w5.heap.size ⟨bd, 0, 0, 0, 0, pc⟩ vp := by
          rw [hvp, hbd]
          exact ⟨Hz7.out, Hw7.out, own_lower ho7.out (by have := blk_lt Hz3.out; omega), fun e => by have := (ho5.out.lt _ e).2; omega, hz5, hB7⟩
        rw [← hbd] at hbd7
        have R8 := (((R7.set 32 (.int .i64 (x0 : Int)) (vset0 bd hbd7 _ _ _ _ _ _ _) rfl).set 33 (.int .i64 (x1 : Int)) (vset1 bd hbd7 _ _ _ _ _ _ _) rfl).set 34 (.int .i64 (x2 : Int)) (vset2 bd hbd7 _ _ _ _ _ _ _) rfl).drew
        have hrv : ∀ L : List Value, V.read b = if (V.mk bd x0 x1 x2 (unbe (hdr.drop 35)) pc).right then (V.mk bd x0 x1 x2 (unbe (hdr.drop 35)) pc, 0) else (V.zero, 11) := by
          intro _
          have hp := parse_hdr bod (by rw [Hbl.out]; exact hm43)
          rw [← Hhdr.out, ← Hpc.out, ← Hx0.out, ← Hx1.out, ← Hx2.out, ← hbd] at hp
          unfold V.read
          rw [if_neg (by rw [Hn.out]; exact h75), if_neg (by rw [HM.out]; simp), if_neg (by rw [Hn.out, show n - 32 = m by omega, ← Hbod.out, ← Hlst.out, ← Hsm.out]; simpa using Heq.out), Hn.out, show n - 32 = m by omega, ← Hbod.out, hp]
        have Hrv := Lib.hid (hrv [])
        have Hbd := Lib.hid hbd
        have Hbd7 := Lib.hid hbd7
        have Hvp := Lib.hid hvp
        clear R7 hrv hbd7 hbd c32 c33 c34 c35 c36 f32 f33 f34 q0 q1 q2 h32 h33 h34 hv0 hv1 hv2
        generalize hW8 : (((w7.setCell ⟨w5.heap.size, 32, none⟩ (.int .i64 (x0 : Int))).setCell ⟨w5.heap.size, 33, none⟩ (.int .i64 (x1 : Int))).setCell ⟨w5.heap.size, 34, none⟩ (.int .i64 (x2 : Int))).drew = w8 at R8 ⊢
        clear hW8
        generalize hG : w5.heap.size = G at R8 hGB hGB2 ⊢
        clear hG
        rw [← hvp]
        clear hvp
        have hcyw : ∀ k, k < 4 → w.cell? ⟨B, off + 4 + 32 + 3 + k, none⟩ = some (.int .u8 ((hdr.getD (35 + k) 0).toNat : Int)) := by
          intro k hk
          obtain ⟨_, _, hA8, -, -, -, hc8⟩ := HRh.out.at_ (by omega)
          injection hA8 with hA8
          injection hA8 with hA8 hA9
          subst hA8 hA9
          rw [show off + 4 + 32 + 3 + k = off + 4 + (35 + k) by omega, hc8 (35 + k) (by rw [bs_length, Hhl.out]; omega)]
          simp [bs, List.getD_eq_getElem?_getD, List.getElem?_eq_getElem (show 35 + k < hdr.length by rw [Hhl.out]; omega)]
        have Hcyw := Lib.hid hcyw
        clear hcyw
        obtain ⟨l4, hl4⟩ : ∃ l, l = hdr.drop 35 := ⟨_, rfl⟩
        have hl44 : l4.length = 4 := by rw [hl4, List.length_drop, Hhl.out]
        rw [← hl4] at Hrv
        have Hl4 := Lib.hid hl4
        have Hl44 := Lib.hid hl44
        clear hl4 hl44
        go_wp2
        go_loopw [9, 70] (fun xv iv wi => ∃ k : Nat, k ≤ 4 ∧ iv = .int .i64 (k : Int) ∧ RF w wi Z G ⟨bd, x0, x1, x2, unbe (l4.take k), pc⟩ vp) (fun _ i _ => 4 - (intOf i).toNat)
        case atStart => exact ⟨0, by omega, rfl, R8⟩
        case round =>
          clear R8
          obtain ⟨k, hk, rfl, hP⟩ := hrel
          by_cases hk4 : k < 4
          · have hck : decide ((k : Int) < 4) = true := decide_eq_true (by omega)
            obtain ⟨y, hy⟩ : ∃ y, y = (hdr.getD (35 + k) 0).toNat := ⟨_, rfl⟩
            have hcy1 : wr.cell? ⟨B, off + 4 + 32 + 3 + k, none⟩ = some (.int .u8 (y : Int)) := by rw [hy]; exact cell_below hP.b (Hcyw.out k hk4)
            obtain ⟨X, hX⟩ : ∃ X, X = unbe (l4.take k) := ⟨_, rfl⟩
            have hXl : X < 16777216 := by
              have h1 := unbe_lt (l4.take k)
              rw [List.length_take, Hl44.out, Nat.min_eq_left (by omega)] at h1
              have h2 : 256 ^ k ≤ 256 ^ 3 := Nat.pow_le_pow_right (by decide) (by omega)
              rw [hX]; exact Nat.lt_of_lt_of_le h1 h2
            have hyl : y < 256 := by rw [hy]; exact UInt8.toNat_lt _
            have hXn : unbe (l4.take (k + 1)) = X * 256 + y := by
              have hkl : k < l4.length := by rw [Hl44.out]; exact hk4
              have e : l4[k] = hdr.getD (35 + k) 0 := by
                have h := Hl4.out
                subst h
                rw [List.getElem_drop, List.getD_eq_getElem?_getD, List.getElem?_eq_getElem (by rw [Hhl.out]; omega)]
                rfl
              rw [List.take_succ_eq_append_getElem hkl, unbe_snoc, e, hX, hy]
            rw [← hX] at hP
            have HXn := Lib.hid hXn
            clear hX hy hXn
            obtain ⟨-, -, -, c35, -⟩ := vol_cells Hbd7.out hP.g
            simp only at c35
            have f35 := blk_frozen hP.g 35
            have e1 : IntKind.i64.wrap ((X : Int) * 256) = (X : Int) * 256 := by rw [IntKind.wrap_i64]; omega
            have e2 : IntKind.i64.wrap (y : Int) = (y : Int) := by rw [IntKind.wrap_i64]; omega
            have e3 : bits .or .i64 ((X : Int) * 256) (y : Int) = ((X * 256 + y : Nat) : Int) := i64_or8 X y hXl hyl
            go_wp2
            have hS := hP.set 35 (.int .i64 ((X * 256 + y : Nat) : Int)) (vset3 bd Hbd7.out _ _ _ _ _ _ _) rfl
            refine ⟨⟨k + 1, by omega, by simp, ?_⟩, by simp only [intOf]; omega⟩
            rw [HXn.out]
            simp only [Int.natCast_add, Int.natCast_mul] at hS ⊢
            exact hS
          · obtain rfl : k = 4 := by omega
            rw [List.take_of_length_le (by rw [Hl44.out]; exact Nat.le_refl 4)] at hP
            obtain ⟨v, hv⟩ : ∃ v, v = V.mk bd x0 x1 x2 (unbe l4) pc := ⟨_, rfl⟩
            have hul := unbe_lt l4
            rw [Hl44.out] at hul
            have hvi : VIn wr v vp := by
              rw [hv]
              exact ⟨Hbd7.out, ⟨by simp only; omega, by simp only; omega⟩, ⟨by simp only; omega, by simp only; omega⟩, ⟨by simp only; omega, by simp only; omega⟩, ⟨by simp only; omega, by simp only; omega⟩, Rd.of_own hP.own⟩
            rw [← hv] at hP Hrv
            have hri := fun W => right_any v vp wr W hvi
            obtain ⟨L, hL⟩ : ∃ L, L = vcells v vp := ⟨_, rfl⟩
            have hLl : L.length = 37 := by rw [hL]; exact vcells_length _ _ hvi.bd
            have Hi : Hid ((Try.prog.info? 46).map (·.size) = some L.length) := by show _ = _; rw [hLl]; exact infoVol
            have hL1 : ∀ u ∈ L, u.oneCell' = true := by rw [hL]; exact vcells_one _ _ (by rw [Hvp.out]; rfl)
            have hLZ : L.length = Z.length := by rw [hLl, HZ.out]; rfl
            have hPg := hP.g
            rw [← hL] at hri hPg
            have Hri := Lib.hid hri
            have HPg := Lib.hid hPg
            have HL := Lib.hid hL
            have HL1 := Lib.hid hL1
            have HLZ := Lib.hid hLZ
            have Hrr := Lib.hid (show wr.rangeAt G 0 L from fun j u hu => by rw [Nat.zero_add, blk_cell HPg.out j]; simpa using hu)
            have Hpco := Lib.hid hP.own
            rw [show v.pc = pc by rw [hv]] at Hpco
            have Hpcv := Lib.hid (show v.pc = pc by rw [hv])
            clear hri hPg hL hv hvi hLl hL1 hLZ hul
            have hGl : w.heap.size < G := hP.lt
            have hPz := Lib.hid hP.z
            have hPb := hP.b
            have hPn := Lib.hid hP.ne
            clear hP
            by_cases hr : v.right = true
            · rw [if_pos hr] at Hrv
              go_wp2_with (first
                | (refine wpList_load_mid rfl _ _ rfl G 0 rfl L _ Hrr.out Try.underlying46 rfl Hi.out ?_)
                | (go_at_call 32; refine (Hri.out _).mono ?_; rintro e w9 ⟨he, hb9⟩; rw [hr] at he; subst he; have Hz9 := Lib.hid (blk_below hPz.out hb9); have hB9 : Below w.heap.size w w9 := hPb.trans (hb9.mono hPb.size); have Hg9 := Lib.hid (blk_below HPg.out hb9); have Ho9 := Lib.hid (Sha.own_below Hpco.out hb9); clear Hrr; have Hrr := Lib.hid (show w9.rangeAt G 0 L from fun j u hu => by rw [Nat.zero_add, blk_cell Hg9.out j]; simpa using hu))
                | (refine Sha.wpList_store_all rfl 46 _ _ rfl w.heap.size L Z rfl rfl HL1.out HLZ.out Hi.out 46 Hz9.out ?_; intro wa hwa hga))
              have hrg : wa.rangeAt w.heap.size 0 L := fun j u hu => by rw [Nat.zero_add, blk_cell hwa.out j]; simpa using hu
              refine bodyPost_ret (v := .tuple #[.agg L.toArray, .int .i64 0]) (results_cell_tmp rfl _ _ w.heap.size L _ _ rfl rfl hrg Try.underlying46 rfl Hi.out) rfl ?_
              rw [Hrv.out]
              refine ⟨vp, by rw [HL.out]; rfl, ?_, hB9.grown hga hB9.size (fun k hk => by injection hk with hk; omega)⟩
              show Rd wa 1 vp v.pc.length (bs v.pc)
              rw [Hpcv.out]
              exact Rd.of_own (Sha.own_grown Ho9.out hga (fun k hk e => by have := own_base Ho9.out _ e; injection hk with hk; omega))
            · rw [if_neg hr] at Hrv
              have hr' : v.right = false := by simpa using hr
              clear hr
              go_wp2_with (first
                | (refine wpList_load_mid rfl _ _ rfl G 0 rfl L _ Hrr.out Try.underlying46 rfl Hi.out ?_)
                | (go_at_call 32; refine (Hri.out _).mono ?_; rintro e w9 ⟨he, hb9⟩; rw [hr'] at he; subst he; have Hz9 := Lib.hid (blk_below hPz.out hb9); have hB9 : Below w.heap.size w w9 := hPb.trans (hb9.mono hPb.size))
                | (refine Sha.wpList_build_to rfl _ _ rfl Z.toArray ?_ ?_; focus (rw [List.map_toArray]; exact Hbu.out))
                | (refine Sha.wpList_store_all rfl 46 _ _ rfl w.heap.size Z Z rfl rfl Hzo.out rfl Hiz.out 46 Hz9.out ?_; intro wa hwa hga))
              have hrg : wa.rangeAt w.heap.size 0 Z := fun j u hu => by rw [Nat.zero_add, blk_cell hwa.out j]; simpa using hu
              refine bodyPost_ret (v := .tuple #[.agg Z.toArray, .int .i64 11]) (results_cell_tmp rfl _ _ w.heap.size Z _ _ rfl rfl hrg Try.underlying46 rfl Hiz.out) rfl ?_
              rw [HZ.out]
              exact ret_zero b 11 Hrv.out (hB9.grown hga hB9.size (fun k hk => by injection hk with hk; omega))
end Go.Proofs.Ytcjabfdjngekfaa.Vol
