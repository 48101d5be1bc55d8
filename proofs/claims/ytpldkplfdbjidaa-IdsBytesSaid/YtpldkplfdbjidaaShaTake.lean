/- Small ones of sha; bytes are taken in. -/
import Derived.Test.YtpldkplfdbjidaaShaNew
set_option linter.unusedVariables false
set_option linter.unusedSimpArgs false
namespace Go.Proofs.Ytpldkplfdbjidaa.Sha
open Go.RowKit Go.Proofs.Ytpldkplfdbjidaa.Wd

set_option maxRecDepth 100000 in
theorem none_made (g : Nat) (w : World) (hc : w.cell? ⟨g, 0, none⟩ = some (.bool true)) : Calls Try.prog 149 #[.pointer (some ⟨g, 0, none⟩)] w fun e w' => e = .returned (.bool false) ∧ w' = w := by
  go_enter Try.func149, Try.ntmps149
  go_wp2
  go_ret
  exact ⟨rfl, rfl⟩
set_option maxRecDepth 100000 in
theorem none_nil (w : World) : Calls Try.prog 149 #[.pointer none] w fun e w' => e = .returned (.bool true) ∧ w' = w := by
  go_enter Try.func149, Try.ntmps149
  go_wp2
  go_ret
  exact ⟨rfl, rfl⟩
set_option maxRecDepth 100000 in
theorem none_not (g : Nat) (w : World) (hc : w.cell? ⟨g, 0, none⟩ = some (.bool false)) : Calls Try.prog 149 #[.pointer (some ⟨g, 0, none⟩)] w fun e w' => e = .returned (.bool true) ∧ w' = w := by
  go_enter Try.func149, Try.ntmps149
  go_wp2
  go_ret
  exact ⟨rfl, rfl⟩
set_option maxRecDepth 100000 in
theorem clone_nil (w : World) : Calls Try.prog 151 #[.pointer none] w fun e w' => e = .returned (.pointer none) ∧ w' = w := by
  go_enter Try.func151, Try.ntmps151
  go_wp2_with (go_at_call 149; refine (none_nil w).mono ?_; rintro e w1 ⟨rfl, rfl⟩)
  go_ret
  exact ⟨rfl, rfl⟩
set_option maxRecDepth 100000 in
theorem clone_not (g : Nat) (w : World) (hc : w.cell? ⟨g, 0, none⟩ = some (.bool false)) : Calls Try.prog 151 #[.pointer (some ⟨g, 0, none⟩)] w fun e w' => e = .returned (.pointer none) ∧ w' = w := by
  go_enter Try.func151, Try.ntmps151
  go_wp2_with (go_at_call 149; refine (none_not g w hc).mono ?_; rintro e w1 ⟨rfl, rfl⟩)
  go_ret
  exact ⟨rfl, rfl⟩
/-! the whole hash, read and laid at once -/
theorem heap_setCells {b : Nat} {t : TypeId} : ∀ (vs : List Value) (o : Nat) (w : World) (cs : List Value), w.heap[b]? = some (.cells cs.toArray t (0, 0)) → o + vs.length ≤ cs.length →
    (w.setCells b o vs).heap[b]? = some (.cells (splice cs o vs).toArray t (0, 0))
  | [], o, w, cs, h, hl => by rw [World.setCells]; simpa [splice] using h
  | v :: r, o, w, cs, h, hl => by
    rw [World.setCells]
    have h1 := blk_set h o v
    rw [List.setIfInBounds_toArray] at h1
    simp only [List.length_cons] at hl
    rw [heap_setCells r (o + 1) _ _ h1 (by simp; omega)]
    congr 3
    unfold splice
    have e1 : (cs.set o v).take (o + 1) = cs.take o ++ [v] := by
      rw [List.take_add_one, List.take_set_of_le (by omega), List.getElem?_set_self (by omega)]; rfl
    have e2 : (cs.set o v).drop (o + 1 + r.length) = cs.drop (o + (v :: r).length) := by
      rw [List.drop_set_of_lt (by omega), List.length_cons]; congr 1; omega
    rw [e1, e2]; simp
theorem heap_setCells_all (b : Nat) (t : TypeId) (vs : List Value) (w : World) (cs : Array Value) (h : w.heap[b]? = some (.cells cs t (0, 0))) (hl : vs.length = cs.size) :
    (w.setCells b 0 vs).heap[b]? = some (.cells vs.toArray t (0, 0)) := by
  have h1 := heap_setCells (b := b) (t := t) vs 0 w cs.toList (by simpa using h) (by simp; omega)
  rw [h1]
  congr 3
  simp [splice, hl]
theorem hcells_one (h : Hs) : ∀ v ∈ hcells h, v.oneCell' = true := by
  intro v hv
  simp only [hcells, List.mem_cons, List.mem_append, List.mem_singleton, List.not_mem_nil, or_false] at hv
  rcases hv with rfl | hv | hv | hv | rfl
  · rfl
  · obtain ⟨x, _, rfl⟩ := List.mem_map.1 hv; rfl
  · obtain ⟨x, _, rfl⟩ := List.mem_map.1 hv; rfl
  · exact bs_oneCell _ _ hv
  · rfl
set_option maxRecDepth 100000 in
set_option maxHeartbeats 1000000 in
theorem clone_any (g : Nat) (h : Hs) (w : World) (H : HashAt w g h) : Calls Try.prog 151 #[.pointer (some ⟨g, 0, none⟩)] w fun e w' => e = .returned (.pointer (some ⟨w.heap.size, 0, none⟩)) ∧ HashAt w' w.heap.size h ∧ Below w.heap.size w w' := by
  have h0 := H.c0
  obtain ⟨L, hL⟩ : ∃ L, L = hcells h := ⟨_, rfl⟩
  have hsl : L.length = 138 := by rw [hL, hcells_length, H.2]
  have h1c : ∀ v ∈ L, v.oneCell' = true := by rw [hL]; exact hcells_one h
  have hr : w.rangeAt g 0 L := fun j v hv => by rw [Nat.zero_add, H.cell j, ← hL]; exact hv
  have hi : (Try.prog.info? 204).map (·.size) = some L.length := by rw [hsl]; rfl
  have Hi := Lib.hid hi
  have Hi2 : Hid ((Try.prog.info? 204).map (·.size) = some L.toArray.size) := by show _ = _; rw [hi, List.size_toArray]
  have Hr := Lib.hid hr
  have HL := Lib.hid hL
  have Hsl := Lib.hid hsl
  have Hth : Hid (∀ W : World, (W.alloc (.cells Try.zeroCells204 204)).there W.heap.size 0 L.toArray.size) := by show ∀ _, _; intro W; exact there_alloc _ _ _ _ (by rw [List.size_toArray, hsl]; exact of_decide_eq_true (by kernel_rfl))
  clear hr hi hL hsl
  go_enter Try.func151, Try.ntmps151
  go_wp2_with (first
    | (go_at_call 149; refine (none_made g w h0).mono ?_; rintro e w1 ⟨rfl, rfl⟩)
    | (refine wpList_load_mid rfl _ _ rfl g 0 rfl L _ Hr.out Try.underlying204 rfl Hi.out ?_)
    | (refine wpList_store_mid rfl _ _ _ rfl _ 0 L.toArray rfl rfl (Hth.out _) Hi2.out (all_oneCell_toArray h1c) ?_))
  go_ret
  refine ⟨rfl, ⟨?_, H.2⟩, below_cells (Nat.le_refl _) _ _ _ ((Below.refl _ _).alloc (Nat.le_refl _) _)⟩
  rw [← HL.out]
  refine (heap_setCells_all _ _ _ _ _ (heap_alloc_new _ _) ?_)
  rw [Hsl.out]; kernel_rfl

/-! bytes are taken in -/
theorem bs_splice (h : Hs) (at_ : Nat) (c : List UInt8) (hb : h.buf.length = 64) (hf : at_ + c.length ≤ 64) : splice (hcells h) (73 + at_) (bs c) = hcells ⟨h.st, splb h.buf at_ c, h.n⟩ := by
  have e : hcells h = (.bool true :: (ws h.st.list ++ ws K0)) ++ (bs h.buf ++ [.int .u64 (h.n : Int)]) := by simp [hcells]
  have e' : hcells ⟨h.st, splb h.buf at_ c, h.n⟩ = (.bool true :: (ws h.st.list ++ ws K0)) ++ (bs (splb h.buf at_ c) ++ [.int .u64 (h.n : Int)]) := by simp [hcells]
  have hl : (Value.bool true :: (ws h.st.list ++ ws K0)).length = 73 := by simp [ws_length, St.list_length, K0_length]
  rw [e, e']
  unfold splice
  rw [List.take_append, List.drop_append, hl, List.take_of_length_le (by omega), bs_length, List.drop_of_length_le (by omega), List.nil_append, List.append_assoc,
    show 73 + at_ - 73 = at_ by omega, show 73 + at_ + c.length - 73 = at_ + c.length by omega, List.take_append_of_le_length (by rw [bs_length]; omega), List.drop_append_of_le_length (by rw [bs_length]; omega)]
  simp [splb, bs, List.map_take, List.map_drop]
theorem hcells_setn (h : Hs) (hb : h.buf.length = 64) (n' : Nat) : (hcells h).set 137 (.int .u64 (n' : Int)) = hcells ⟨h.st, h.buf, n'⟩ := by
  have e : ∀ m : Nat, hcells ⟨h.st, h.buf, m⟩ = (.bool true :: (ws h.st.list ++ (ws K0 ++ bs h.buf))) ++ [.int .u64 (m : Int)] := by intro m; simp [hcells]
  have hl : (Value.bool true :: (ws h.st.list ++ (ws K0 ++ bs h.buf))).length = 137 := by simp [ws_length, St.list_length, K0_length, bs_length, hb]
  rw [show hcells h = hcells ⟨h.st, h.buf, h.n⟩ from rfl, e, e, List.set_append, if_neg (by omega), hl]
  rfl
theorem grown_setRow (w : World) (g : Nat) (cs : Array Value) : w.grownBy (w.setRow g cs) (some g) :=
  ⟨rfl, rfl, rfl, by simp [World.setRow], fun k _ hne => setRow_other w g k cs (fun e => hne (by rw [e]))⟩
/-- copy(h.buf[at:], b) -/
theorem copy_in {P : Program} {w : World} {ops : Array Oper} {rest : List Oper} {o : Oper} {a : Act} {Q : Exit → Act → World → Prop} (hgd : o.guard = none) (d s : Operand) (dT sT : TypeId)
    (ho : o.op = .call { callee := .builtin .copy, args := #[d, s], argTypes := #[dT, sT] }) (elem : TypeId) (hu : P.underlying dT = some (.slice elem)) (hsz : (P.info? elem).map (·.size) = some 1)
    (g off at_ dLen dCap : Nat) (hoff : off = 73 + at_) (v : Value) (hd : a.eval d = .slice (some ⟨g, off, none⟩) dLen dCap) (hs : a.eval s = v) (h : Hs) (H : HashAt w g h) (m : Nat) (l : List UInt8) (HR : Rd w 1 v m (bs l)) (hm : 0 < m)
    (hdl : dLen = 64 - at_) (hat : at_ < 64)
    (hk : ∀ w', HashAt w' g ⟨h.st, splb h.buf at_ (l.take (64 - at_)), h.n⟩ → w.grownBy w' (some g) → wpList P ops Q rest (a.put o.dst (.int .i64 ((l.take (64 - at_)).length : Int))) w') :
    wpList P ops Q (o :: rest) a w := by
  obtain ⟨A, c, rfl, hmc, hcm, hlen⟩ := HR.slice_
  obtain ⟨b, bo, rfl, -, -, -, hcell⟩ := HR.at_ hm
  rw [bs_length, Nat.mul_one] at hlen
  subst hoff hdl
  refine wpList_copy_own hgd d s dT sT ho elem hu hsz g (73 + at_) _ dCap ⟨b, bo, none⟩ m c hd hs (hcells h).toArray _ H.1 (bs (l.take (64 - at_))) ?_ ?_ ?_ (bs_oneCell _) ?_
  · rw [bs_length, List.length_take, hlen]; exact Nat.min_comm _ _
  · intro j v hj
    rw [add_plain]
    have hjl : j < (bs (l.take (64 - at_))).length := (List.getElem?_eq_some_iff.1 hj).1
    rw [bs_length, List.length_take] at hjl
    rw [hcell j (by rw [bs_length]; omega), ← hj]
    simp only [bs, List.map_take, List.getElem?_take]
    rw [if_pos (by omega), List.getElem?_eq_getElem]
  · rw [bs_length, List.length_take, List.size_toArray, hcells_length, H.2]; omega
  · rw [bs_length]
    refine hk _ ⟨?_, ?_⟩ (grown_setRow _ _ _)
    · rw [setRow_heap w g _ _ _ _ H.1]
      congr 3
      have := bs_splice h at_ (l.take (64 - at_)) H.2 (by rw [List.length_take]; omega)
      rw [← this]
      unfold splice
      rw [bs_length]
    · simp only
      rw [splb_length _ _ _ (by rw [List.length_take, H.2]; omega), H.2]
/-- b[n:] -/
theorem Rd.tail {w : World} {sz : Nat} {b off n c : Nat} {xs : List Value} (h : Rd w sz (.slice (some ⟨b, off, none⟩) n c) n xs) (k : Nat) (hk : k ≤ n) (off' : Nat) (ho : k < n → off' = off + k * sz) :
    Rd w sz (.slice (some ⟨b, off', none⟩) (n - k) (c - k)) (n - k) (xs.drop (k * sz)) := by
  obtain ⟨hl, A, c', hA, h1, h2, h3⟩ := h
  injection hA with hA1 hA2 hA3
  subst hA1 hA3
  refine ⟨by rw [List.length_drop, hl, Nat.sub_mul], _, _, rfl, by omega, by omega, fun h0 => ?_⟩
  obtain ⟨b', off1, hb, hc⟩ := h3 (by omega)
  injection hb with hb
  injection hb with hb1 hb2
  subst hb1 hb2
  have hkn : k < n := by omega
  refine ⟨b, off', rfl, fun i hi => ?_⟩
  rw [ho hkn, Nat.add_assoc, hc (k * sz + i) (by rw [Nat.sub_mul] at hi; omega), List.getElem?_drop]
end Go.Proofs.Ytpldkplfdbjidaa.Sha
