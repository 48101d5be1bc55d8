/- Leaves' walks: two rows of bytes compared; a leaf's block. -/
import Derived.Test.YtcjabfdjngekfaaLeafW2
import Derived.Test.YtcjabfdjngekfaaAppO
set_option linter.unusedVariables false
set_option linter.unusedSimpArgs false
namespace Go.Proofs.Ytcjabfdjngekfaa.Ord
open Go Go.RowKit Go.Proofs.Ytcjabfdjngekfaa.Wd
section
variable {P : Program} {ops : Array Oper} {rest : List (Bool × Oper)} {S : World → Prop} {o : Oper} {a : Act} {Q : Exit → Act → World → Prop}
/-- append(v, s...), s a string, in a region that draws its order -/
theorem wpOrd_app_str {W : World} {t u e : TypeId} (E : El P t e (.int .u8 0) 1 1) (hu : P.underlying u = some .string) (hw : Region.wanted o (yielded ops a.tmps) = true) (sl x : Operand)
    (ho : o.op = .call { callee := .builtin .append, args := #[sl, x], argTypes := #[t, u] })
    (base : Nat) (v : Value) (l : List UInt8) (s : List UInt8) (hs : a.eval sl = v) (hx : a.eval x = .string (str s))
    (HO : W.ownsRow base e 1 v l.length (bs l)) (hbase : base ≤ W.heap.size) (hl : l.length + s.length ≤ 140737488355328)
    (h : ∀ v1 w1, w1.ownsRow base e 1 v1 (l ++ s).length (bs (l ++ s)) → W.grownBy w1 v.ownBlock → S w1 ∧ WpOrd P ops Q S rest (a.put o.dst v1) w1) :
    WpOrd P ops Q S ((true, o) :: rest) a W := by
  refine wpOrd_call hw (fun K hK => ?_)
  obtain ⟨ht, hinfo, hz, hs0, hb0⟩ := E
  obtain ⟨i0, hi, hzz⟩ := Option.map_eq_some_iff.1 hinfo
  simp only [Prod.mk.injEq] at hzz
  obtain ⟨hz0, hz1, hz2⟩ := hzz
  have hss := str_size s
  obtain ⟨v1, w1, hr, hown, hg, _⟩ := Lib.run_append_own_string (P := P) W base t u o.type e i0 ht hu hi hz0 hz1 hz2 v l.length (bs l) HO (str s) (by simp only [maxLen]; omega) (by omega) hbase
  unfold Oper.wp execOp
  simp only [ho, resolve, invoke, builtin, Sem.run_bind, Sem.run_pure, Result.andThen_ok, List.map_toArray, List.map_cons, List.map_nil, hs, hx, hr]
  have he : bs (l ++ s) = bs l ++ Lib.strCells (str s) := by rw [bs_append, strCells_str]
  have hown' : w1.ownsRow base e 1 v1 (l ++ s).length (bs (l ++ s)) := by rw [he, List.length_append, ← hss]; exact hown
  exact hK _ _ (h v1 w1 hown' hg).1 (h v1 w1 hown' hg).2
end
end Go.Proofs.Ytcjabfdjngekfaa.Ord
namespace Go.Proofs.Ytcjabfdjngekfaa.Leaf
open Go.RowKit Go.Proofs.Ytcjabfdjngekfaa.Wd Go.Proofs.Ytcjabfdjngekfaa.Use Go.Proofs.Ytcjabfdjngekfaa.Lay
open Go.Proofs.Ytcjabfdjngekfaa.Rel (env_cells)

theorem take_succ_b (l : List UInt8) (k : Nat) (h : k < l.length) : l.take (k + 1) = l.take k ++ [l.getD k 0] := by
  rw [List.take_succ_eq_append_getElem h, List.getD_eq_getElem?_getD, List.getElem?_eq_getElem h]; rfl
/-- where the bytes of a row lie -/
theorem bytes_at {w : World} {A : Option Addr} {n c : Nat} {l : List UInt8} (h : Rd w 1 (.slice A n c) n (bs l)) (hn : n = l.length) (h0 : 0 < n) : ∃ b off, A = some ⟨b, off, none⟩ ∧ ∀ k, k < n → w.cell? ⟨b, off + k, none⟩ = some (.int .u8 ((l.getD k 0).toNat : Int)) := by
  obtain ⟨b, off, rfl, -, -, -, hc⟩ := h.at_ h0
  refine ⟨b, off, rfl, fun k hk => ?_⟩
  rw [hc k (by rw [bs_length]; omega), ← List.getElem?_eq_getElem, bs_getElem? _ _ (by omega)]
theorem take_ne {l m : List UInt8} {k : Nat} (h : l.getD k 0 ≠ m.getD k 0) : (l == m) = false := by
  rw [beq_eq_false_iff_ne]; rintro rfl; exact h rfl
set_option maxRecDepth 100000 in
set_option maxHeartbeats 4000000 in
theorem slEqual_any (l1 l2 : List UInt8) (v1 v2 : Value) (w : World) (h1 : Rd w 1 v1 l1.length (bs l1)) (h2 : Rd w 1 v2 l2.length (bs l2)) :
    Calls Try.prog 89 #[v1, v2] w fun r w' => r = .returned (.bool (l1 == l2)) ∧ Below w.heap.size w w' := by
  obtain ⟨A1, c1, rfl, ha1, ha2, -⟩ := h1.slice_
  obtain ⟨A2, c2, rfl, hb1, hb2, -⟩ := h2.slice_
  unfold maxLen at ha2 hb2
  by_cases hl : l1.length = l2.length
  rotate_left
  · have hf : (l1 == l2) = false := by rw [beq_eq_false_iff_ne]; rintro rfl; exact hl rfl
    have hd : decide ((l1.length : Int) = (l2.length : Int)) = false := decide_eq_false (by omega)
    rw [hf]
    clear h1 h2
    go_enter Try.func89, Try.ntmps89
    go_wp2_with fail
    go_ret
    exact ⟨rfl, Below.refl _ _⟩
  obtain ⟨n, hn⟩ : ∃ n, n = l1.length := ⟨_, rfl⟩
  rw [← hn] at h1 hl ha1 ⊢
  rw [← hl] at h2 hb1 ⊢
  have H1 := Lib.hid h1
  have H2 := Lib.hid h2
  have Hn := Lib.hid hn
  have Hl := Lib.hid hl
  clear h1 h2 hn hl
  go_enter Try.func89, Try.ntmps89
  go_wp2_with fail
  go_loopw [13] (fun i wr => ∃ k : Nat, k ≤ n ∧ i = .int .i64 (k : Int) ∧ Hid (l1.take k = l2.take k) ∧ Below w.heap.size w wr) (fun i _ => n - (intOf i).toNat)
  case atStart => exact ⟨0, Nat.zero_le _, rfl, Lib.hid rfl, Below.refl _ _⟩
  case round =>
    obtain ⟨k, hkl, rfl, Hs, hB⟩ := hrel
    by_cases hkn : k < n
    · obtain ⟨b, off, rfl, hcell⟩ := bytes_at (H1.out.below hB) Hn.out (by omega)
      obtain ⟨b2, off2, rfl, hcell2⟩ := bytes_at (H2.out.below hB) Hl.out (by omega)
      have hck := hcell k hkn
      have hck2 := hcell2 k hkn
      have Hx := Lib.hid (take_succ_b l1 k (by have := Hn.out; omega))
      have Hy := Lib.hid (take_succ_b l2 k (by have := Hl.out; omega))
      have Hne := Lib.hid (@take_ne l1 l2 k)
      obtain ⟨x, hx⟩ : ∃ x, x = l1.getD k 0 := ⟨_, rfl⟩
      obtain ⟨y, hy⟩ : ∃ x, x = l2.getD k 0 := ⟨_, rfl⟩
      rw [← hx] at hck Hx Hne
      rw [← hy] at hck2 Hy Hne
      clear hcell hcell2 hx hy
      by_cases hxy : x = y
      · subst hxy
        have hd1 : decide ((k : Int) < (n : Int)) = true := decide_eq_true (by omega)
        go_wp2_with fail
        (refine Ord.wp_region_ord [(false, 0), (false, 1), (false, 2), (false, 3), (false, 4), (false, 5), (false, 6), (false, 7), (false, 8)] (fun W => W.cell? ⟨b, off + k, none⟩ = some (.int .u8 (x.toNat : Int)) ∧ W.cell? ⟨b2, off2 + k, none⟩ = some (.int .u8 (x.toNat : Int))) (by kernel_rfl) (by kernel_rfl) (by kernel_rfl) (by kernel_rfl) (by exact ⟨hck, hck2⟩) ?_; simp only [Ord.ordOps, List.filterMap_cons, List.filterMap_nil, List.getElem?_toArray, List.getElem?_cons_succ, List.getElem?_cons_zero, Option.map_some]; repeat (first | (refine Ord.wpOrd_skip ?_ ?_; (focus (go_simp; (try (intro h; cases h)); done)); simp only [Act.put, List.setIfInBounds_toArray, List.set_cons_zero, List.set_cons_succ]) | (refine Ord.wpOrd_take (v := ?_) ?_ ?_ ?_; rotate_left; (focus (go_simp; done)); (focus (intro w' hSw; (try dsimp only at hSw); go_simp; (try with_reducible rfl); done)); simp only [Act.put, List.setIfInBounds_toArray, List.set_cons_zero, List.set_cons_succ])))
        refine Ord.wpOrd_nil ?_
        go_wp2_with fail
        exact ⟨⟨k + 1, by omega, by go_num, Lib.hid (by rw [Hx.out, Hy.out, Hs.out]), hB.drew⟩, by simp only [intOf]; omega⟩
      · have hd1 : decide ((k : Int) < (n : Int)) = true := decide_eq_true (by omega)
        have hd2 : ((x.toNat : Int) != (y.toNat : Int)) = true := by rw [bne_iff_ne]; exact fun e => hxy (UInt8.toNat_inj.1 (by omega))
        go_wp2_with fail
        (refine Ord.wp_region_ord [(false, 0), (false, 1), (false, 2), (false, 3), (false, 4), (false, 5), (false, 6), (false, 7), (false, 8)] (fun W => W.cell? ⟨b, off + k, none⟩ = some (.int .u8 (x.toNat : Int)) ∧ W.cell? ⟨b2, off2 + k, none⟩ = some (.int .u8 (y.toNat : Int))) (by kernel_rfl) (by kernel_rfl) (by kernel_rfl) (by kernel_rfl) (by exact ⟨hck, hck2⟩) ?_; simp only [Ord.ordOps, List.filterMap_cons, List.filterMap_nil, List.getElem?_toArray, List.getElem?_cons_succ, List.getElem?_cons_zero, Option.map_some]; repeat (first | (refine Ord.wpOrd_skip ?_ ?_; (focus (go_simp; (try (intro h; cases h)); done)); simp only [Act.put, List.setIfInBounds_toArray, List.set_cons_zero, List.set_cons_succ]) | (refine Ord.wpOrd_take (v := ?_) ?_ ?_ ?_; rotate_left; (focus (go_simp; done)); (focus (intro w' hSw; (try dsimp only at hSw); go_simp; (try with_reducible rfl); done)); simp only [Act.put, List.setIfInBounds_toArray, List.set_cons_zero, List.set_cons_succ])))
        refine Ord.wpOrd_nil ?_
        go_wp2_with fail
        go_ret
        exact ⟨ret_b (Hne.out hxy).symm, hB.drew⟩
    · obtain rfl : k = n := by omega
      have hd1 : decide ((k : Int) < (k : Int)) = false := decide_eq_false (by omega)
      go_wp2_with fail
      go_ret
      refine ⟨ret_b ?_, hB⟩
      have h := Hs.out
      rw [List.take_of_length_le (by rw [Hn.out]; exact Nat.le_refl _), List.take_of_length_le (by rw [← Hl.out]; exact Nat.le_refl _)] at h
      rw [h, beq_self_eq_true]
end Go.Proofs.Ytcjabfdjngekfaa.Leaf
