/- Small words that later walks share: worlds, rows, numbers. -/
import Derived.Test.YtpldkplfdbjidaaProg
import Derived.Test.YtpldkplfdbjidaaWd
import Derived.Deep.MidRow
set_option linter.unusedVariables false
set_option linter.unusedSimpArgs false
namespace Go.Proofs.Ytpldkplfdbjidaa.Use
open Go.RowKit Go.Proofs.Ytpldkplfdbjidaa.Wd

def I64 (n : Int) : Prop := -9223372036854775808 ≤ n ∧ n < 9223372036854775808
theorem ret_i {k : IntKind} {a b : Int} (h : a = b) : Ending.returned (.int k a) = .returned (.int k b) := by rw [h]
theorem ret_b {a b : Bool} (h : a = b) : Ending.returned (.bool a) = .returned (.bool b) := by rw [h]
theorem below_go {w w1 w2 : World} (hb : Below w1.heap.size w1 w2) (h : Below w.heap.size w w1) : Below w.heap.size w w2 := h.trans (hb.mono h.size)
theorem below_one (w : World) (X : Obj) : Below w.heap.size w (w.alloc X) := (Below.refl _ _).alloc (Nat.le_refl _) _
theorem below_two (w : World) (X Y : Obj) : Below w.heap.size w ((w.alloc X).alloc Y) := ((Below.refl _ _).alloc (Nat.le_refl _) _).alloc (by rw [alloc_size]; omega) _
theorem range_all {W : World} {g : Nat} {cs : List Value} {t : TypeId} (h : W.heap[g]? = some (.cells cs.toArray t (0, 0))) : W.rangeAt g 0 cs := fun j u hu => by rw [Nat.zero_add, blk_cell h j]; simpa using hu
theorem Rd_take {w : World} {sz n c : Nat} {A : Option Addr} {xs : List Value} (h : Rd w sz (.slice A n c) n xs) (m : Nat) (hm : m ≤ n) : Rd w sz (.slice A m c) m (xs.take (m * sz)) := by
  obtain ⟨hl, A', c', hA, h1, h2, h3⟩ := h
  injection hA with hA1 _ hA3
  subst hA1 hA3
  have hms : m * sz ≤ n * sz := Nat.mul_le_mul_right _ hm
  refine ⟨by rw [List.length_take, hl]; omega, _, _, rfl, by omega, h2, fun h0 => ?_⟩
  obtain ⟨b, off, rfl, hc⟩ := h3 (by omega)
  exact ⟨b, off, rfl, fun i hi => by rw [hc i (by omega), List.getElem?_take, if_pos hi]⟩
/-- the capacity may be cut -/
theorem Rd_cap {w : World} {sz n c c' : Nat} {A : Option Addr} {xs : List Value} (h : Rd w sz (.slice A n c) n xs) (h1 : n ≤ c') (h2 : c' ≤ c) : Rd w sz (.slice A n c') n xs := by
  obtain ⟨hl, A', c1, hA, g1, g2, g3⟩ := h
  injection hA with hA1 _ hA3
  subst hA1 hA3
  exact ⟨hl, _, _, rfl, h1, by omega, g3⟩
theorem own_grown {w w1 : World} {base size n : Nat} {e : TypeId} {v : Value} {xs : List Value} {row : Option Nat} (h : w.ownsRow base e size v n xs) (hg : w.grownBy w1 row) (hne : ∀ k, row = some k → v.ownBlock ≠ some k) : w1.ownsRow base e size v n xs := by
  refine ⟨h.1, h.2.elim .inl ?_⟩
  rintro ⟨g, cap, cur, rfl, h1, h2, h3⟩
  exact .inr ⟨g, cap, cur, rfl, h1, blk_grown h2 hg (fun e => hne g e.symm rfl), h3⟩
theorem own_below {w w1 : World} {base size n : Nat} {e : TypeId} {v : Value} {xs : List Value} (h : w.ownsRow base e size v n xs) (hb : Below w.heap.size w w1) : w1.ownsRow base e size v n xs :=
  own_grown h (grown_below hb none) (by simp)
theorem own_alloc {w : World} {base size n : Nat} {e : TypeId} {v : Value} {xs : List Value} (h : w.ownsRow base e size v n xs) (o : Obj) : (w.alloc o).ownsRow base e size v n xs :=
  own_below h ((Below.refl _ _).alloc (Nat.le_refl _) o)
theorem own_nil (w : World) (base : Nat) (e : TypeId) (size : Nat) : w.ownsRow base e size (.slice none 0 0) 0 [] := ⟨by simp, .inl ⟨rfl, rfl⟩⟩
/-- numbers as cells -/
def is (l : List Int) : List Value := l.map (Value.int .i64)
theorem is_length (l : List Int) : (is l).length = l.length := by simp [is]
theorem is_get (l : List Int) (i : Nat) (h : i < l.length) : (is l)[i]? = some (.int .i64 (l.getD i 0)) := by
  simp [is, List.getElem?_eq_getElem h, List.getD_eq_getElem?_getD]
theorem is_take (l : List Int) (k : Nat) : (is l).take k = is (l.take k) := by simp [is, List.map_take]
theorem is_append (l m : List Int) : is (l ++ m) = is l ++ is m := by simp [is]
theorem is_one (l : List Int) : ∀ u ∈ is l, u.oneCell' = true := by intro u hu; obtain ⟨_, _, rfl⟩ := List.mem_map.1 hu; rfl
theorem take_succ_getD (l : List Int) (k : Nat) (h : k < l.length) : l.take (k + 1) = l.take k ++ [l.getD k 0] := by
  rw [List.take_succ_eq_append_getElem h, List.getD_eq_getElem?_getD, List.getElem?_eq_getElem h]; rfl
theorem alloc_at (w : World) (X Y : Obj) : ((w.alloc X).alloc Y).heap[w.heap.size + 1]? = some Y := by
  have h := heap_alloc_new (w.alloc X) Y
  rw [alloc_size] at h
  exact h
theorem conv_rd {W : World} {v : Value} {n : Nat} (l : List UInt8) (h : Rd W 1 v n (bs l)) : (convert 39 9 v).run Try.prog W = .ok (.string (str l)) W := Rd.string (P := Try.prog) Try.underlying39 Try.underlying5 Try.underlying9 h
theorem elI64 : El Try.prog 86 3 (.int .i64 0) 1 8 := ⟨Try.underlying86, by kernel_rfl, rfl, by decide, by decide⟩
theorem elU8 : El Try.prog 39 5 (.int .u8 0) 1 1 := ⟨Try.underlying39, by kernel_rfl, rfl, by decide, by decide⟩
/-- where the numbers of a row lie -/
theorem ints_at {w : World} {A : Option Addr} {n c : Nat} {l : List Int} (h : Rd w 1 (.slice A n c) n (is l)) (hn : n = l.length) (h0 : 0 < n) : ∃ b off, A = some ⟨b, off, none⟩ ∧ ∀ k, k < n → w.cell? ⟨b, off + k, none⟩ = some (.int .i64 (l.getD k 0)) := by
  obtain ⟨b, off, rfl, -, -, -, hc⟩ := h.at_ h0
  refine ⟨b, off, rfl, fun k hk => ?_⟩
  rw [hc k (by rw [is_length]; omega), ← List.getElem?_eq_getElem, is_get _ _ (by omega)]
/-- one result, a struct in memory -/
theorem results_cell {P : Program} {fn : Func} {p : Tmp} {ty : TypeId} (h : fn.results = #[.cell p ty]) (tmps : Array Value) (w : World) (g : Nat) (cs : List Value) (d : TypeDesc)
    (hp : tmps.getD p undef = .pointer (some ⟨g, 0, none⟩)) (hc : w.rangeAt g 0 cs)
    (hu : P.underlying ty = some d) (hd : d.isRow = true) (hi : (P.info? ty).map (·.size) = some cs.length) :
    (results fn tmps).run P w = .ok (.agg cs.toArray) w := by
  have hp' : tmps[p]?.getD undef = .pointer (some ⟨g, 0, none⟩) := by simpa using hp
  simp [results, h, hp', asAddr, run_loadVar_mid w g 0 ty cs d hc hu hd hi]
/-- two results, the first one in memory -/
theorem results_cell_tmp {P : Program} {fn : Func} {p q : Tmp} {ty : TypeId} (h : fn.results = #[.cell p ty, .tmp q]) (tmps : Array Value) (w : World) (g : Nat) (cs : List Value) (d : TypeDesc) (u : Value)
    (hp : tmps.getD p undef = .pointer (some ⟨g, 0, none⟩)) (hq : tmps.getD q undef = u) (hc : w.rangeAt g 0 cs)
    (hu : P.underlying ty = some d) (hd : d.isRow = true) (hi : (P.info? ty).map (·.size) = some cs.length) :
    (results fn tmps).run P w = .ok (.tuple #[.agg cs.toArray, u]) w := by
  have hp' : tmps[p]?.getD undef = .pointer (some ⟨g, 0, none⟩) := by simpa using hp
  have hq' : tmps[q]?.getD undef = u := by simpa using hq
  simp [results, h, hp', hq', asAddr, run_loadVar_mid w g 0 ty cs d hc hu hd hi]
theorem own_set {W : World} {base size n : Nat} {e : TypeId} {v : Value} {xs : List Value} (h : W.ownsRow base e size v n xs) {g : Nat} (hg : g < base) (i : Nat) (u : Value) : (W.setCell ⟨g, i, none⟩ u).ownsRow base e size v n xs :=
  own_grown h (grown_setCell _ _ _ _) (fun k hk e => by injection hk with hk; have := own_base h _ e; omega)
theorem set3 {W : World} {g : Nat} {a b c a' b' c' : Value} {t : TypeId} (h : W.heap[g]? = some (.cells #[a, b, c] t (0, 0))) :
    (((W.setCell ⟨g, 0, none⟩ a').setCell ⟨g, 1, none⟩ b').setCell ⟨g, 2, none⟩ c').heap[g]? = some (.cells #[a', b', c'] t (0, 0)) := blk_set (blk_set (blk_set h 0 _) 1 _) 2 _
theorem below_set {B : Nat} {w W : World} (h : Below B w W) {g : Nat} (hg : B ≤ g) (i : Nat) (u : Value) : Below B w (W.setCell ⟨g, i, none⟩ u) := h.setCell hg _
end Go.Proofs.Ytpldkplfdbjidaa.Use
