/- A hash in memory. -/
import Derived.Test.YtpldkplfdbjidaaShaW
import Derived.Deep.MidRow
import Derived.Laws.CopyOwn
set_option linter.unusedVariables false
set_option linter.unusedSimpArgs false
namespace Go.Proofs.Ytpldkplfdbjidaa.Sha
open Go.RowKit Go.Proofs.Ytpldkplfdbjidaa.Wd

def hcells (h : Hs) : List Value := .bool true :: (ws h.st.list ++ (ws K0 ++ (bs h.buf ++ [.int .u64 (h.n : Int)])))
theorem K0_length : K0.length = 64 := rfl
theorem St.list_length (s : St) : s.list.length = 8 := rfl
theorem hcells_length (h : Hs) : (hcells h).length = 74 + h.buf.length := by
  simp only [hcells, List.length_cons, List.length_append, ws_length, St.list_length, K0_length, bs_length, List.length_nil]; omega
def HashAt (w : World) (g : Nat) (h : Hs) : Prop := w.heap[g]? = some (.cells (hcells h).toArray 204 (0, 0)) ∧ h.buf.length = 64

theorem ws_get (l : List UInt32) (i : Nat) (h : i < l.length) : (ws l)[i]? = some (W (gw l i)) := by
  simp [ws, gw, h]
theorem bs_get (l : List UInt8) (i : Nat) (h : i < l.length) : (bs l)[i]? = some (.int .u8 ((gb l i).toNat : Int)) := by
  simp [bs, gb, h]
theorem hcells_st (h : Hs) (i : Nat) (hi : i < 8) : (hcells h)[1 + i]? = some (W (gw h.st.list i)) := by
  rw [hcells, Nat.add_comm, List.getElem?_cons_succ, List.getElem?_append_left (by rw [ws_length, St.list_length]; exact hi)]
  exact ws_get _ _ hi
theorem hcells_k (h : Hs) (i : Nat) (hi : i < 64) : (hcells h)[9 + i]? = some (W (gw K0 i)) := by
  rw [hcells, show 9 + i = 8 + i + 1 by omega, List.getElem?_cons_succ, List.getElem?_append_right (by rw [ws_length, St.list_length]; omega), ws_length, St.list_length, Nat.add_sub_cancel_left,
    List.getElem?_append_left (by rw [ws_length, K0_length]; exact hi)]
  exact ws_get _ _ hi
theorem hcells_b (h : Hs) (i : Nat) (hb : h.buf.length = 64) (hi : i < 64) : (hcells h)[73 + i]? = some (.int .u8 ((gb h.buf i).toNat : Int)) := by
  rw [hcells, show 73 + i = 72 + i + 1 by omega, List.getElem?_cons_succ, List.getElem?_append_right (by rw [ws_length, St.list_length]; omega), ws_length, St.list_length,
    List.getElem?_append_right (by rw [ws_length, K0_length]; omega), ws_length, K0_length, show 72 + i - 8 - 64 = i by omega, List.getElem?_append_left (by rw [bs_length]; omega)]
  exact bs_get _ _ (by omega)
theorem hcells_n (h : Hs) (hb : h.buf.length = 64) : (hcells h)[137]? = some (.int .u64 (h.n : Int)) := by
  rw [hcells, show 137 = 136 + 1 by omega, List.getElem?_cons_succ, List.getElem?_append_right (by rw [ws_length, St.list_length]; omega), ws_length, St.list_length,
    List.getElem?_append_right (by rw [ws_length, K0_length]; omega), ws_length, K0_length, List.getElem?_append_right (by rw [bs_length]; omega), bs_length, hb]
  rfl
section
variable {w : World} {g : Nat} {h : Hs}
theorem HashAt.cell (H : HashAt w g h) (i : Nat) : w.cell? ⟨g, i, none⟩ = (hcells h)[i]? := by rw [blk_cell H.1 i]; simp
theorem HashAt.c0 (H : HashAt w g h) : w.cell? ⟨g, 0, none⟩ = some (.bool true) := by rw [H.cell]; rfl
theorem HashAt.st (H : HashAt w g h) (i : Nat) (hi : i < 8) : w.cell? ⟨g, 1 + i, none⟩ = some (W (gw h.st.list i)) := by rw [H.cell, hcells_st h i hi]
theorem HashAt.k (H : HashAt w g h) (i : Nat) (hi : i < 64) : w.cell? ⟨g, 9 + i, none⟩ = some (W (gw K0 i)) := by rw [H.cell, hcells_k h i hi]
theorem HashAt.b (H : HashAt w g h) (i : Nat) (hi : i < 64) : w.cell? ⟨g, 73 + i, none⟩ = some (.int .u8 ((gb h.buf i).toNat : Int)) := by rw [H.cell, hcells_b h i H.2 hi]
theorem HashAt.n (H : HashAt w g h) : w.cell? ⟨g, 137, none⟩ = some (.int .u64 (h.n : Int)) := by rw [H.cell, hcells_n h H.2]
theorem HashAt.f (H : HashAt w g h) (i : Nat) : w.frozen? ⟨g, i, none⟩ = false := blk_frozen H.1 i
theorem HashAt.lt (H : HashAt w g h) : g < w.heap.size := blk_lt H.1
theorem HashAt.below {w1 : World} (H : HashAt w g h) (hb : Below w.heap.size w w1) : HashAt w1 g h := ⟨blk_below H.1 hb, H.2⟩
end

/-- the same, the state a list of words -/
def hcellsL (l : List UInt32) (buf : List UInt8) (n : Nat) : List Value := .bool true :: (ws l ++ (ws K0 ++ (bs buf ++ [.int .u64 (n : Int)])))
theorem hcells_eq (h : Hs) : hcells h = hcellsL h.st.list h.buf h.n := rfl
theorem hcellsL_get (l : List UInt32) (buf : List UInt8) (n j : Nat) (hj : j < l.length) : (hcellsL l buf n)[1 + j]? = some (W (gw l j)) := by
  rw [hcellsL, Nat.add_comm, List.getElem?_cons_succ, List.getElem?_append_left (by rw [ws_length]; exact hj)]
  exact ws_get _ _ hj
theorem hcellsL_set (l : List UInt32) (buf : List UInt8) (n j : Nat) (x : UInt32) (hj : j < l.length) : (hcellsL l buf n).set (1 + j) (W x) = hcellsL (l.set j x) buf n := by
  rw [hcellsL, Nat.add_comm, List.set_cons_succ, List.set_append, if_pos (by rw [ws_length]; exact hj), hcellsL]
  congr 2
  simp [ws, List.map_set]
/-- a row of words that is filled from its head on -/
def part (l : List UInt32) (m : Nat) : List Value := ws l ++ List.replicate (m - l.length) (W 0)
theorem part_length (l : List UInt32) (m : Nat) (h : l.length ≤ m) : (part l m).length = m := by simp [part, ws_length]; omega
theorem part_get (l : List UInt32) (m i : Nat) (h : i < l.length) : (part l m)[i]? = some (W (gw l i)) := by
  rw [part, List.getElem?_append_left (by rw [ws_length]; exact h)]; exact ws_get _ _ h
theorem part_set (l : List UInt32) (m : Nat) (x : UInt32) (h : l.length < m) : (part l m).set l.length (W x) = part (l ++ [x]) m := by
  rw [part, List.set_append, if_neg (by rw [ws_length]; omega), ws_length, Nat.sub_self]
  obtain ⟨d, hd⟩ : ∃ d, m - l.length = d + 1 := ⟨m - l.length - 1, by omega⟩
  rw [hd, List.replicate_succ, List.set_cons_zero, part, ws_append]
  simp only [List.length_append, List.length_singleton, ws, List.map_cons, List.map_nil, List.append_assoc, List.cons_append, List.nil_append]
  rw [show m - (l.length + 1) = d by omega]
theorem part_full (l : List UInt32) (m : Nat) (h : l.length = m) : part l m = ws l := by rw [part, h, Nat.sub_self]; simp
theorem below_cells {B b : Nat} {a : World} (hb : B ≤ b) : ∀ (vs : List Value) (o : Nat) (w : World), Below B a w → Below B a (w.setCells b o vs)
  | [], _, _, h => h
  | v :: r, o, w, h => below_cells hb r (o + 1) _ (h.setCell (by exact hb) v)
theorem cells_size {b : Nat} : ∀ (vs : List Value) (o : Nat) (w : World), (w.setCells b o vs).heap.size = w.heap.size
  | [], _, _ => rfl
  | v :: r, o, w => by rw [World.setCells, cells_size r (o + 1)]; exact setCell_size _ _ _
theorem there_alloc (w : World) (cs : Array Value) (t : TypeId) (n : Nat) (h : n ≤ cs.size) : (w.alloc (.cells cs t)).there w.heap.size 0 n := by
  intro j hj
  rw [Nat.zero_add, blk_cell (heap_alloc_new _ _) j]
  exact ⟨by rw [Array.getElem?_eq_getElem (by omega)]; rfl, blk_frozen (heap_alloc_new _ _) j⟩
theorem results_cell_mid {P : Program} {fn : Func} {p : Tmp} {ty : TypeId} (h : fn.results = #[.cell p ty]) (tmps : Array Value) (w : World) (g : Nat) (cs : List Value) (d : TypeDesc)
    (hp : tmps.getD p undef = .pointer (some ⟨g, 0, none⟩)) (hc : w.rangeAt g 0 cs)
    (hu : P.underlying ty = some d) (hd : d.isRow = true) (hi : (P.info? ty).map (·.size) = some cs.length) :
    (results fn tmps).run P w = .ok (.agg cs.toArray) w := by
  have hp' : tmps[p]?.getD undef = .pointer (some ⟨g, 0, none⟩) := by simpa using hp
  simp [results, h, hp', asAddr, run_loadVar_mid w g 0 ty cs d hc hu hd hi]
theorem part_put {w : World} {b t m : Nat} {ty : TypeId} {l : List UInt32} (h : w.heap[b]? = some (.cells (part l m).toArray ty (0, 0))) (hl : l.length = t) (hm : t < m) (x : UInt32) :
    (w.setCell ⟨b, t, none⟩ (.int .u32 (x.toNat : Int))).heap[b]? = some (.cells (part (l ++ [x]) m).toArray ty (0, 0)) := by
  have h1 := blk_set h t (W x)
  rw [List.setIfInBounds_toArray, ← hl, part_set _ _ _ (by omega), hl] at h1
  exact h1
end Go.Proofs.Ytpldkplfdbjidaa.Sha
