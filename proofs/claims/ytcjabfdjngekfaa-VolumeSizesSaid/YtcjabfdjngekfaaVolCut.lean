/- volume.Volume.cut: what kin shards share. -/
import Derived.Test.YtcjabfdjngekfaaVolOwn
set_option linter.unusedVariables false
set_option linter.unusedSimpArgs false
namespace Go.Proofs.Ytcjabfdjngekfaa.Vol
open Go.RowKit Go.Proofs.Ytcjabfdjngekfaa.Wd

/-- the cells of a cut -/
def ccells (v : V) : List Value := bs v.bd ++ [.int .i64 v.dt, .int .i64 v.mr, .int .i64 v.lg]
theorem ccells_length (v : V) (h : v.bd.length = 32) : (ccells v).length = 35 := by simp [ccells, bs_length, h]
theorem ccells_one (v : V) : ∀ u ∈ ccells v, u.oneCell' = true := by
  intro u hu
  simp only [ccells, List.mem_append, List.mem_cons, List.not_mem_nil, or_false] at hu
  rcases hu with h | rfl | rfl | rfl
  · exact bs_oneCell _ _ h
  all_goals rfl
theorem infoCut : (Try.prog.info? 132).map (·.size) = some 35 := by kernel_rfl
def czero : List Value := bs zbd ++ [.int .i64 0, .int .i64 0, .int .i64 0]
theorem czero_length : czero.length = 35 := rfl
set_option maxRecDepth 100000 in
theorem built_cut (l : List Value) (h : l.length = 32) (b c d : Int) : Try.prog.built 132 [(0, Value.agg l.toArray), (1, Value.int .i64 b), (2, Value.int .i64 c), (3, Value.int .i64 d)] = some (l ++ [Value.int .i64 b, Value.int .i64 c, Value.int .i64 d]).toArray := by
  rcases l with _ | ⟨a0, l⟩
  · simp at h
  rcases l with _ | ⟨a1, l⟩
  · simp at h
  rcases l with _ | ⟨a2, l⟩
  · simp at h
  rcases l with _ | ⟨a3, l⟩
  · simp at h
  rcases l with _ | ⟨a4, l⟩
  · simp at h
  rcases l with _ | ⟨a5, l⟩
  · simp at h
  rcases l with _ | ⟨a6, l⟩
  · simp at h
  rcases l with _ | ⟨a7, l⟩
  · simp at h
  rcases l with _ | ⟨a8, l⟩
  · simp at h
  rcases l with _ | ⟨a9, l⟩
  · simp at h
  rcases l with _ | ⟨a10, l⟩
  · simp at h
  rcases l with _ | ⟨a11, l⟩
  · simp at h
  rcases l with _ | ⟨a12, l⟩
  · simp at h
  rcases l with _ | ⟨a13, l⟩
  · simp at h
  rcases l with _ | ⟨a14, l⟩
  · simp at h
  rcases l with _ | ⟨a15, l⟩
  · simp at h
  rcases l with _ | ⟨a16, l⟩
  · simp at h
  rcases l with _ | ⟨a17, l⟩
  · simp at h
  rcases l with _ | ⟨a18, l⟩
  · simp at h
  rcases l with _ | ⟨a19, l⟩
  · simp at h
  rcases l with _ | ⟨a20, l⟩
  · simp at h
  rcases l with _ | ⟨a21, l⟩
  · simp at h
  rcases l with _ | ⟨a22, l⟩
  · simp at h
  rcases l with _ | ⟨a23, l⟩
  · simp at h
  rcases l with _ | ⟨a24, l⟩
  · simp at h
  rcases l with _ | ⟨a25, l⟩
  · simp at h
  rcases l with _ | ⟨a26, l⟩
  · simp at h
  rcases l with _ | ⟨a27, l⟩
  · simp at h
  rcases l with _ | ⟨a28, l⟩
  · simp at h
  rcases l with _ | ⟨a29, l⟩
  · simp at h
  rcases l with _ | ⟨a30, l⟩
  · simp at h
  rcases l with _ | ⟨a31, l⟩
  · simp at h
  rcases l with _ | ⟨z, l⟩
  · clear h; kernel_rfl
  · simp at h
set_option maxRecDepth 100000 in
set_option maxHeartbeats 1000000 in
theorem cut_any (v : V) (vp : Value) (w0 w : World) (hv : VIn w v vp) : Calls Try.prog 90 #[.agg (vcells v vp).toArray] w fun e w' => e = .returned (.agg (ccells v).toArray) ∧ Below w.heap.size w w' := by
  obtain ⟨A, c, rfl, hp1, hp2, -⟩ := hv.pc.slice_
  obtain ⟨L, hL⟩ : ∃ L, L = vcells v (.slice A v.pc.length c) := ⟨_, rfl⟩
  obtain ⟨M, hM⟩ : ∃ L, L = bs v.bd := ⟨_, rfl⟩
  have hMl : M.length = 32 := by rw [hM, bs_length, hv.bd]
  have hg0 : ∀ Y, ((w.alloc (.cells L.toArray 46)).alloc Y).heap[w.heap.size]? = some (.cells L.toArray 46 (0, 0)) := fun Y => blk_alloc (heap_alloc_new w _) Y
  have hc : ∀ Y, _ := fun Y => vol_cells hv.bd (by rw [← hL]; exact hg0 Y)
  have hr : ∀ Y, ((w.alloc (.cells L.toArray 46)).alloc Y).rangeAt w.heap.size 0 M := by
    intro Y j u hu
    rw [Nat.zero_add, blk_cell (hg0 Y) j]
    have hj : j < M.length := (List.getElem?_eq_some_iff.1 hu).1
    simp only [List.getElem?_toArray]
    rw [hL, vcells, List.getElem?_append_left (by rw [← hM]; exact hj), ← hM]
    exact hu
  have Hi : Hid ((Try.prog.info? 43).map (·.size) = some M.length) := by show _ = _; rw [hMl]; kernel_rfl
  obtain ⟨R, hR⟩ : ∃ R, R = ccells v := ⟨_, rfl⟩
  have hRl : R.length = 35 := by rw [hR, ccells_length v hv.bd]
  have hbr := built_cut M hMl v.dt v.mr v.lg
  rw [show M ++ [Value.int .i64 v.dt, Value.int .i64 v.mr, Value.int .i64 v.lg] = R by rw [hR, hM]; rfl] at hbr
  have hR1 : ∀ u ∈ R, u.oneCell' = true := by rw [hR]; exact ccells_one v
  have Hir : Hid ((Try.prog.info? 132).map (·.size) = some R.length) := by show _ = _; rw [hRl]; exact infoCut
  rw [← hL, ← hR]
  have Hr := Lib.hid hr
  have Hbr := Lib.hid hbr
  have HR1 := Lib.hid hR1
  have HRl := Lib.hid hRl
  clear hr hbr hR hL hM hR1 hRl hMl hv hg0
  go_enter Try.func90, Try.ntmps90
  go_wp2_with (first
    | (refine wpList_load_mid rfl _ _ rfl w.heap.size 0 rfl M _ (Hr.out _) Try.underlying43 rfl Hi.out ?_)
    | (refine Sha.wpList_build_to rfl _ _ rfl R.toArray ?_ ?_; focus (simp only [List.map_toArray]; exact Hbr.out))
    | (refine Sha.wpList_store_all rfl 132 _ _ rfl (w.heap.size + 1) R czero rfl rfl HR1.out (HRl.out.trans czero_length.symm) Hir.out 132 (alloc_at w _ _) ?_; intro w3 hw3 hg3))
  have hrg : w3.rangeAt (w.heap.size + 1) 0 R := fun j u hu => by rw [Nat.zero_add, blk_cell hw3.out j]; simpa using hu
  refine bodyPost_ret (v := .agg R.toArray) (Sha.results_cell_mid rfl _ _ (w.heap.size + 1) R _ rfl hrg Try.underlying132 rfl Hir.out) rfl ?_
  exact ⟨rfl, (below_two w _ _).grown hg3 (below_two w _ _).size (fun k hk => by injection hk with hk; omega)⟩
end Go.Proofs.Ytcjabfdjngekfaa.Vol
