/- law21.Own: the volume in the reference's form. -/
import Derived.Test.YtcjabfdjngekfaaVolRead
set_option linter.unusedVariables false
set_option linter.unusedSimpArgs false
namespace Go.Proofs.Ytcjabfdjngekfaa.Vol
open Go.RowKit Go.Proofs.Ytcjabfdjngekfaa.Wd

/-- the cells of the reference's volume -/
def rcells (v : V) : List Value := bs v.bd ++ [.int .i64 v.ix, .int .i64 v.dt, .int .i64 v.mr, .int .i64 v.lg, .string (str v.pc)]
theorem rcells_length (v : V) (h : v.bd.length = 32) : (rcells v).length = 37 := by simp [rcells, bs_length, h]
theorem rcells_one (v : V) : ∀ u ∈ rcells v, u.oneCell' = true := by
  intro u hu
  simp only [rcells, List.mem_append, List.mem_cons, List.not_mem_nil, or_false] at hu
  rcases hu with h | rfl | rfl | rfl | rfl | rfl
  · exact bs_oneCell _ _ h
  all_goals rfl
theorem infoRef : (Try.prog.info? 71).map (·.size) = some 37 := by kernel_rfl
def rzero : List Value := bs zbd ++ [.int .i64 0, .int .i64 0, .int .i64 0, .int .i64 0, .string ⟨#[]⟩]
theorem alloc_at (w : World) (X Y : Obj) : ((w.alloc X).alloc Y).heap[w.heap.size + 1]? = some Y := by
  have h := heap_alloc_new (w.alloc X) Y
  rw [alloc_size] at h
  exact h
theorem rzero_length : rzero.length = 37 := rfl
set_option maxRecDepth 100000 in
theorem built_ref (l : List Value) (h : l.length = 32) (a b c d : Int) (s : ByteArray) : Try.prog.built 71 [(0, Value.agg l.toArray), (1, Value.int .i64 a), (2, Value.int .i64 b), (3, Value.int .i64 c), (4, Value.int .i64 d), (5, Value.string s)] = some (l ++ [Value.int .i64 a, Value.int .i64 b, Value.int .i64 c, Value.int .i64 d, Value.string s]).toArray := by
  rcases l with _ | ⟨a0, l⟩
  · simp at h
  rcases l with _ | ⟨a1, l⟩
  · simp at h
  rcases l with _ | ⟨a2, l⟩
  · simp at h
  rcases l with _ | ⟨a3, l⟩
  · simp at h
  rcases l with _ | ⟨a4, l⟩
  · simp at h
  rcases l with _ | ⟨a5, l⟩
  · simp at h
  rcases l with _ | ⟨a6, l⟩
  · simp at h
  rcases l with _ | ⟨a7, l⟩
  · simp at h
  rcases l with _ | ⟨a8, l⟩
  · simp at h
  rcases l with _ | ⟨a9, l⟩
  · simp at h
  rcases l with _ | ⟨a10, l⟩
  · simp at h
  rcases l with _ | ⟨a11, l⟩
  · simp at h
  rcases l with _ | ⟨a12, l⟩
  · simp at h
  rcases l with _ | ⟨a13, l⟩
  · simp at h
  rcases l with _ | ⟨a14, l⟩
  · simp at h
  rcases l with _ | ⟨a15, l⟩
  · simp at h
  rcases l with _ | ⟨a16, l⟩
  · simp at h
  rcases l with _ | ⟨a17, l⟩
  · simp at h
  rcases l with _ | ⟨a18, l⟩
  · simp at h
  rcases l with _ | ⟨a19, l⟩
  · simp at h
  rcases l with _ | ⟨a20, l⟩
  · simp at h
  rcases l with _ | ⟨a21, l⟩
  · simp at h
  rcases l with _ | ⟨a22, l⟩
  · simp at h
  rcases l with _ | ⟨a23, l⟩
  · simp at h
  rcases l with _ | ⟨a24, l⟩
  · simp at h
  rcases l with _ | ⟨a25, l⟩
  · simp at h
  rcases l with _ | ⟨a26, l⟩
  · simp at h
  rcases l with _ | ⟨a27, l⟩
  · simp at h
  rcases l with _ | ⟨a28, l⟩
  · simp at h
  rcases l with _ | ⟨a29, l⟩
  · simp at h
  rcases l with _ | ⟨a30, l⟩
  · simp at h
  rcases l with _ | ⟨a31, l⟩
  · simp at h
  rcases l with _ | ⟨z, l⟩
  · clear h; kernel_rfl
  · simp at h
set_option maxRecDepth 100000 in
set_option maxHeartbeats 1000000 in
theorem own_any (v : V) (vp : Value) (w0 w : World) (hv : VIn w v vp) : Calls Try.prog 47 #[.agg (vcells v vp).toArray] w fun e w' => e = .returned (.agg (rcells v).toArray) ∧ Below w.heap.size w w' := by
  obtain ⟨A, c, rfl, hp1, hp2, -⟩ := hv.pc.slice_
  obtain ⟨L, hL⟩ : ∃ L, L = vcells v (.slice A v.pc.length c) := ⟨_, rfl⟩
  obtain ⟨M, hM⟩ : ∃ L, L = bs v.bd := ⟨_, rfl⟩
  have hMl : M.length = 32 := by rw [hM, bs_length, hv.bd]
  have hg0 : ∀ Y, ((w.alloc (.cells L.toArray 46)).alloc Y).heap[w.heap.size]? = some (.cells L.toArray 46 (0, 0)) := fun Y => blk_alloc (heap_alloc_new w _) Y
  have hc : ∀ Y, _ := fun Y => vol_cells hv.bd (by rw [← hL]; exact hg0 Y)
  have hr : ∀ Y, ((w.alloc (.cells L.toArray 46)).alloc Y).rangeAt w.heap.size 0 M := by
    intro Y j u hu
    rw [Nat.zero_add, blk_cell (hg0 Y) j]
    have hj : j < M.length := (List.getElem?_eq_some_iff.1 hu).1
    simp only [List.getElem?_toArray]
    rw [hL, vcells, List.getElem?_append_left (by rw [← hM]; exact hj), ← hM]
    exact hu
  have hs : ∀ Y, (convert 23 9 (.slice A v.pc.length c)).run Try.prog ((w.alloc (.cells L.toArray 46)).alloc Y) = .ok (.string (str v.pc)) ((w.alloc (.cells L.toArray 46)).alloc Y) := fun Y => Rd.string (P := Try.prog) Try.underlying23 Try.underlying5 Try.underlying9 (hv.pc.below (below_two _ _ _))
  have Hi : Hid ((Try.prog.info? 43).map (·.size) = some M.length) := by show _ = _; rw [hMl]; kernel_rfl
  obtain ⟨R, hR⟩ : ∃ R, R = rcells v := ⟨_, rfl⟩
  have hRl : R.length = 37 := by rw [hR, rcells_length v hv.bd]
  have hbr := built_ref M hMl v.ix v.dt v.mr v.lg (str v.pc)
  rw [show M ++ [Value.int .i64 v.ix, Value.int .i64 v.dt, Value.int .i64 v.mr, Value.int .i64 v.lg, Value.string (str v.pc)] = R by rw [hR, hM]; rfl] at hbr
  have hR1 : ∀ u ∈ R, u.oneCell' = true := by rw [hR]; exact rcells_one v
  have Hir : Hid ((Try.prog.info? 71).map (·.size) = some R.length) := by show _ = _; rw [hRl]; exact infoRef
  rw [← hL, ← hR]
  have Hr := Lib.hid hr
  have Hbr := Lib.hid hbr
  have HR1 := Lib.hid hR1
  have HRl := Lib.hid hRl
  clear hr hbr hR hL hM hR1 hRl hMl hv hg0
  go_enter Try.func47, Try.ntmps47
  go_wp2_with (first
    | (refine wpList_load_mid rfl _ _ rfl w.heap.size 0 rfl M _ (Hr.out _) Try.underlying43 rfl Hi.out ?_)
    | (refine Sha.wpList_build_to rfl _ _ rfl R.toArray ?_ ?_; focus (simp only [List.map_toArray]; exact Hbr.out))
    | (refine Sha.wpList_store_all rfl 71 _ _ rfl (w.heap.size + 1) R rzero rfl rfl HR1.out (HRl.out.trans rzero_length.symm) Hir.out 71 (alloc_at w _ _) ?_; intro w3 hw3 hg3))
  have hrg : w3.rangeAt (w.heap.size + 1) 0 R := fun j u hu => by rw [Nat.zero_add, blk_cell hw3.out j]; simpa using hu
  refine bodyPost_ret (v := .agg R.toArray) (Sha.results_cell_mid rfl _ _ (w.heap.size + 1) R _ rfl hrg Try.underlying71 rfl Hir.out) rfl ?_
  exact ⟨rfl, (below_two w _ _).grown hg3 (below_two w _ _).size (fun k hk => by injection hk with hk; omega)⟩
end Go.Proofs.Ytcjabfdjngekfaa.Vol
