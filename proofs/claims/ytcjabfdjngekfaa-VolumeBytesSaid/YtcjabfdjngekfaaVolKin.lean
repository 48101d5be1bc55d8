/- volume.Volume.Kin: two cuts compared. -/
import Derived.Test.YtcjabfdjngekfaaVolCut
import Derived.Test.YtcjabfdjngekfaaEqF
import Derived.Test.YtcjabfdjngekfaaOrdL
set_option linter.unusedVariables false
set_option linter.unusedSimpArgs false
namespace Go.Proofs.Ytcjabfdjngekfaa.Vol
open Go.RowKit Go.Proofs.Ytcjabfdjngekfaa.Wd Go.Proofs.Ytcjabfdjngekfaa.EqF

def kin (a b : V) : Bool := (a.bd == b.bd) && (a.dt == b.dt) && (a.mr == b.mr) && (a.lg == b.lg)
set_option maxRecDepth 100000 in
set_option maxHeartbeats 400000 in
theorem eqCut (w : World) (a b : V) (ha : a.bd.length = 32) (hb : b.bd.length = 32) :
    (Op.equalIn 10000 132 (.agg (ccells a).toArray) (.agg (ccells b).toArray)).run Try.prog w = .ok (kin a b) w := by
  have hs : (Op.equalIn 9999 44 (.agg (bs a.bd).toArray) (.agg (bs b.bd).toArray)).run Try.prog w = .ok (a.bd == b.bd) w := run_equalIn_bytes (P := Try.prog) w 9997 44 5 32 Try.underlying44 Try.underlying5 Sha.sz8 a.bd b.bd ha hb
  rw [run_equalIn_agg w 9999 132 _ _ (by kernel_rfl) (by kernel_rfl)]
  have hfs : (Try.prog.fieldsOf 132).toList.map (fun f => (f.type, f.offset, f.name == "_")) = [(44, 0, false), (3, 32, false), (3, 33, false), (3, 34, false)] := by kernel_rfl
  generalize (Try.prog.fieldsOf 132).toList = fs at hfs ⊢
  rcases fs with _ | ⟨f0, _ | ⟨f1, _ | ⟨f2, _ | ⟨f3, _ | ⟨f4, fs⟩⟩⟩⟩⟩ <;> simp at hfs
  obtain ⟨⟨t0, o0, n0⟩, ⟨t1, o1, n1⟩, ⟨t2, o2, n2⟩, t3, o3, n3⟩ := hfs
  have h1 : (isAgg 44).run Try.prog w = .ok true w := by kernel_rfl
  have h2 : (sizeOf 44).run Try.prog w = .ok 32 w := by kernel_rfl
  have h3 : (isAgg 3).run Try.prog w = .ok false w := by kernel_rfl
  have p0 : ∀ v : V, v.bd.length = 32 → (part 44 (ccells v).toArray 0).run Try.prog w = .ok (.agg (bs v.bd).toArray) w := by
    intro v hv
    refine part_agg h1 h2 ?_
    simp only [List.extract_toArray, ccells]
    congr 1
    rw [List.extract_eq_take_drop]
    simp [List.take_append_of_le_length, bs_length, hv, List.take_of_length_le]
  have p1 : ∀ (v : V) (j : Nat) (u : Value), v.bd.length = 32 → [Value.int .i64 v.dt, .int .i64 v.mr, .int .i64 v.lg][j]? = some u → (part 3 (ccells v).toArray (32 + j)).run Try.prog w = .ok u w := by
    intro v j u hv hu
    refine part_one h3 ?_
    simp only [List.getElem?_toArray]
    rw [ccells, List.getElem?_append_right (by rw [bs_length]; omega), bs_length, hv, Nat.add_sub_cancel_left]
    exact hu
  have hi := fun (x y : Int) => run_equalIn_int (P := Try.prog) w 9998 3 .i64 .i64 x y Try.underlying3
  refine (eqF_cons n0 (by rw [t0, o0]; exact p0 a ha) (by rw [t0, o0]; exact p0 b hb) (by rw [t0]; exact hs)
    (eqF_cons n1 (by rw [t1, o1]; exact p1 a 0 _ ha rfl) (by rw [t1, o1]; exact p1 b 0 _ hb rfl) (by rw [t1]; exact hi a.dt b.dt)
    (eqF_cons n2 (by rw [t2, o2]; exact p1 a 1 _ ha rfl) (by rw [t2, o2]; exact p1 b 1 _ hb rfl) (by rw [t2]; exact hi a.mr b.mr)
    (eqF_cons n3 (by rw [t3, o3]; exact p1 a 2 _ ha rfl) (by rw [t3, o3]; exact p1 b 2 _ hb rfl) (by rw [t3]; exact hi a.lg b.lg) eqF_nil)))).trans ?_
  unfold kin
  simp [Bool.and_assoc]
theorem eqlCut (w : World) (a b : V) (ha : a.bd.length = 32) (hb : b.bd.length = 32) :
    (binOp .eql 132 (.agg (ccells a).toArray) (.agg (ccells b).toArray)).run Try.prog w = .ok (.bool (kin a b)) w := by
  rw [run_eql_struct, eqCut w a b ha hb]; rfl
end Go.Proofs.Ytcjabfdjngekfaa.Vol
