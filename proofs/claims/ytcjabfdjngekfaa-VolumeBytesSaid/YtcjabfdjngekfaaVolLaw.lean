/- Layer 21's laws: what they share. -/
import Derived.Test.YtcjabfdjngekfaaVolOne
import Derived.Test.YtcjabfdjngekfaaRef21C
import Derived.Test.YtcjabfdjngekfaaOrdTS
import Derived.Deep.CutRange
set_option linter.unusedVariables false
set_option linter.unusedSimpArgs false
namespace Go.Proofs.Ytcjabfdjngekfaa.Vol
open Go.RowKit Go.Proofs.Ytcjabfdjngekfaa.Wd Go.Proofs.Ytcjabfdjngekfaa.EqF

def putl (v : V) : List UInt8 := if v.right then v.put else []
def errP (v : V) : Int := if v.right then 0 else 2
theorem put_any (v : V) (vp : Value) (w : World) (hv : VIn w v vp) : Calls Try.prog 33 #[.agg (vcells v vp).toArray] w fun e w' => ∃ v', e = .returned (.tuple #[v', .int .i64 (errP v)]) ∧ Rd w' 1 v' (putl v).length (bs (putl v)) ∧ Below w.heap.size w w' := by
  by_cases hr : v.right = true
  · refine (put_ok v vp w hv hr).mono fun e w' ⟨v', h1, h2, h3⟩ => ⟨v', ?_, ?_, h3⟩
    · rw [h1, errP, if_pos hr]
    · rw [putl, if_pos hr]; exact Rd.of_own h2
  · refine (put_no v vp w w hv (by simpa using hr)).mono fun e w' ⟨h1, h3⟩ => ⟨.slice none 0 0, ?_, ?_, h3⟩
    · rw [h1, errP, if_neg hr]
    · rw [putl, if_neg hr]; exact Rd.nil _ _
set_option maxRecDepth 100000 in
set_option maxHeartbeats 400000 in
theorem eqRef (w : World) (a : V) (ha : a.bd.length = 32) :
    (Op.equalIn 10000 71 (.agg (rcells a).toArray) (.agg (rcells a).toArray)).run Try.prog w = .ok true w := by
  have hs : (Op.equalIn 9999 43 (.agg (bs a.bd).toArray) (.agg (bs a.bd).toArray)).run Try.prog w = .ok (a.bd == a.bd) w := run_equalIn_bytes (P := Try.prog) w 9997 43 5 32 Try.underlying43 Try.underlying5 Sha.sz8 a.bd a.bd ha ha
  rw [run_equalIn_agg w 9999 71 _ _ (by kernel_rfl) (by kernel_rfl)]
  have hfs : (Try.prog.fieldsOf 71).toList.map (fun f => (f.type, f.offset, f.name == "_")) = [(43, 0, false), (3, 32, false), (3, 33, false), (3, 34, false), (3, 35, false), (9, 36, false)] := by kernel_rfl
  generalize (Try.prog.fieldsOf 71).toList = fs at hfs ⊢
  rcases fs with _ | ⟨f0, _ | ⟨f1, _ | ⟨f2, _ | ⟨f3, _ | ⟨f4, _ | ⟨f5, _ | ⟨f6, fs⟩⟩⟩⟩⟩⟩⟩ <;> simp at hfs
  obtain ⟨⟨t0, o0, n0⟩, ⟨t1, o1, n1⟩, ⟨t2, o2, n2⟩, ⟨t3, o3, n3⟩, ⟨t4, o4, n4⟩, t5, o5, n5⟩ := hfs
  have h1 : (isAgg 43).run Try.prog w = .ok true w := by kernel_rfl
  have h2 : (sizeOf 43).run Try.prog w = .ok 32 w := by kernel_rfl
  have h3 : (isAgg 3).run Try.prog w = .ok false w := by kernel_rfl
  have h4 : (isAgg 9).run Try.prog w = .ok false w := by kernel_rfl
  have p0 : (part 43 (rcells a).toArray 0).run Try.prog w = .ok (.agg (bs a.bd).toArray) w := by
    refine part_agg h1 h2 ?_
    simp only [List.extract_toArray, rcells]
    congr 1
    rw [List.extract_eq_take_drop]
    simp [List.take_append_of_le_length, bs_length, ha, List.take_of_length_le]
  have p1 : ∀ (j : Nat) (t : TypeId) (u : Value), (isAgg t).run Try.prog w = .ok false w → [Value.int .i64 a.ix, .int .i64 a.dt, .int .i64 a.mr, .int .i64 a.lg, .string (str a.pc)][j]? = some u → (part t (rcells a).toArray (32 + j)).run Try.prog w = .ok u w := by
    intro j t u h3 hu
    refine part_one h3 ?_
    simp only [List.getElem?_toArray]
    rw [rcells_get a ha]
    exact hu
  have hi := fun (x y : Int) => run_equalIn_int (P := Try.prog) w 9998 3 .i64 .i64 x y Try.underlying3
  have hst := fun (x y : ByteArray) => run_equalIn_string (P := Try.prog) w 9998 9 x y Try.underlying9
  refine (eqF_cons n0 (by rw [t0, o0]; exact p0) (by rw [t0, o0]; exact p0) (by rw [t0]; exact hs)
    (eqF_cons n1 (by rw [t1, o1]; exact p1 0 _ _ h3 rfl) (by rw [t1, o1]; exact p1 0 _ _ h3 rfl) (by rw [t1]; exact hi a.ix a.ix)
    (eqF_cons n2 (by rw [t2, o2]; exact p1 1 _ _ h3 rfl) (by rw [t2, o2]; exact p1 1 _ _ h3 rfl) (by rw [t2]; exact hi a.dt a.dt)
    (eqF_cons n3 (by rw [t3, o3]; exact p1 2 _ _ h3 rfl) (by rw [t3, o3]; exact p1 2 _ _ h3 rfl) (by rw [t3]; exact hi a.mr a.mr)
    (eqF_cons n4 (by rw [t4, o4]; exact p1 3 _ _ h3 rfl) (by rw [t4, o4]; exact p1 3 _ _ h3 rfl) (by rw [t4]; exact hi a.lg a.lg)
    (eqF_cons n5 (by rw [t5, o5]; exact p1 4 _ _ h4 rfl) (by rw [t5, o5]; exact p1 4 _ _ h4 rfl) (by rw [t5]; exact hst (str a.pc) (str a.pc)) eqF_nil)))))).trans ?_
  simp
theorem eqlRef (w : World) (a : V) (ha : a.bd.length = 32) :
    (binOp .eql 71 (.agg (rcells a).toArray) (.agg (rcells a).toArray)).run Try.prog w = .ok (.bool true) w := by
  rw [run_eql_struct, eqRef w a ha]; rfl
/-- a volume that was read is one -/
theorem read_in (b : List UInt8) (hl : b.length ≤ 100000) : (V.read b).1.bd.length = 32 ∧ I64 (V.read b).1.ix ∧ I64 (V.read b).1.dt ∧ I64 (V.read b).1.mr ∧ I64 (V.read b).1.lg ∧ (V.read b).1.pc.length ≤ b.length := by
  have hz : (V.zero).bd.length = 32 ∧ I64 (V.zero).ix ∧ I64 (V.zero).dt ∧ I64 (V.zero).mr ∧ I64 (V.zero).lg ∧ (V.zero).pc.length ≤ b.length := ⟨rfl, by show I64 0; unfold I64; omega, by show I64 0; unfold I64; omega, by show I64 0; unfold I64; omega, by show I64 0; unfold I64; omega, Nat.zero_le _⟩
  unfold V.read
  split
  · exact hz
  · split
    · exact hz
    · split
      · exact hz
      · split
        · rename_i h1 h2 h3 h4
          have hl2 : (b.take (b.length - 32)).length = b.length - 32 := by rw [List.length_take]; omega
          have u := unbe_lt (((b.take (b.length - 32)).drop 39).take 4)
          have hl3 : (((b.take (b.length - 32)).drop 39).take 4).length = 4 := by rw [List.length_take, List.length_drop, hl2]; omega
          rw [hl3] at u
          have hb : ∀ c : UInt8, I64 (c.toNat : Int) := by intro c; have := c.toNat_lt; unfold I64; omega
          refine ⟨V.parse_bd _ (by rw [hl2]; omega), hb _, hb _, hb _, ?_, ?_⟩
          · show I64 ((unbe (((b.take (b.length - 32)).drop 39).take 4) : Nat) : Int)
            unfold I64; omega
          · show ((b.take (b.length - 32)).drop 43).length ≤ _
            rw [List.length_drop, hl2]; omega
        · exact hz
end Go.Proofs.Ytcjabfdjngekfaa.Vol
