/- Small words: a whole array laid over another one; bits of numbers. -/
import Derived.Test.YtpldkplfdbjidaaShaTake
import Derived.Test.YtpldkplfdbjidaaShaLaw
import Derived.Laws.BitsLemmas
set_option linter.unusedVariables false
set_option linter.unusedSimpArgs false
namespace Go.Proofs.Ytpldkplfdbjidaa.Sha
open Go.RowKit Go.Proofs.Ytpldkplfdbjidaa.Wd

theorem i64_and63 (n : Int) : bits .and .i64 n 63 = n % 64 := by
  have h : (BitVec.ofInt 64 63).toNat = 2 ^ 6 - 1 := by decide
  have key : (BitVec.ofInt 64 n &&& BitVec.ofInt 64 63).toNat = (n % ((2 ^ 64 : Nat) : Int)).toNat % 2 ^ 6 := by
    rw [BitVec.toNat_and, BitVec.toNat_ofInt, h, Nat.and_two_pow_sub_one_eq_mod]
  show IntKind.i64.wrap ((BitVec.ofInt 64 n &&& BitVec.ofInt 64 63).toNat : Nat) = n % 64
  rw [key, IntKind.wrap_i64]
  omega
theorem i64_and7 (n : Int) : bits .and .i64 n 7 = n % 8 := by
  have h : (BitVec.ofInt 64 7).toNat = 2 ^ 3 - 1 := by decide
  have key : (BitVec.ofInt 64 n &&& BitVec.ofInt 64 7).toNat = (n % ((2 ^ 64 : Nat) : Int)).toNat % 2 ^ 3 := by
    rw [BitVec.toNat_and, BitVec.toNat_ofInt, h, Nat.and_two_pow_sub_one_eq_mod]
  show IntKind.i64.wrap ((BitVec.ofInt 64 n &&& BitVec.ofInt 64 7).toNat : Nat) = n % 8
  rw [key, IntKind.wrap_i64]
  omega
/-- a whole array is laid over another one -/
theorem wpList_store_all {P : Program} {ops : Array Oper} {rest : List Oper} {o : Oper} {a : Act} {W : World} {Q : Exit → Act → World → Prop} (hgd : o.guard = none) (ty : TypeId) (x y : Operand) (ho : o.op = .store ty x y) (g : Nat) (cs cs0 : List Value)
    (hx : a.eval x = .pointer (some ⟨g, 0, none⟩)) (hy : a.eval y = .agg cs.toArray) (h1 : ∀ v ∈ cs, v.oneCell' = true) (hl : cs.length = cs0.length) (hi : (P.info? ty).map (·.size) = some cs.length) (t : TypeId) (hg : W.heap[g]? = some (.cells cs0.toArray t (0, 0)))
    (h : ∀ W', Hid (W'.heap[g]? = some (.cells cs.toArray t (0, 0))) → W.grownBy W' (some g) → wpList P ops Q rest (a.put o.dst undef) W') : wpList P ops Q (o :: rest) a W := by
  refine wpList_store_mid hgd _ x y ho g 0 cs.toArray hx hy ?_ (by rw [List.size_toArray]; exact hi) (all_oneCell_toArray h1) ?_
  · intro j hj
    rw [Nat.zero_add, blk_cell hg j]
    rw [List.size_toArray] at hj
    simp only [List.getElem?_toArray]
    rw [List.getElem?_eq_getElem (by omega)]
    exact ⟨rfl, blk_frozen hg j⟩
  · exact h _ (heap_setCells_all _ _ _ _ _ hg (by rw [List.size_toArray, hl])) (grown_cells _ _ _ _)
end Go.Proofs.Ytpldkplfdbjidaa.Sha
