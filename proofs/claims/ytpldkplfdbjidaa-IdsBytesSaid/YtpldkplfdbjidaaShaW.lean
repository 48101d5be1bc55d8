/- SHA's walks: turn. -/
import Derived.Test.YtpldkplfdbjidaaShelf
import Derived.Test.YtpldkplfdbjidaaShaPure
import Derived.Laws.BitsAllLaws
set_option linter.unusedVariables false
set_option linter.unusedSimpArgs false
namespace Go.Proofs.Ytpldkplfdbjidaa.Sha
open Go.RowKit Go.Proofs.Ytpldkplfdbjidaa.Wd

/-! the model's words are UInt32's -/
theorem W_xor (x y : UInt32) : bits .xor .u32 (x.toNat : Int) (y.toNat : Int) = ((wxor x y).toNat : Int) := by
  unfold wxor
  rw [u32_xor_nat _ _ x.toNat_lt y.toNat_lt, UInt32.toNat_xor]
theorem W_and (x y : UInt32) : bits .and .u32 (x.toNat : Int) (y.toNat : Int) = ((wand x y).toNat : Int) := by
  unfold wand
  rw [u32_and_nat _ _ x.toNat_lt y.toNat_lt, UInt32.toNat_and]
theorem W_or (x y : UInt32) : bits .or .u32 (x.toNat : Int) (y.toNat : Int) = ((wor x y).toNat : Int) := by
  unfold wor
  rw [u32_or_nat _ _ x.toNat_lt y.toNat_lt, UInt32.toNat_or]
theorem W_add (x y : UInt32) : IntKind.u32.wrap ((x.toNat : Int) + (y.toNat : Int)) = ((wadd x y).toNat : Int) := by
  unfold wadd
  rw [IntKind.wrap_u32, UInt32.toNat_add]; omega
theorem W_addm (x y : UInt32) : ((x.toNat : Int) + (y.toNat : Int)) % 4294967296 = ((wadd x y).toNat : Int) := by
  rw [← W_add, IntKind.wrap_u32]
theorem W_shl (x : UInt32) (n : Nat) (h : n < 32) : IntKind.u32.wrap ((x.toNat : Int) * 2 ^ n) = ((wshl x n).toNat : Int) := by
  unfold wshl
  rw [IntKind.wrap_u32, UInt32.toNat_shiftLeft, UInt32.toNat_ofNat', Nat.shiftLeft_eq]
  rw [Nat.mod_eq_of_lt (show n < 2 ^ 32 by omega), Nat.mod_eq_of_lt h, Int.natCast_emod, Int.natCast_mul, Int.natCast_pow]
  rfl
theorem W_shr (x : UInt32) (n : Nat) (h : n < 32) : (x.toNat : Int) / 2 ^ n = ((wshr x n).toNat : Int) := by
  unfold wshr
  rw [UInt32.toNat_shiftRight, UInt32.toNat_ofNat', Nat.shiftRight_eq_div_pow]
  rw [Nat.mod_eq_of_lt (show n < 2 ^ 32 by omega), Nat.mod_eq_of_lt h, Int.natCast_ediv, Int.natCast_pow]
  rfl

theorem W_not (x : UInt32) : bits .xor .u32 (if IntKind.u32.signed = true then -1 else IntKind.u32.max) (x.toNat : Int) = ((wnot x).toNat : Int) := by
  have h1 : (if IntKind.u32.signed = true then (-1 : Int) else IntKind.u32.max) = (((0xffffffff : UInt32).toNat : Nat) : Int) := by decide
  have h2 : (0xffffffff : UInt32) ^^^ x = ~~~x := by
    apply UInt32.eq_of_toBitVec_eq
    show BitVec.allOnes 32 ^^^ x.toBitVec = ~~~x.toBitVec
    exact BitVec.allOnes_xor
  rw [h1, W_xor]
  unfold wxor wnot
  rw [h2]
set_option maxRecDepth 100000 in
theorem rot_any (x : UInt32) (n : Nat) (h0 : 0 < n) (h32 : n < 32) (w : World) :
    Calls Try.prog 200 #[W x, .int .i64 (-(n : Int))] w fun e w' => e = .returned (W (rotr x n)) ∧ w' = w := by
  unfold W
  obtain ⟨m, hm⟩ : ∃ m, m = 32 - n := ⟨_, rfl⟩
  have hb : bits .and .u64 (IntKind.u64.wrap (-(n : Int))) 31 = (m : Int) := by
    have h1 : IntKind.u64.wrap (-(n : Int)) = ((18446744073709551616 - n : Nat) : Int) := by rw [IntKind.wrap_u64]; omega
    rw [h1, show (31 : Int) = ((31 : Nat) : Int) from rfl, u64_and_nat _ _ (by omega) (by omega)]
    rw [show (31 : Nat) = 2 ^ 5 - 1 from rfl, Nat.and_two_pow_sub_one_eq_mod]
    omega
  have hs : IntKind.u64.wrap (32 - (m : Int)) = (n : Int) := by rw [IntKind.wrap_u64]; omega
  have e1 := W_shl x m (by omega)
  have e2 := W_shr x n h32
  have e4 : (x.toNat : Int) * 2 ^ m % 4294967296 = ((wshl x m).toNat : Int) := by rw [← e1, IntKind.wrap_u32]
  have e3 := W_or (wshl x m) (wshr x n)
  have hm1 : (0 : Int) ≤ (m : Int) := by omega
  have hm2 : (m : Int) ≤ 32 := by omega
  have hm3 : (0 : Int) ≤ (n : Int) := by omega
  have hm4 : (n : Int) ≤ 32 := by omega
  have hs2 : (32 - (m : Int)) = (n : Int) := by omega
  have Hm := Lib.hid hm
  clear hm
  go_enter Try.func200, Try.ntmps200
  go_wp2
  go_ret
  refine ⟨?_, rfl⟩
  rw [rotr, ← Hm.out]; rfl
set_option maxRecDepth 100000 in
theorem turn_any (x : UInt32) (n : Nat) (h0 : 0 < n) (h32 : n < 32) (w : World) :
    Calls Try.prog 188 #[W x, .int .i64 (n : Int)] w fun e w' => e = .returned (W (rotr x n)) ∧ w' = w := by
  have H := rot_any x n h0 h32 w
  unfold W at H ⊢
  have Hr := Lib.hid H
  clear H
  have hs : IntKind.i64.wrap (-(n : Int)) = -(n : Int) := by rw [IntKind.wrap_i64]; omega
  go_enter Try.func188, Try.ntmps188
  go_wp2_with (go_at_call 200; go_must (refine Hr.out.mono ?_); rintro e w' ⟨rfl, rfl⟩)
  go_ret
  exact ⟨rfl, rfl⟩
theorem turn_w (x : UInt32) (n : Nat) (h0 : 0 < n) (h32 : n < 32) (w : World) :
    Calls Try.prog 188 #[.int .u32 (x.toNat : Int), .int .i64 (n : Int)] w fun e w' => e = .returned (.int .u32 ((rotr x n).toNat : Int)) ∧ w' = w := turn_any x n h0 h32 w
end Go.Proofs.Ytpldkplfdbjidaa.Sha
