/- Walks: the constants by definition. -/
import Derived.Test.YtcjabfdjngekfaaRef02Pure
import Derived.Test.YtcjabfdjngekfaaShaLaw
set_option linter.unusedVariables false
set_option linter.unusedSimpArgs false
namespace Go.Proofs.Ytcjabfdjngekfaa.Sha
open Go.RowKit Go.Proofs.Ytcjabfdjngekfaa.Wd

theorem ret_bool {a b : Bool} (h : a = b) : Ending.returned (.bool a) = .returned (.bool b) := by rw [h]
set_option maxRecDepth 100000 in
set_option maxHeartbeats 1000000 in
theorem below_any (x p : Nat) (k : Nat) (hx : x < 18446744073709551616) (hp : p < 4294967296) (hk : k = 2 ∨ k = 3) (w : World) :
    Calls Try.prog 164 #[.int .u64 (x : Int), .int .u64 (p : Int), .int .i64 (k : Int)] w fun e w' => e = .returned (.bool (belowN x p k)) ∧ w' = w := by
  have H1 := Lib.hid (Try.bits_Mul64 x x hx hx)
  have hl : lo64 x x < 18446744073709551616 := Nat.mod_lt _ (by omega)
  have hh : hi64 x x < 18446744073709551616 := by unfold hi64; exact Nat.div_lt_of_lt_mul (Nat.mul_lt_mul'' hx hx)
  have H2 := Lib.hid (Try.bits_Mul64 (lo64 x x) x hl hx)
  have H3 := Lib.hid (Try.bits_Mul64 (hi64 x x) x hh hx)
  rcases hk with rfl | rfl
  · obtain ⟨hi, hhi⟩ : ∃ h, h = hi64 x x := ⟨_, rfl⟩
    obtain ⟨lo, hlo⟩ : ∃ h, h = lo64 x x := ⟨_, rfl⟩
    have H1' : Hid (∀ w, Calls Try.prog 179 #[.int .u64 x, .int .u64 x] w fun e w' => e = .returned (.tuple #[.int .u64 (hi : Int), .int .u64 (lo : Int)]) ∧ w' = w) := by rw [hhi, hlo]; exact H1
    have hb : belowN x p 2 = (decide (hi < p) || (hi == p && lo == 0)) := by rw [hhi, hlo]; rfl
    rw [← hhi] at hh
    rw [← hlo] at hl
    have Hb := Lib.hid hb
    clear hhi hlo hb H1 H2 H3
    go_enter Try.func164, Try.ntmps164
    go_wp2_with (go_at_call 179; go_must (refine (H1'.out _).mono ?_); rintro e w1 ⟨rfl, rfl⟩)
    all_goals
      go_ret
      refine ⟨ret_bool ?_, rfl⟩
      rw [Hb.out, Bool.eq_iff_iff]
      simp
      omega
  · obtain ⟨hi, hhi⟩ : ∃ h, h = hi64 x x := ⟨_, rfl⟩
    obtain ⟨lo, hlo⟩ : ∃ h, h = lo64 x x := ⟨_, rfl⟩
    rw [← hhi] at hh H3
    rw [← hlo] at hl H2
    obtain ⟨a, ha⟩ : ∃ h, h = hi64 lo x := ⟨_, rfl⟩
    obtain ⟨b, hb0⟩ : ∃ h, h = lo64 lo x := ⟨_, rfl⟩
    obtain ⟨c, hc⟩ : ∃ h, h = hi64 hi x := ⟨_, rfl⟩
    obtain ⟨d, hd⟩ : ∃ h, h = lo64 hi x := ⟨_, rfl⟩
    have H1' : Hid (∀ w, Calls Try.prog 179 #[.int .u64 x, .int .u64 x] w fun e w' => e = .returned (.tuple #[.int .u64 (hi : Int), .int .u64 (lo : Int)]) ∧ w' = w) := by rw [hhi, hlo]; exact H1
    have H2' : Hid (∀ w, Calls Try.prog 179 #[.int .u64 lo, .int .u64 x] w fun e w' => e = .returned (.tuple #[.int .u64 (a : Int), .int .u64 (b : Int)]) ∧ w' = w) := by rw [ha, hb0]; exact H2
    have H3' : Hid (∀ w, Calls Try.prog 179 #[.int .u64 hi, .int .u64 x] w fun e w' => e = .returned (.tuple #[.int .u64 (c : Int), .int .u64 (d : Int)]) ∧ w' = w) := by rw [hc, hd]; exact H3
    obtain ⟨t, ht⟩ : ∃ t, t = top3 x := ⟨_, rfl⟩
    have ht2 : t = (a + d) % 18446744073709551616 := by rw [ht, top3, ← hhi, ← hlo, ← ha, ← hd]
    have hw1 : IntKind.u64.wrap ((a : Int) + (d : Int)) = (t : Int) := by rw [IntKind.wrap_u64]; omega
    obtain ⟨q, hq⟩ : ∃ q, q = p * 4294967296 := ⟨_, rfl⟩
    have hw2 : IntKind.u64.wrap ((p : Int) * 4294967296) = (q : Int) := by rw [IntKind.wrap_u64]; omega
    have hw3 : (p : Int) * 4294967296 = (q : Int) := by omega
    have hw4 : ((a : Int) + (d : Int)) % 18446744073709551616 = (t : Int) := by omega
    have hb : belowN x p 3 = (decide (t < q) || (t == q && b == 0)) := by rw [hb0, hlo, ht, hq]; rfl
    have Hb := Lib.hid hb
    clear hhi hlo hb H1 H2 H3 hc hd ha hb0 ht ht2 hq
    go_enter Try.func164, Try.ntmps164
    go_wp2_with (go_at_call 179; first | ((with_reducible refine (H1'.out _).mono ?_); rintro e w1 ⟨rfl, rfl⟩) | ((with_reducible refine (H2'.out _).mono ?_); rintro e w1 ⟨rfl, rfl⟩) | ((with_reducible refine (H3'.out _).mono ?_); rintro e w1 ⟨rfl, rfl⟩))

    all_goals
      go_ret
      refine ⟨ret_bool ?_, rfl⟩
      rw [Hb.out, Bool.eq_iff_iff]
      simp
      omega
end Go.Proofs.Ytcjabfdjngekfaa.Sha
