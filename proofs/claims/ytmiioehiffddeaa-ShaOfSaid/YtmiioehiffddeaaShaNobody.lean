/- ShaNobody's walk. -/
import Derived.Test.YtmiioehiffddeaaShaLaw
set_option linter.unusedVariables false
set_option linter.unusedSimpArgs false
namespace Go.Proofs.Ytmiioehiffddeaa.Sha
open Go.RowKit Go.Proofs.Ytmiioehiffddeaa.Wd

theorem neqSum (w : World) (xs ys : List UInt8) (hx : xs.length = 32) (hy : ys.length = 32) : (binOp .neq 48 (.agg (bs xs).toArray) (.agg (bs ys).toArray)).run Try.prog w = .ok (.bool (!(xs == ys))) w := by
  rw [run_neq_struct, eqSum w xs ys hx hy]; rfl
theorem eqlSum (w : World) (xs ys : List UInt8) (hx : xs.length = 32) (hy : ys.length = 32) : (binOp .eql 48 (.agg (bs xs).toArray) (.agg (bs ys).toArray)).run Try.prog w = .ok (.bool (xs == ys)) w := by
  rw [run_eql_struct, eqSum w xs ys hx hy]; rfl
theorem built_hash : Try.prog.built 59 [] = some Try.zeroCells59 := by kernel_rfl
theorem zero_hash : Try.zeroCells59[0]? = some (.bool false) := by kernel_rfl
set_option maxRecDepth 100000 in
set_option maxHeartbeats 2000000 in
theorem ShaNobody_any (v : Value) (l : List UInt8) (w : World) (_ : Rd w 1 v l.length (bs l)) : Calls Try.prog 5 #[v] w fun e w' => e = .returned (.bool true) ∧ Below w.heap.size w w' := by
  obtain ⟨Z, hZ⟩ : ∃ Z, Z = zsum.toArray := ⟨_, rfl⟩
  have hn : ∀ W, (binOp .neq 48 (.agg Z) (.agg Z)).run Try.prog W = .ok (.bool false) W := by
    intro W; rw [hZ]; have := neqSum W (List.replicate 32 0) (List.replicate 32 0) rfl rfl; rw [beq_self_eq_true] at this; exact this
  have hs1 := sum_nil
  have hs2 := sum_not
  have hbu := built_zsum
  rw [← hZ] at hs1 hs2 hbu
  have Hs1 := Lib.hid hs1
  have Hs2 := Lib.hid hs2
  have Hbu := Lib.hid hbu
  have Hbh := Lib.hid built_hash
  clear hs1 hs2 hbu hZ
  go_enter Try.func5, Try.ntmps5
  go_wp2_with fail
  go_loopw [3] (fun i wr => ∃ k : Nat, k ≤ 2 ∧ i = .int .i64 k ∧ Below w.heap.size w wr) (fun i _ => 2 - (intOf i).toNat)
  case atStart => exact ⟨0, by omega, rfl, Below.refl _ _⟩
  case round =>
    obtain ⟨k, hk, rfl, hB⟩ := hrel
    rcases (show k = 0 ∨ k = 1 ∨ k = 2 by omega) with rfl | rfl | rfl
    · have hB2 := hB.alloc hB.size (.cells Try.zeroCells59 59)
      have hc : (wr.alloc (.cells Try.zeroCells59 59)).cell? ⟨wr.heap.size, 0, none⟩ = some (.bool false) := by rw [blk_cell (heap_alloc_new _ _) 0]; exact zero_hash
      go_wp2_with (first
        | (refine wpList_build_to rfl _ _ rfl Try.zeroCells59 ?_ ?_; focus (rw [List.map_toArray]; exact Hbh.out))
        | (refine wpList_build_to rfl _ _ rfl Z ?_ ?_; focus (rw [List.map_toArray]; exact Hbu.out))
        | (go_at_call 28; refine (take_not _ v _ hc).mono ?_; rintro e w2 ⟨rfl, rfl⟩)
        | (go_at_call 29; refine (Hs2.out _ _ hc).mono ?_; rintro e w3 ⟨rfl, hb3⟩; have hc3 := cell_below hb3 hc; have hB3 := hB2.trans (hb3.mono hB2.size))
        | (go_at_call 31; refine (len_not _ _ hc3).mono ?_; rintro e w4 ⟨rfl, rfl⟩)
        | (go_at_call 27; refine (clone_not _ _ hc3).mono ?_; rintro e w5 ⟨rfl, rfl⟩))
      exact ⟨⟨1, by omega, rfl, hB3⟩, by simp [intOf]⟩
    · have hB2 := hB.alloc hB.size (.cells Try.zeroCells59 59)
      go_wp2_with (first
        | (refine wpList_build_to rfl _ _ rfl Try.zeroCells59 ?_ ?_; focus (rw [List.map_toArray]; exact Hbh.out))
        | (refine wpList_build_to rfl _ _ rfl Z ?_ ?_; focus (rw [List.map_toArray]; exact Hbu.out))
        | (go_at_call 28; refine (take_nil v _).mono ?_; rintro e w2 ⟨rfl, rfl⟩)
        | (go_at_call 29; refine (Hs1.out _).mono ?_; rintro e w3 ⟨rfl, hb3⟩; have hB3 := hB2.trans (hb3.mono hB2.size))
        | (go_at_call 31; refine (len_nil _).mono ?_; rintro e w4 ⟨rfl, rfl⟩)
        | (go_at_call 27; refine (clone_nil _).mono ?_; rintro e w5 ⟨rfl, rfl⟩))
      exact ⟨⟨2, by omega, rfl, hB3⟩, by simp [intOf]⟩
    · go_wp2_with (go_at_call 32; go_must (refine (one_any _).mono ?_); rintro e w' ⟨rfl, hb⟩)
      go_ret
      exact ⟨rfl, below_then hB hB.size hb⟩
end Go.Proofs.Ytmiioehiffddeaa.Sha
