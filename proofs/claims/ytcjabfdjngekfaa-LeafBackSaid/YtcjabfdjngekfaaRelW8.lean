/- law26.one: bytes that are carried on once. -/
import Derived.Test.YtcjabfdjngekfaaRelW7
set_option linter.unusedVariables false
set_option linter.unusedSimpArgs false
namespace Go.Proofs.Ytcjabfdjngekfaa.Rel
open Go.RowKit Go.Proofs.Ytcjabfdjngekfaa.Wd Go.Proofs.Ytcjabfdjngekfaa.Use Go.Proofs.Ytcjabfdjngekfaa.Lay

def E1 : E := ⟨[4], 1, [120]⟩
theorem one_pass1 : E.pass ⟨[], 1, [120]⟩ 4 = (E1, 0) := rfl
theorem one_pass2 : E.pass E1 5 = (E.zero, 15) := rfl
theorem one_right : E1.right = true := by decide +kernel
def s1 : List UInt8 := [1, 3, 1, 1, 1, 1, 1, 4, 1, 1, 120]
theorem one_put : putl E1 = s1 := by decide +kernel
theorem one_good : E.good s1 = true := by decide +kernel
theorem one_raw : E.raw s1 = E1 := by
  have h : ((E.raw s1).hops, (E.raw s1).limit, (E.raw s1).inner) = (E1.hops, E1.limit, E1.inner) := by decide +kernel
  injection h with h1 h2
  injection h2 with h2 h3
  show E.mk _ _ _ = E.mk _ _ _
  congr
theorem one_read : E.read s1 = E1 := by rw [E.read, one_good, ← one_raw]; rfl
theorem one_kind : kindOf s1 = 3 := by decide +kernel
theorem one_str : str [120] = ⟨#[120]⟩ := rfl
set_option maxRecDepth 100000 in
set_option maxHeartbeats 4000000 in
theorem one_any (w : World) : Calls Try.prog 45 #[] w fun e w' => e = .returned (.bool true) ∧ Below w.heap.size w w' := by
  have hnew : ∀ W, Calls Try.prog 44 #[.string ⟨#[120]⟩, .int .i64 1, .slice none 0 0] W fun e w' => ∃ v', e = .returned (.agg #[v', .int .i64 1, .string ⟨#[120]⟩]) ∧ Rd w' 1 v' 0 (is []) ∧ Below W.heap.size W w' := fun W =>
    (new_any [] 1 ⟨#[120]⟩ (.slice none 0 0) W (Rd.nil _ _) (by simp)).mono fun e w' ⟨v', h1, h2, h3⟩ => ⟨v', h1, Rd.of_own h2, h3⟩
  have hp1 : ∀ W v, Rd W 1 v 0 (is []) → Calls Try.prog 46 #[.agg #[v, .int .i64 1, .string ⟨#[120]⟩], .int .i64 4] W fun e w' => ∃ v', e = .returned (.tuple #[.agg #[v', .int .i64 1, .string ⟨#[120]⟩], .int .i64 0]) ∧ Rd w' 1 v' 1 (is [4]) ∧ Below W.heap.size W w' := by
    intro W v h
    have h1 := pass_any ⟨[], 1, [120]⟩ v 4 W ⟨h, by unfold I64; simp only; omega, by intro x hx; simp at hx, by simp⟩ (by simp)
    rw [one_pass1] at h1
    exact h1
  have he1 : ∀ W v, Rd W 1 v 1 (is [4]) → EIn W E1 v := fun W v h => ⟨h, by show I64 1; unfold I64; omega, by intro x hx; simp [E1] at hx; subst hx; unfold I64; omega, by simp [E1]⟩
  have hp2 : ∀ W v, Rd W 1 v 1 (is [4]) → Calls Try.prog 46 #[.agg #[v, .int .i64 1, .string ⟨#[120]⟩], .int .i64 5] W fun e w' => ∃ v', e = .returned (.tuple #[.agg #[v', .int .i64 0, .string ⟨#[]⟩], .int .i64 15]) ∧ Rd w' 1 v' 0 (is []) ∧ Below W.heap.size W w' := by
    intro W v h
    have h1 := pass_any E1 v 5 W (he1 W v h) (by simp [E1])
    rw [one_pass2] at h1
    exact h1
  have hput : ∀ W v, Rd W 1 v 1 (is [4]) → Calls Try.prog 36 #[.agg #[v, .int .i64 1, .string ⟨#[120]⟩]] W fun e w' => ∃ v', e = .returned (.tuple #[v', .int .i64 0]) ∧ Rd w' 1 v' 11 (bs s1) ∧ Below W.heap.size W w' := by
    intro W v h
    have h1 := put_any E1 v W (he1 W v h)
    rw [one_put, show errP E1 = 0 by rw [errP, one_right]; rfl] at h1
    exact h1
  have hread : ∀ W, Calls Try.prog 40 #[.string (str s1)] W fun e w' => ∃ v', e = .returned (.tuple #[.agg #[v', .int .i64 1, .string ⟨#[120]⟩], .int .i64 0]) ∧ Rd w' 1 v' 1 (is [4]) ∧ Below W.heap.size W w' := by
    intro W
    have h1 := read_any s1 W (by decide)
    rw [one_read, show errR s1 = 0 by rw [errR, one_good]; rfl] at h1
    exact h1
  have his : ∀ W, Calls Try.prog 43 #[.string (str s1)] W fun e w' => e = .returned (.bool true) ∧ Below W.heap.size W w' := by
    intro W
    have h1 := is_any s1 W
    rw [one_kind] at h1
    exact h1
  have Hnew := Lib.hid hnew
  have Hp1 := Lib.hid hp1
  have Hp2 := Lib.hid hp2
  have Hput := Lib.hid hput
  have Hread := Lib.hid hread
  have His := Lib.hid his
  obtain ⟨ss, hss⟩ : ∃ l, l = s1 := ⟨_, rfl⟩
  rw [← hss] at Hput Hread His
  clear hnew hp1 hp2 hput hread his he1 hss
  go_enter Try.func45, Try.ntmps45
  go_wp2_with (first
    | (go_at_call 44; refine (Hnew.out _).mono ?_; rintro e w1 ⟨v1, rfl, hr1, hb1⟩; obtain ⟨A1, c1, rfl, -, -, -⟩ := hr1.slice_; have Hr1 := Lib.hid (hr1.below (below_one w1 (.cells #[.slice A1 0 c1, .int .i64 1, .string ⟨#[120]⟩] 56))); have hB1 := hb1; clear hr1 hb1)
    | (go_at_call 46; refine (Hp1.out _ _ Hr1.out).mono ?_; rintro e w2 ⟨v2, rfl, hr2, hb2⟩; obtain ⟨A2, c2, rfl, -, -, -⟩ := hr2.slice_; have Hr2 := Lib.hid (hr2.below (below_one w2 (.cells #[.slice A2 1 c2, .int .i64 1, .string ⟨#[120]⟩] 56))); have hB2 := below_go hb2 (hB1.alloc hB1.size _); clear hr2 hb2 Hr1)
    | (go_at_call 46; refine (Hp2.out _ _ Hr2.out).mono ?_; rintro e w3 ⟨v3, rfl, hr3, hb3⟩; obtain ⟨A3, c3, rfl, -, -, -⟩ := hr3.slice_; have hk2 := blk_alloc (blk_below (heap_alloc_new w2 (.cells #[.slice A2 1 c2, .int .i64 1, .string ⟨#[120]⟩] 56)) hb3) (.cells #[.slice A3 0 c3, .int .i64 0, .string ⟨#[]⟩] 56); obtain ⟨j0, j1, j2⟩ := env_cells hk2; have Hr3 := Lib.hid ((Hr2.out.below hb3).below (below_one w3 (.cells #[.slice A3 0 c3, .int .i64 0, .string ⟨#[]⟩] 56))); have hB3 := below_go hb3 (hB2.alloc hB2.size _); clear hr3 hb3 Hr2 hk2)
    | (go_at_call 36; refine (Hput.out _ _ Hr3.out).mono ?_; rintro e w4 ⟨v4, rfl, hr4, hb4⟩; obtain ⟨A4, c4, rfl, -, -, -⟩ := hr4.slice_; have ks := conv_rd _ hr4; have Hr4 := Lib.hid hr4; have hB4 := below_go hb4 (hB3.alloc hB3.size _); clear hr4 hb4 Hr3 j0 j1 j2)
    | (go_at_call 40; refine (Hread.out _).mono ?_; rintro e w5 ⟨v5, rfl, hr5, hb5⟩; have hB5 := below_go hb5 hB4; clear ks; have ks := conv_rd _ ((Hr4.out.below hb5).below (below_one w5 (.cells #[v5, .int .i64 1, .string ⟨#[120]⟩] 56))); obtain ⟨b5, o5, hA5, hx5⟩ : ∃ b o, (∃ c, v5 = .slice (some ⟨b, o, none⟩) 1 c) ∧ w5.cell? ⟨b, o, none⟩ = some (.int .i64 4) := (by obtain ⟨A5, c5, rfl, -, -, -⟩ := hr5.slice_; obtain ⟨b, o, hA, hx⟩ := ints_at hr5 rfl (by omega); subst hA; exact ⟨b, o, ⟨c5, rfl⟩, by have := hx 0 (by omega); simpa using this⟩); obtain ⟨c5, rfl⟩ := hA5; have hx6 := cell_below (below_one w5 (.cells #[.slice (some ⟨b5, o5, none⟩) 1 c5, .int .i64 1, .string ⟨#[120]⟩] 56)) hx5; clear hr5 hb5 Hr4 hx5)
    | (go_at_call 43; refine (His.out _).mono ?_; rintro e w6 ⟨rfl, hb6⟩; have hB6 := below_go hb6 (hB5.alloc hB5.size _)))
  go_ret
  exact ⟨rfl, hB6⟩
end Go.Proofs.Ytcjabfdjngekfaa.Rel
