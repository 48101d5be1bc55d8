/- LayPuts' walk -/
import Derived.Test.YtmiioehiffddeaaLayOne
import Derived.Test.YtmiioehiffddeaaRef01W
set_option linter.unusedVariables false
set_option linter.unusedSimpArgs false
namespace Go.Proofs.Ytmiioehiffddeaa.Lay
open Go.RowKit Go.Proofs.Ytmiioehiffddeaa.Wd

set_option maxRecDepth 100000 in
set_option maxHeartbeats 2000000 in
theorem LayPuts_any (vb : Value) (lb : List UInt8) (vv : Value) (lv : List Nat) (vs : Value) (ls : List ByteArray) (w : World)
    (hb : Rd w 1 vb lb.length (bs lb)) (hv : Rd w 1 vv lv.length (lv.map fun (x : Nat) => Value.int .u64 x)) (hlv : ∀ x ∈ lv, x < 18446744073709551616)
    (hs : Rd w 1 vs ls.length (ls.map Value.string)) :
    Calls Try.prog 6 #[vb, vv, vs] w fun e w' => e = .returned (.bool true) ∧ Below w.heap.size w w' := by
  have HB := hb
  have HV := hv
  have HS := hs
  have Hlv := Lib.hid hlv
  clear hlv
  obtain ⟨Ab, cb, rfl, hb1, hb2, _⟩ := hb.slice_
  obtain ⟨Av, cv, rfl, hv1, hv2, _⟩ := hv.slice_
  obtain ⟨As, cs, rfl, hs1, hs2, _⟩ := hs.slice_
  clear hb hv hs
  by_cases h1 : 1000 < lb.length
  · go_enter Try.func6, Try.ntmps6
    go_wp2
    go_ret
    exact ⟨rfl, Below.refl _ _⟩
  by_cases h2 : 60 < lv.length
  · go_enter Try.func6, Try.ntmps6
    go_wp2
    go_ret
    exact ⟨rfl, Below.refl _ _⟩
  by_cases h3 : 20 < ls.length
  · go_enter Try.func6, Try.ntmps6
    go_wp2
    go_ret
    exact ⟨rfl, Below.refl _ _⟩
  have ks : ∀ n, (convert 23 9 (.slice Ab lb.length cb)).run Try.prog (w.drewN n) = .ok (.string (str lb)) (w.drewN n) := fun n => Rd.string (P := Try.prog) (w := w.drewN n) Try.underlying23 Try.underlying5 Try.underlying9 HB
  have ks0 := ks 0
  go_enter Try.func6, Try.ntmps6
  go_wp2
  go_quiet (fail)
  have hD := below_drewN (Below.refl w.heap.size w) nq
  generalize w.drewN nq = w0 at hD ⊢
  clear ks ks0
  go_wp2_with fail
  go_loopw [7, 9] (fun x i wr => ∃ k : Nat, k ≤ lv.length ∧ i = .int .i64 k ∧ x = .string (str (outK lb lv k)) ∧ Below w.heap.size w wr) (fun _ i _ => lv.length - (intOf i).toNat)
  case atStart => exact ⟨0, Nat.zero_le _, rfl, by simp [outK], hD⟩
  case round =>
    obtain ⟨k, hk, rfl, rfl, hB⟩ := hrel
    by_cases hlt : k < lv.length
    · obtain ⟨bv, off, rfl, _, _, _, hc⟩ := HV.at_ (by omega)
      have hc2 := cell_below hB (hc k (by simpa using hlt))
      rw [List.getElem_map] at hc2
      have hx : lv[k] < 18446744073709551616 := Hlv.out _ (List.getElem_mem _)
      have hl1 := flatMap_putN_le (lv.take k) (fun y hy => Hlv.out y (List.mem_of_mem_take hy))
      have hl2 : (lv.take k).length ≤ k := by rw [List.length_take]; omega
      have hl3 : (outK lb lv k).length ≤ 140737488355328 := by simp only [outK, List.length_append]; omega
      have Hp := Lib.hid (fun w => Ref01.PutNumber_any (outK lb lv k) lv[k] w hx hl3)
      rw [← outK_succ lb lv k hlt] at Hp
      clear hc hl1 hl2 hl3 hx
      go_wp2_with (go_at_call 33; go_must (refine (Hp.out _).mono ?_); rintro e w2 ⟨rfl, hb⟩)
      exact ⟨⟨k + 1, by omega, by go_num, rfl, below_then hB hB.size hb⟩, by simp only [intOf]; omega⟩
    · obtain rfl : k = lv.length := by omega
      go_wp2_with fail
      go_loopw [8, 10] (fun y i wr => ∃ k : Nat, k ≤ ls.length ∧ i = .int .i64 k ∧ y = .string (str (lb ++ putTs (ls.take k))) ∧ Hid (∀ x ∈ ls.take k, x.size ≤ 1000) ∧ Below w.heap.size w wr) (fun _ i _ => ls.length - (intOf i).toNat)
      case atStart => exact ⟨0, Nat.zero_le _, rfl, by simp [putTs], by simp [Hid], hB⟩
      case round =>
        clear hB
        obtain ⟨k, hk, rfl, rfl, Hs, hB⟩ := hrel
        by_cases hlt2 : k < ls.length
        · obtain ⟨bv, off, rfl, _, _, _, hc⟩ := HS.at_ (by omega)
          have hc2 := cell_below hB (hc k (by simpa using hlt2))
          rw [List.getElem_map] at hc2
          have hl1 := putTs_le (ls.take k) Hs.out
          have hl2 : (ls.take k).length ≤ k := by rw [List.length_take]; omega
          have hsu := putTs_succ ls k hlt2
          have htk := List.take_succ_eq_append_getElem hlt2
          obtain ⟨x, hx⟩ : ∃ x, x = ls[k] := ⟨_, rfl⟩
          rw [← hx] at hc2 hsu htk
          clear hc hx
          by_cases hbig : 1000 < x.size
          · clear hsu htk hl1 hl2
            go_wp2
            go_ret
            exact ⟨rfl, hB⟩
          · have Hp := Lib.hid (fun w => Ref01.PutText_any (lb ++ putTs (ls.take k)) x.data.toList w (by simp only [List.length_append, data_length]; omega))
            rw [List.append_assoc, ← hsu, str_toList] at Hp
            have Hs2 : Hid (∀ y ∈ ls.take (k + 1), y.size ≤ 1000) := by
              intro y hy
              rw [htk, List.mem_append] at hy
              rcases hy with hy | hy
              · exact Hs.out y hy
              · simp at hy; subst hy; omega
            clear hl1 hl2 hsu htk
            go_wp2_with (go_at_call 34; go_must (refine (Hp.out _).mono ?_); rintro e w2 ⟨rfl, hb⟩)
            exact ⟨⟨k + 1, by omega, by go_num, rfl, Hs2, below_then hB hB.size hb⟩, by simp only [intOf]; omega⟩
        · obtain rfl : k = ls.length := by omega
          have hl1 := flatMap_putN_le lv Hlv.out
          have hl2 := putTs_le ls (by simpa using Hs.out)
          rw [outK_all, List.take_length]
          have HB2 := HB.below hB
          have HV2 := HV.below hB
          have HS2 := HS.below hB
          have hs1 : (lb ++ lv.flatMap putN).length ≤ 140737488355328 := by rw [List.length_append]; omega
          have hs2 : (lb ++ putTs ls).length ≤ 140737488355328 := by rw [List.length_append]; omega
          have Hp := Lib.hid (PutNumber_any _ _ lb lv wr HB2 HV2 Hlv.out hs1)
          clear hl1 hl2 Hs
          go_wp2_with (first
            | (go_at_call 35; go_must (refine Hp.out.mono ?_); rintro e w2 ⟨v2, rfl, ho2, hb2⟩; have ks2 := (Rd.of_own ho2).string (P := Try.prog) (dst := 9) Try.underlying23 Try.underlying5 Try.underlying9; have Hq := Lib.hid (PutText_any _ _ lb ls w2 (HB2.below hb2) (HS2.below hb2) hs2))
            | (go_at_call 36; go_must (refine Hq.out.mono ?_); rintro e w3 ⟨v3, rfl, ho3, hb3⟩; have ks3 := (Rd.of_own ho3).string (P := Try.prog) (dst := 9) Try.underlying23 Try.underlying5 Try.underlying9)
            | (go_at_call 37; go_must (refine (one_any _).mono ?_); rintro e w4 ⟨rfl, hb4⟩))
          go_ret
          have hb5 := below_then hB hB.size hb2
          have hb6 := below_then hb5 hb5.size hb3
          exact ⟨rfl, below_then hb6 hb6.size hb4⟩
end Go.Proofs.Ytmiioehiffddeaa.Lay
