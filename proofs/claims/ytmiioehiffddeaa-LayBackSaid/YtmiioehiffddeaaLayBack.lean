/- LayBack's walk -/
import Derived.Test.YtmiioehiffddeaaLayOne
import Derived.Test.YtmiioehiffddeaaLayBackPure
import Derived.Test.YtmiioehiffddeaaLayOneW
import Derived.Test.YtmiioehiffddeaaOrd
set_option linter.unusedVariables false
set_option linter.unusedSimpArgs false
namespace Go.Proofs.Ytmiioehiffddeaa.Lay
open Go.RowKit Go.Proofs.Ytmiioehiffddeaa.Wd

set_option maxRecDepth 100000 in
set_option maxHeartbeats 4000000 in
theorem LayBack_any (vv : Value) (lv : List Nat) (vs : Value) (ls : List ByteArray) (w : World)
    (hv : Rd w 1 vv lv.length (lv.map fun (x : Nat) => Value.int .u64 x)) (hlv : ∀ x ∈ lv, x < 18446744073709551616)
    (hs : Rd w 1 vs ls.length (ls.map Value.string)) :
    Calls Try.prog 7 #[vv, vs] w fun e w' => e = .returned (.bool true) ∧ Below w.heap.size w w' := by
  have HV := hv
  have HS := hs
  have Hlv := Lib.hid hlv
  clear hlv
  obtain ⟨Av, cv, rfl, hv1, hv2, _⟩ := hv.slice_
  obtain ⟨As, cs, rfl, hs1, hs2, _⟩ := hs.slice_
  clear hv hs
  by_cases h2 : 60 < lv.length
  · go_enter Try.func7, Try.ntmps7
    go_wp2
    go_ret
    exact ⟨rfl, Below.refl _ _⟩
  by_cases h3 : 20 < ls.length
  · go_enter Try.func7, Try.ntmps7
    go_wp2
    go_ret
    exact ⟨rfl, Below.refl _ _⟩
  obtain ⟨M, hM⟩ : ∃ M, M = max lv.length ls.length := ⟨_, rfl⟩
  have HM := Lib.hid hM
  have hM60 : M ≤ 60 := by omega
  have hMv : lv.length ≤ M := by omega
  have hMs : ls.length ≤ M := by omega
  clear hM
  go_enter Try.func7, Try.ntmps7
  go_wp2_with fail
  go_loopw [5, 6, 7] (fun v n i wr => ∃ k m : Nat, k ≤ M ∧ i = .int .i64 k ∧ n = .int .i64 m ∧ m ≤ 2 * k ∧ Hid (m = 0 ↔ k = 0) ∧ Rd wr 1 v (mixTo lv ls k).length (bs (mixTo lv ls k)) ∧ Hid (∀ j, j < k → ∀ s, ls[j]? = some s → s.size ≤ 1000) ∧ Below w.heap.size w wr) (fun _ _ i _ => M - (intOf i).toNat)
  case atStart => exact ⟨0, 0, Nat.zero_le _, rfl, rfl, by omega, by simp [Hid], Rd.nil _ _, by intro j hj; omega, Below.refl _ _⟩
  case round =>
    obtain ⟨k, m, hk, rfl, rfl, hm, Hm, HR, Hs, hB⟩ := hrel
    have hml := mixTo_le Hlv.out k Hs.out
    have hzr := hB.size
    by_cases hlt : k < M
    · skip
      by_cases hkv : k < lv.length
      · obtain ⟨bv, off, rfl, _, _, _, hc⟩ := HV.at_ (by omega)
        have hc2 := cell_below hB (hc k (by simpa using hkv))
        rw [List.getElem_map] at hc2
        have hxl : lv[k] < 18446744073709551616 := Hlv.out _ (List.getElem_mem _)
        have hna : numAt lv k = putN lv[k] := by simp [numAt, List.getElem?_eq_getElem hkv]
        obtain ⟨x, hx⟩ : ∃ x, x = lv[k] := ⟨_, rfl⟩
        rw [← hx] at hc2 hxl hna
        clear hc hx
        have Hna := Lib.hid hna
        clear hna
        have hsz1 : (mixTo lv ls k ++ [x].flatMap putN).length ≤ 140737488355328 := by
          have := blen_le hxl
          simp only [List.length_append, List.flatMap_cons, List.flatMap_nil, List.append_nil, putN_length]; omega
        have hb1 : Below wr.heap.size wr (wr.alloc (.cells #[.int .u64 (x : Int)] 51)) := (Below.refl _ _).alloc (Nat.le_refl _) _
        by_cases hks : k < ls.length
        · obtain ⟨bs', off', rfl, _, _, _, hc⟩ := HS.at_ (by omega)
          have hcy := hc k (by simpa using hks)
          rw [List.getElem_map] at hcy
          have hta : txtAt ls k = putT ls[k].data.toList := by simp [txtAt, List.getElem?_eq_getElem hks]
          have hgy : ls[k]? = some ls[k] := List.getElem?_eq_getElem hks
          obtain ⟨y, hy⟩ : ∃ y, y = ls[k] := ⟨_, rfl⟩
          rw [← hy] at hcy hta hgy
          clear hc hy
          have Hta := Lib.hid hta
          have Hgy := Lib.hid hgy
          clear hta hgy
          by_cases hbig : 1000 < y.size
          · go_wp2_with (go_at_call 35; go_must (refine (PutNumber_any _ _ (mixTo lv ls k) [x] _ (HR.below hb1) (Rd.lit wr 1 1 [.int .u64 (x : Int)] 51 rfl (by simp [maxLen])) (by simpa using hxl) hsz1).mono ?_); rintro e w2 ⟨v2, rfl, ho2, hb2⟩; have HR2 := Rd.of_own ho2; have hB2 := below_then (below_then hB hB.size hb1) (by simp only [alloc_size]; omega) hb2; have hz2 := hB2.size; have hc4 := cell_below hB2 hcy)
            go_ret
            exact ⟨rfl, hB2⟩
          · have hsz2 : (mixTo lv ls k ++ [x].flatMap putN ++ putTs [y]).length ≤ 140737488355328 := by
              have := blen_le hxl
              have := blen_le (v := y.size) (by omega)
              simp only [List.length_append, List.flatMap_cons, List.flatMap_nil, List.append_nil, putN_length, putTs, putT, data_length]; omega
            go_wp2_with (first | (go_at_call 35; go_must (refine (PutNumber_any _ _ (mixTo lv ls k) [x] _ (HR.below hb1) (Rd.lit wr 1 1 [.int .u64 (x : Int)] 51 rfl (by simp [maxLen])) (by simpa using hxl) hsz1).mono ?_); rintro e w2 ⟨v2, rfl, ho2, hb2⟩; have HR2 := Rd.of_own ho2; have hB2 := below_then (below_then hB hB.size hb1) (by simp only [alloc_size]; omega) hb2; have hz2 := hB2.size; have hc4 := cell_below hB2 hcy) | (go_at_call 36; go_must (refine (PutText_any _ _ (mixTo lv ls k ++ [x].flatMap putN) [y] _ (HR2.below ((Below.refl _ _).alloc (Nat.le_refl _) _)) (Rd.lit w2 1 1 [.string y] 9 rfl (by simp [maxLen])) hsz2).mono ?_); rintro e w3 ⟨v3, rfl, ho3, hb3⟩; have HR3 := Rd.of_own ho3; have hB3 := below_then (hB2.alloc hB2.size _) (by simp only [alloc_size]; omega) hb3))
            refine ⟨⟨k + 1, m + 2, by omega, by go_num, by go_num, by omega, by simp [Hid], ?_, ?_, hB3⟩, by simp only [intOf]; omega⟩
            · have he : mixTo lv ls (k + 1) = mixTo lv ls k ++ [x].flatMap putN ++ putTs [y] := by
                rw [mixTo, mixAt, Hna.out, Hta.out]; simp [putTs]
              rw [he]; exact HR3
            · intro j hj s hs
              by_cases hjk : j = k
              · subst hjk; rw [Hgy.out] at hs; injection hs with hs; subst hs; omega
              · exact Hs.out j (by omega) s hs
        · have hta : txtAt ls k = [] := by simp [txtAt, List.getElem?_eq_none (show ls.length ≤ k by omega)]
          have Hta := Lib.hid hta
          clear hta
          go_wp2_with (go_at_call 35; go_must (refine (PutNumber_any _ _ (mixTo lv ls k) [x] _ (HR.below hb1) (Rd.lit wr 1 1 [.int .u64 (x : Int)] 51 rfl (by simp [maxLen])) (by simpa using hxl) hsz1).mono ?_); rintro e w2 ⟨v2, rfl, ho2, hb2⟩; have HR2 := Rd.of_own ho2; have hB2 := below_then (below_then hB hB.size hb1) (by simp only [alloc_size]; omega) hb2; have hz2 := hB2.size)
          refine ⟨⟨k + 1, m + 1, by omega, by go_num, by go_num, by omega, by simp [Hid], ?_, ?_, hB2⟩, by simp only [intOf]; omega⟩
          · have he : mixTo lv ls (k + 1) = mixTo lv ls k ++ [x].flatMap putN := by
              rw [mixTo, mixAt, Hna.out, Hta.out]; simp
            rw [he]; exact HR2
          · intro j hj s hs
            have : j < ls.length := (List.getElem?_eq_some_iff.1 hs).1
            exact Hs.out j (by omega) s hs
      · have hna : numAt lv k = [] := by simp [numAt, List.getElem?_eq_none (show lv.length ≤ k by omega)]
        have Hna := Lib.hid hna
        clear hna
        have hks : k < ls.length := by have := HM.out; omega
        obtain ⟨bs', off', rfl, _, _, _, hc⟩ := HS.at_ (by omega)
        have hcy := hc k (by simpa using hks)
        rw [List.getElem_map] at hcy
        have hta : txtAt ls k = putT ls[k].data.toList := by simp [txtAt, List.getElem?_eq_getElem hks]
        have hgy : ls[k]? = some ls[k] := List.getElem?_eq_getElem hks
        obtain ⟨y, hy⟩ : ∃ y, y = ls[k] := ⟨_, rfl⟩
        rw [← hy] at hcy hta hgy
        clear hc hy
        have Hta := Lib.hid hta
        have Hgy := Lib.hid hgy
        clear hta hgy
        have hc4 := cell_below hB hcy
        by_cases hbig : 1000 < y.size
        · go_wp2
          go_ret
          exact ⟨rfl, hB⟩
        · have hsz2 : (mixTo lv ls k ++ putTs [y]).length ≤ 140737488355328 := by
            have := blen_le (v := y.size) (by omega)
            simp only [List.length_append, List.flatMap_cons, List.flatMap_nil, List.append_nil, putN_length, putTs, putT, data_length]; omega
          go_wp2_with (go_at_call 36; go_must (refine (PutText_any _ _ (mixTo lv ls k) [y] _ (HR.below ((Below.refl _ _).alloc (Nat.le_refl _) _)) (Rd.lit wr 1 1 [.string y] 9 rfl (by simp [maxLen])) hsz2).mono ?_); rintro e w3 ⟨v3, rfl, ho3, hb3⟩; have HR3 := Rd.of_own ho3; have hB3 := below_then (hB.alloc hB.size _) (by simp only [alloc_size]; omega) hb3)
          refine ⟨⟨k + 1, m + 1, by omega, by go_num, by go_num, by omega, by simp [Hid], ?_, ?_, hB3⟩, by simp only [intOf]; omega⟩
          · have he : mixTo lv ls (k + 1) = mixTo lv ls k ++ putTs [y] := by
              rw [mixTo, mixAt, Hna.out, Hta.out]; simp [putTs]
            rw [he]; exact HR3
          · intro j hj s hs
            by_cases hjk : j = k
            · subst hjk; rw [Hgy.out] at hs; injection hs with hs; subst hs; omega
            · exact Hs.out j (by omega) s hs
    · obtain rfl : k = M := by omega
      have hls : ∀ s ∈ ls, s.size ≤ 1000 := by
        intro s hs
        obtain ⟨j, hj, rfl⟩ := List.getElem_of_mem hs
        exact Hs.out j (by omega) _ (List.getElem?_eq_getElem hj)
      have hmix : mixTo lv ls k = mixFrom lv ls k 0 := by
        have := mixTo_from lv ls k 0
        rw [Nat.zero_add] at this
        simpa [mixTo] using this
      have hne : ∀ i, i < k → i < lv.length ∨ i < ls.length := by intro i hi; have := HM.out; omega
      have Hls := Lib.hid hls
      have Hmix := Lib.hid hmix
      have Hne := Lib.hid hne
      clear hls hmix hne Hs
      obtain ⟨B, hBd⟩ : ∃ B, B = mixTo lv ls k := ⟨_, rfl⟩
      rw [← hBd] at HR hml
      rw [← hBd] at Hmix
      have HBd := Lib.hid hBd
      clear hBd
      obtain ⟨Ao, co, rfl, ho1, ho2, _⟩ := HR.slice_
      obtain ⟨wo, rfl⟩ : ∃ wo : World, wo = wr := ⟨_, rfl⟩
      have hdk1 : decide ((k : Int) < (lv.length : Int)) = false := decide_eq_false (by omega)
      have hdk2 : decide (k < lv.length) = false := decide_eq_false (by omega)
      have hdk3 : decide ((k : Int) < (ls.length : Int)) = false := decide_eq_false (by omega)
      have hdk4 : decide (k < ls.length) = false := decide_eq_false (by omega)
      go_wp2_with fail
      go_loopw [8] (fun c wq => ∃ j : Nat, j ≤ 2 ∧ c = .int .i64 j ∧ Below wo.heap.size wo wq) (fun c _ => 2 - (intOf c).toNat)
      case atStart => exact ⟨0, by omega, rfl, Below.refl _ _⟩
      case round =>
        obtain ⟨j, hj, rfl, hBo⟩ := hrel
        obtain ⟨wq, rfl⟩ : ∃ wq : World, wq = wr := ⟨_, rfl⟩
        have hBq := below_then hB hB.size hBo
        have hzo := hBo.size
        have hnil : (k = 0 ∧ m = 0 ∧ B.length = 0) ∨ (0 < k ∧ 0 < m ∧ 0 < B.length) := by
          have h1 := Hm.out
          have h2 := Hmix.out
          rcases Nat.eq_zero_or_pos k with h0 | h0
          · left
            rw [h0, mixFrom] at h2
            exact ⟨h0, h1.2 h0, by rw [h2]; rfl⟩
          · right
            refine ⟨h0, by omega, ?_⟩
            obtain ⟨d, hd⟩ : ∃ d, k = d + 1 := ⟨k - 1, by omega⟩
            rw [hd, mixFrom] at h2
            have h3 := mixAt_ne (lv := lv) (ls := ls) 0 (Hne.out 0 h0)
            rw [h2, List.length_append]
            have := List.length_pos_iff.2 h3
            omega
        by_cases hj2 : j = 2 ∨ B.length < j
        · rcases hnil with ⟨hk0, hm0, hb0⟩ | ⟨hk0, hm0, hb0⟩
          · have hmb1 : decide ((0 : Int) < (m : Int)) = false := decide_eq_false (by omega)
            have hmb2 : decide (0 < m) = false := decide_eq_false (by omega)
            have hbb1 : decide ((0 : Int) < (B.length : Int)) = false := decide_eq_false (by omega)
            have hbb2 : decide (0 < B.length) = false := decide_eq_false (by omega)
            by_cases hj3 : j = 2
            all_goals
              go_wp2_with (go_at_call 37; go_must (refine (one_any _).mono ?_); rintro e w4 ⟨rfl, hb4⟩)
              go_ret
              exact ⟨rfl, below_then hBq hBq.size hb4⟩
          · have hmb1 : decide ((0 : Int) < (m : Int)) = true := decide_eq_true (by omega)
            have hmb2 : decide (0 < m) = true := decide_eq_true (by omega)
            have hbb1 : decide ((0 : Int) < (B.length : Int)) = true := decide_eq_true (by omega)
            have hbb2 : decide (0 < B.length) = true := decide_eq_true (by omega)
            have hj3 : j = 2 := by omega
            go_wp2_with (go_at_call 37; go_must (refine (one_any _).mono ?_); rintro e w4 ⟨rfl, hb4⟩)
            go_ret
            exact ⟨rfl, below_then hBq hBq.size hb4⟩
        · have hjl : ¬ B.length < j := by omega
          have hj2' : ¬ j = 2 := by omega
          clear hnil hj2
          have hwrap : IntKind.i64.wrap ((B.length : Int) - (j : Int)) = ((B.length - j : Nat) : Int) := by rw [IntKind.wrap_i64]; omega
          have hRz := Rd.take (HR.below hBo) (B.length - j) (by omega)
          obtain ⟨Z, hZ⟩ : ∃ Z, Z = B.take (B.length - j) := ⟨_, rfl⟩
          rw [← hZ] at hRz
          have ksz := Rd.string (w := wq) (P := Try.prog) (dst := 9) Try.underlying23 Try.underlying5 Try.underlying9 hRz
          have HZ := Lib.hid hZ
          clear hZ
          have hj1 : j < 2 := by omega
          go_wp2_with (go_at_call 38; go_must (refine (Read_any Z _).mono ?_); rintro e w1 ⟨rfl, hr1, hb1⟩)
          have hzq := hBq.size
          go_loopw [10, 11] (fun sm i wi => ∃ q : Nat, q ≤ k ∧ i = .int .i64 q ∧ sm = .bool (runTo lv ls (⟨Z, 0⟩, true) q).2 ∧ RdrAt wi wq.heap.size (runTo lv ls (⟨Z, 0⟩, true) q).1 ∧ Below wq.heap.size wq wi) (fun _ i _ => k - (intOf i).toNat)
          case atStart => exact ⟨0, Nat.zero_le _, rfl, rfl, hr1, hb1⟩
          case round =>
            clear hr1 hb1
            obtain ⟨q, hq, rfl, rfl, hr, hbi⟩ := hrel
            have hrs : runTo lv ls (⟨Z, 0⟩, true) (q + 1) = stepTs ls q (stepNs lv q (runTo lv ls (⟨Z, 0⟩, true) q)) := rfl
            obtain ⟨⟨r, sm⟩, hS⟩ : ∃ x, x = runTo lv ls (⟨Z, 0⟩, true) q := ⟨_, rfl⟩
            rw [← hS] at hr hrs ⊢
            have HS2 := Lib.hid hS
            clear hS
            simp only at hr
            have hBi := below_then hBq hBq.size hbi
            by_cases hqk : q < k
            · skip
              cases sm with
              | false =>
                have hrs2 : runTo lv ls (⟨Z, 0⟩, true) (q + 1) = (r, false) := by
                  rw [hrs]
                  unfold stepTs stepNs stepN stepT
                  cases lv[q]? <;> cases ls[q]? <;> simp
                have Hrs := Lib.hid hrs2
                clear hrs hrs2
                have hsh : (q < lv.length ∧ q < ls.length) ∨ (q < lv.length ∧ ls.length ≤ q) ∨ (lv.length ≤ q ∧ q < ls.length) := by have := Hne.out q hqk; omega
                rcases hsh with ⟨hqv, hqs⟩ | ⟨hqv, hqs⟩ | ⟨hqv, hqs⟩
                all_goals
                  go_wp2
                  go_quiet (fail)
                  go_wp2
                  refine ⟨⟨q + 1, by omega, by go_num, ?_, ?_, below_drewN hbi _⟩, by simp only [intOf]; omega⟩
                  · rw [Hrs.out]
                  · rw [Hrs.out]; exact hr
              | true =>
                have hsh : (q < lv.length ∧ q < ls.length) ∨ (q < lv.length ∧ ls.length ≤ q) ∨ (lv.length ≤ q ∧ q < ls.length) := by have := Hne.out q hqk; omega
                rcases hsh with ⟨hqv, hqs⟩ | ⟨hqv, hqs⟩ | ⟨hqv, hqs⟩
                · obtain ⟨bv, off, rfl, _, _, _, hc⟩ := HV.at_ (by omega)
                  have hcv := hc q (by simpa using hqv)
                  rw [List.getElem_map] at hcv
                  have hbv2 : bv < wq.heap.size := Nat.lt_of_lt_of_le (World.block_lt_of_cell? w _ hcv) hBq.size
                  have hcx := cell_below hBi hcv
                  have hlv2 : lv[q]? = some lv[q] := List.getElem?_eq_getElem hqv
                  obtain ⟨x, hx⟩ : ∃ x, x = lv[q] := ⟨_, rfl⟩
                  rw [← hx] at hcx hlv2
                  clear hc hcv hx
                  obtain ⟨bs', off', rfl, _, _, _, hc⟩ := HS.at_ (by omega)
                  have hcw := hc q (by simpa using hqs)
                  rw [List.getElem_map] at hcw
                  have hbq2 : bs' < wq.heap.size := Nat.lt_of_lt_of_le (World.block_lt_of_cell? w _ hcw) hBq.size
                  have hcy := cell_below hBi hcw
                  have hls2 : ls[q]? = some ls[q] := List.getElem?_eq_getElem hqs
                  obtain ⟨y, hy⟩ : ∃ y, y = ls[q] := ⟨_, rfl⟩
                  rw [← hy] at hcy hls2
                  clear hc hcw hy
                  have hg1 : decide ((lv.length : Int) ≤ (q : Int)) = false := by simp; omega
                  have hg2 : decide ((ls.length : Int) ≤ (q : Int)) = false := by simp; omega
                  have hg3 : decide (lv.length ≤ q) = false := by simp; omega
                  have hg4 : decide (ls.length ≤ q) = false := by simp; omega
                  have hg5 : (0 : Int) ≤ (q : Int) := by omega
                  have hg6 : (q : Int) < (ls.length : Int) := by omega
                  have hg7 : (q : Int) ≤ (ls.length : Int) := by omega
                  have hg8 : (q : Int) < (lv.length : Int) := by omega
                  have hg9 : (q : Int) ≤ (lv.length : Int) := by omega
                  have Hnu := Lib.hid (fun W (hW : RdrAt W wq.heap.size r) => Number_any wq.heap.size r W hW)
                  by_cases hnx : r.number.1 = x
                  · skip
                    have hrs2 : runTo lv ls (⟨Z, 0⟩, true) (q + 1) = ((r.number.2.text 1000).2, decide ((r.number.2.text 1000).1 = y.data.toList)) := by
                      rw [hrs]; unfold stepTs stepNs stepT stepN; rw [hls2, hlv2]; simp [hnx]
                    have Hrs := Lib.hid hrs2
                    clear hls2 hlv2 hrs hrs2
                    obtain ⟨bb, hbb⟩ : ∃ bb, bb = decide ((r.number.2.text 1000).1 = y.data.toList) := ⟨_, rfl⟩
                    have hbe : ((r.number.2.text 1000).1 == y.toList) = bb := by rw [hbb, ByteArray_toList]; by_cases h : (r.number.2.text 1000).1 = y.data.toList <;> simp [h]
                    rw [← hbb] at Hrs
                    obtain ⟨tx, htx⟩ : ∃ tx, tx = (r.number.2.text 1000).1 := ⟨_, rfl⟩
                    have Htx := Lib.hid (fun W (hW : RdrAt W wq.heap.size r.number.2) => Text_any wq.heap.size r.number.2 1000 W hW (by omega))
                    rw [← htx] at Htx hbe
                    rw [hnx] at Hnu
                    clear hbb htx hnx
                    go_wp2
                    (refine Ord.wp_region_ord [(false, 0), (false, 1), (false, 2), (false, 3), (false, 4), (false, 5), (false, 6), (false, 7), (false, 9), (false, 10), (false, 11), (false, 12), (true, 8), (false, 13), (false, 14), (false, 15), (false, 16), (false, 17), (false, 18), (false, 19), (false, 20), (false, 21), (false, 22), (false, 24), (false, 25), (false, 26), (false, 27), (true, 23), (false, 28), (false, 29), (false, 30), (false, 31)] (fun w' => w'.cell? ⟨bs', off' + q, none⟩ = some (.string y) ∧ w'.cell? ⟨bv, off + q, none⟩ = some (.int .u64 (x : Int))) (by kernel_rfl) (by kernel_rfl) (by kernel_rfl) (by kernel_rfl) (by exact ⟨hcy, hcx⟩) ?_; simp only [Ord.ordOps, List.filterMap_cons, List.filterMap_nil, List.getElem?_toArray, List.getElem?_cons_succ, List.getElem?_cons_zero, Option.map_some]; repeat (first | (refine Ord.wpOrd_skip ?_ ?_; (focus (go_simp; (try (intro h; cases h)); done)); simp only [Act.put, List.setIfInBounds_toArray, List.set_cons_zero, List.set_cons_succ]) | (refine Ord.wpOrd_take (v := ?_) ?_ ?_ ?_; rotate_left; (focus (go_simp; done)); (focus (intro w' hSw; (try dsimp only at hSw); go_simp; (try with_reducible rfl); done)); simp only [Act.put, List.setIfInBounds_toArray, List.set_cons_zero, List.set_cons_succ])))
                    (refine Ord.wpOrd_call ?_ (fun K hK => ?_); (focus (go_simp; done)); go_simp)
                    go_at_call 39
                    refine (Hnu.out _ (by exact hr)).mono ?_
                    rintro e w2 ⟨rfl, hl2⟩
                    have hB8 := Below.grown (B := wq.heap.size) (a := wq) (by exact ⟨hbi.os, hbi.tape, hbi.output, hbi.size, hbi.block⟩) hl2.2 hbi.size (fun k hk => by injection hk with hk; omega)
                    have hcy2 := hl2.2.cell (a := ⟨bs', off' + q, none⟩) (v := .string y) (by exact hcy) (by intro h; injection h with h; simp only at h; omega)
                    have hcx2 := hl2.2.cell (a := ⟨bv, off + q, none⟩) (v := .int .u64 (x : Int)) (by exact hcx) (by intro h; injection h with h; simp only at h; omega)
                    (refine hK _ _ (⟨hcy2, hcx2⟩) ?_; clear hK K; (try simp only [Act.put, List.setIfInBounds_toArray, List.set_cons_zero, List.set_cons_succ]); repeat (first | (refine Ord.wpOrd_skip ?_ ?_; (focus (go_simp; (try (intro h; cases h)); done)); simp only [Act.put, List.setIfInBounds_toArray, List.set_cons_zero, List.set_cons_succ]) | (refine Ord.wpOrd_take (v := ?_) ?_ ?_ ?_; rotate_left; (focus (go_simp; done)); (focus (intro w' hSw; (try dsimp only at hSw); go_simp; (try with_reducible rfl); done)); simp only [Act.put, List.setIfInBounds_toArray, List.set_cons_zero, List.set_cons_succ])))
                    (refine Ord.wpOrd_call ?_ (fun K hK => ?_); (focus (go_simp; done)); go_simp)
                    go_at_call 40
                    refine (Htx.out _ hl2.1).mono ?_
                    rintro e w3 ⟨rfl, hl3⟩
                    have hB9 := Below.grown (B := wq.heap.size) (a := wq) hB8 hl3.2 hB8.size (fun k hk => by injection hk with hk; omega)
                    have hcy3 := hl3.2.cell hcy2 (by intro h; injection h with h; simp only at h; omega)
                    have hcx3 := hl3.2.cell hcx2 (by intro h; injection h with h; simp only at h; omega)
                    (refine hK _ _ (⟨hcy3, hcx3⟩) ?_; clear hK K; (try simp only [Act.put, List.setIfInBounds_toArray, List.set_cons_zero, List.set_cons_succ]); repeat (first | (refine Ord.wpOrd_skip ?_ ?_; (focus (go_simp; (try (intro h; cases h)); done)); simp only [Act.put, List.setIfInBounds_toArray, List.set_cons_zero, List.set_cons_succ]) | (refine Ord.wpOrd_take (v := ?_) ?_ ?_ ?_; rotate_left; (focus (go_simp; done)); (focus (intro w' hSw; (try dsimp only at hSw); go_simp; (try with_reducible rfl); done)); simp only [Act.put, List.setIfInBounds_toArray, List.set_cons_zero, List.set_cons_succ])))
                    refine Ord.wpOrd_nil ?_
                    go_wp2
                    refine ⟨⟨q + 1, by omega, by go_num, ?_, ?_, hB9⟩, by simp only [intOf]; omega⟩
                    · rw [Hrs.out]
                    · rw [Hrs.out]; exact hl3.1
                  · have hrs2 : runTo lv ls (⟨Z, 0⟩, true) (q + 1) = (r.number.2, false) := by
                      rw [hrs]; unfold stepTs stepNs stepT stepN; rw [hls2, hlv2]; simp [hnx]
                    have Hrs := Lib.hid hrs2
                    clear hls2 hlv2 hrs hrs2
                    obtain ⟨nx, hnn⟩ : ∃ nx, nx = r.number.1 := ⟨_, rfl⟩
                    rw [← hnn] at Hnu hnx
                    clear hnn
                    have hne1 : (nx == x) = false := by simpa using hnx
                    have hne2 : ((nx : Int) == (x : Int)) = false := by simp; omega
                    have hne3 : decide (nx = x) = false := by simpa using hnx
                    go_wp2
                    (refine Ord.wp_region_ord [(false, 0), (false, 1), (false, 2), (false, 3), (false, 4), (false, 5), (false, 6), (false, 7), (false, 9), (false, 10), (false, 11), (false, 12), (true, 8), (false, 13), (false, 14), (false, 15), (false, 16), (false, 17), (false, 18), (false, 19), (false, 20), (false, 21), (false, 22), (false, 24), (false, 25), (false, 26), (false, 27), (true, 23), (false, 28), (false, 29), (false, 30), (false, 31)] (fun w' => w'.cell? ⟨bs', off' + q, none⟩ = some (.string y) ∧ w'.cell? ⟨bv, off + q, none⟩ = some (.int .u64 (x : Int))) (by kernel_rfl) (by kernel_rfl) (by kernel_rfl) (by kernel_rfl) (by exact ⟨hcy, hcx⟩) ?_; simp only [Ord.ordOps, List.filterMap_cons, List.filterMap_nil, List.getElem?_toArray, List.getElem?_cons_succ, List.getElem?_cons_zero, Option.map_some]; repeat (first | (refine Ord.wpOrd_skip ?_ ?_; (focus (go_simp; (try (intro h; cases h)); done)); simp only [Act.put, List.setIfInBounds_toArray, List.set_cons_zero, List.set_cons_succ]) | (refine Ord.wpOrd_take (v := ?_) ?_ ?_ ?_; rotate_left; (focus (go_simp; done)); (focus (intro w' hSw; (try dsimp only at hSw); go_simp; (try with_reducible rfl); done)); simp only [Act.put, List.setIfInBounds_toArray, List.set_cons_zero, List.set_cons_succ])))
                    (refine Ord.wpOrd_call ?_ (fun K hK => ?_); (focus (go_simp; done)); go_simp)
                    go_at_call 39
                    refine (Hnu.out _ (by exact hr)).mono ?_
                    rintro e w2 ⟨rfl, hl2⟩
                    have hB8 := Below.grown (B := wq.heap.size) (a := wq) (by exact ⟨hbi.os, hbi.tape, hbi.output, hbi.size, hbi.block⟩) hl2.2 hbi.size (fun k hk => by injection hk with hk; omega)
                    have hcy2 := hl2.2.cell (a := ⟨bs', off' + q, none⟩) (v := .string y) (by exact hcy) (by intro h; injection h with h; simp only at h; omega)
                    have hcx2 := hl2.2.cell (a := ⟨bv, off + q, none⟩) (v := .int .u64 (x : Int)) (by exact hcx) (by intro h; injection h with h; simp only at h; omega)
                    (refine hK _ _ (⟨hcy2, hcx2⟩) ?_; clear hK K; (try simp only [Act.put, List.setIfInBounds_toArray, List.set_cons_zero, List.set_cons_succ]); repeat (first | (refine Ord.wpOrd_skip ?_ ?_; (focus (go_simp; (try (intro h; cases h)); done)); simp only [Act.put, List.setIfInBounds_toArray, List.set_cons_zero, List.set_cons_succ]) | (refine Ord.wpOrd_take (v := ?_) ?_ ?_ ?_; rotate_left; (focus (go_simp; done)); (focus (intro w' hSw; (try dsimp only at hSw); go_simp; (try with_reducible rfl); done)); simp only [Act.put, List.setIfInBounds_toArray, List.set_cons_zero, List.set_cons_succ])))
                    refine Ord.wpOrd_nil ?_
                    go_wp2
                    refine ⟨⟨q + 1, by omega, by go_num, ?_, ?_, hB8⟩, by simp only [intOf]; omega⟩
                    · rw [Hrs.out]
                    · rw [Hrs.out]; exact hl2.1
                · obtain ⟨bv, off, rfl, _, _, _, hc⟩ := HV.at_ (by omega)
                  have hcv := hc q (by simpa using hqv)
                  rw [List.getElem_map] at hcv
                  have hbv2 : bv < wq.heap.size := Nat.lt_of_lt_of_le (World.block_lt_of_cell? w _ hcv) hBq.size
                  have hcx := cell_below hBi hcv
                  have hlv2 : lv[q]? = some lv[q] := List.getElem?_eq_getElem hqv
                  obtain ⟨x, hx⟩ : ∃ x, x = lv[q] := ⟨_, rfl⟩
                  rw [← hx] at hcx hlv2
                  clear hc hcv hx
                  have hls2 : ls[q]? = none := List.getElem?_eq_none hqs
                  have hg1 : decide ((lv.length : Int) ≤ (q : Int)) = false := by simp; omega
                  have hg2 : decide ((ls.length : Int) ≤ (q : Int)) = true := by simp; omega
                  have hg3 : decide (lv.length ≤ q) = false := by simp; omega
                  have hg4 : decide (ls.length ≤ q) = true := by simp; omega
                  have hg5 : (0 : Int) ≤ (q : Int) := by omega
                  have hg8 : (q : Int) < (lv.length : Int) := by omega
                  have hg9 : (q : Int) ≤ (lv.length : Int) := by omega
                  have hrs2 : runTo lv ls (⟨Z, 0⟩, true) (q + 1) = (r.number.2, decide (r.number.1 = x)) := by
                    rw [hrs]; unfold stepTs stepNs stepN; rw [hls2, hlv2]; rfl
                  have Hrs := Lib.hid hrs2
                  clear hls2 hlv2 hrs hrs2
                  have Hnu := Lib.hid (fun W (hW : RdrAt W wq.heap.size r) => Number_any wq.heap.size r W hW)
                  obtain ⟨nx, hnn⟩ : ∃ nx, nx = r.number.1 := ⟨_, rfl⟩
                  rw [← hnn] at Hnu Hrs
                  clear hnn
                  obtain ⟨bb, hbb⟩ : ∃ bb, bb = decide (nx = x) := ⟨_, rfl⟩
                  rw [← hbb] at Hrs
                  have hne1 : (nx == x) = bb := by rw [hbb]; by_cases h : nx = x <;> simp [h]
                  have hne2 : ((nx : Int) == (x : Int)) = bb := by rw [hbb]; by_cases h : nx = x <;> simp [h]; omega
                  have hne3 : decide (nx = x) = bb := hbb.symm
                  clear hbb
                  cases bb
                  all_goals
                    go_wp2
                    (refine Ord.wp_region_ord [(false, 0), (false, 1), (false, 2), (false, 3), (false, 4), (false, 5), (false, 6), (false, 7), (false, 9), (false, 10), (false, 11), (false, 12), (true, 8), (false, 13), (false, 14), (false, 15), (false, 16), (false, 17), (false, 18), (false, 19), (false, 20), (false, 21), (false, 22), (false, 24), (false, 25), (false, 26), (false, 27), (true, 23), (false, 28), (false, 29), (false, 30), (false, 31)] (fun w' => w'.cell? ⟨bv, off + q, none⟩ = some (.int .u64 (x : Int))) (by kernel_rfl) (by kernel_rfl) (by kernel_rfl) (by kernel_rfl) (by exact hcx) ?_; simp only [Ord.ordOps, List.filterMap_cons, List.filterMap_nil, List.getElem?_toArray, List.getElem?_cons_succ, List.getElem?_cons_zero, Option.map_some]; repeat (first | (refine Ord.wpOrd_skip ?_ ?_; (focus (go_simp; (try (intro h; cases h)); done)); simp only [Act.put, List.setIfInBounds_toArray, List.set_cons_zero, List.set_cons_succ]) | (refine Ord.wpOrd_take (v := ?_) ?_ ?_ ?_; rotate_left; (focus (go_simp; done)); (focus (intro w' hSw; (try dsimp only at hSw); go_simp; (try with_reducible rfl); done)); simp only [Act.put, List.setIfInBounds_toArray, List.set_cons_zero, List.set_cons_succ])))
                    (refine Ord.wpOrd_call ?_ (fun K hK => ?_); (focus (go_simp; done)); go_simp)
                    go_at_call 39
                    refine (Hnu.out _ (by exact hr)).mono ?_
                    rintro e w2 ⟨rfl, hl2⟩
                    have hB8 := Below.grown (B := wq.heap.size) (a := wq) (by exact ⟨hbi.os, hbi.tape, hbi.output, hbi.size, hbi.block⟩) hl2.2 hbi.size (fun k hk => by injection hk with hk; omega)
                    have hcx2 := hl2.2.cell (a := ⟨bv, off + q, none⟩) (v := .int .u64 (x : Int)) (by exact hcx) (by intro h; injection h with h; simp only at h; omega)
                    (refine hK _ _ (hcx2) ?_; clear hK K; (try simp only [Act.put, List.setIfInBounds_toArray, List.set_cons_zero, List.set_cons_succ]); repeat (first | (refine Ord.wpOrd_skip ?_ ?_; (focus (go_simp; (try (intro h; cases h)); done)); simp only [Act.put, List.setIfInBounds_toArray, List.set_cons_zero, List.set_cons_succ]) | (refine Ord.wpOrd_take (v := ?_) ?_ ?_ ?_; rotate_left; (focus (go_simp; done)); (focus (intro w' hSw; (try dsimp only at hSw); go_simp; (try with_reducible rfl); done)); simp only [Act.put, List.setIfInBounds_toArray, List.set_cons_zero, List.set_cons_succ])))
                    refine Ord.wpOrd_nil ?_
                    go_wp2
                    refine ⟨⟨q + 1, by omega, by go_num, ?_, ?_, hB8⟩, by simp only [intOf]; omega⟩
                    · rw [Hrs.out]
                    · rw [Hrs.out]; exact hl2.1
                · skip
                  obtain ⟨bs', off', rfl, _, _, _, hc⟩ := HS.at_ (by omega)
                  have hcw := hc q (by simpa using hqs)
                  rw [List.getElem_map] at hcw
                  have hbq2 : bs' < wq.heap.size := Nat.lt_of_lt_of_le (World.block_lt_of_cell? w _ hcw) hBq.size
                  have hcy := cell_below hBi hcw
                  have hls2 : ls[q]? = some ls[q] := List.getElem?_eq_getElem hqs
                  have hlv2 : lv[q]? = none := List.getElem?_eq_none hqv
                  obtain ⟨y, hy⟩ : ∃ y, y = ls[q] := ⟨_, rfl⟩
                  rw [← hy] at hcy hls2
                  have hrs2 : runTo lv ls (⟨Z, 0⟩, true) (q + 1) = ((r.text 1000).2, decide ((r.text 1000).1 = y.data.toList)) := by
                    rw [hrs]; unfold stepTs stepNs stepT; rw [hls2, hlv2]; rfl
                  have Hrs := Lib.hid hrs2
                  clear hc hcw hy hls2 hlv2 hrs hrs2
                  obtain ⟨bb, hbb⟩ : ∃ bb, bb = decide ((r.text 1000).1 = y.data.toList) := ⟨_, rfl⟩
                  have hbe : ((r.text 1000).1 == y.toList) = bb := by rw [hbb, ByteArray_toList]; by_cases h : (r.text 1000).1 = y.data.toList <;> simp [h]
                  rw [← hbb] at Hrs
                  obtain ⟨tx, htx⟩ : ∃ tx, tx = (r.text 1000).1 := ⟨_, rfl⟩
                  have Htx := Lib.hid (fun W (hW : RdrAt W wq.heap.size r) => Text_any wq.heap.size r 1000 W hW (by omega))
                  rw [← htx] at Htx hbe
                  clear hbb htx
                  have hg1 : decide ((lv.length : Int) ≤ (q : Int)) = true := by simp; omega
                  have hg2 : decide ((ls.length : Int) ≤ (q : Int)) = false := by simp; omega
                  have hg3 : decide (lv.length ≤ q) = true := by simp; omega
                  have hg4 : decide (ls.length ≤ q) = false := by simp; omega
                  have hg5 : (0 : Int) ≤ (q : Int) := by omega
                  have hg6 : (q : Int) < (ls.length : Int) := by omega
                  have hg7 : (q : Int) ≤ (ls.length : Int) := by omega
                  go_wp2
                  (refine Ord.wp_region_ord [(false, 0), (false, 1), (false, 2), (false, 3), (false, 4), (false, 5), (false, 6), (false, 7), (false, 9), (false, 10), (false, 11), (false, 12), (true, 8), (false, 13), (false, 14), (false, 15), (false, 16), (false, 17), (false, 18), (false, 19), (false, 20), (false, 21), (false, 22), (false, 24), (false, 25), (false, 26), (false, 27), (true, 23), (false, 28), (false, 29), (false, 30), (false, 31)] (fun w' => w'.cell? ⟨bs', off' + q, none⟩ = some (.string y)) (by kernel_rfl) (by kernel_rfl) (by kernel_rfl) (by kernel_rfl) (by exact hcy) ?_; simp only [Ord.ordOps, List.filterMap_cons, List.filterMap_nil, List.getElem?_toArray, List.getElem?_cons_succ, List.getElem?_cons_zero, Option.map_some]; repeat (first | (refine Ord.wpOrd_skip ?_ ?_; (focus (go_simp; (try (intro h; cases h)); done)); simp only [Act.put, List.setIfInBounds_toArray, List.set_cons_zero, List.set_cons_succ]) | (refine Ord.wpOrd_take (v := ?_) ?_ ?_ ?_; rotate_left; (focus (go_simp; done)); (focus (intro w' hSw; (try dsimp only at hSw); go_simp; (try with_reducible rfl); done)); simp only [Act.put, List.setIfInBounds_toArray, List.set_cons_zero, List.set_cons_succ])))
                  (refine Ord.wpOrd_call ?_ (fun K hK => ?_); (focus (go_simp; done)); go_simp)
                  go_at_call 40
                  refine (Htx.out _ (by exact hr)).mono ?_
                  rintro e w2 ⟨rfl, hl2⟩
                  have hB9 := Below.grown (B := wq.heap.size) (a := wq) (by exact ⟨hbi.os, hbi.tape, hbi.output, hbi.size, hbi.block⟩) hl2.2 hbi.size (fun k hk => by injection hk with hk; omega)
                  (refine hK _ _ (hl2.2.cell (a := ⟨bs', off' + q, none⟩) (v := .string y) (by exact hcy) (by intro h; injection h with h; simp only at h; omega)) ?_; clear hK K; (try simp only [Act.put, List.setIfInBounds_toArray, List.set_cons_zero, List.set_cons_succ]); repeat (first | (refine Ord.wpOrd_skip ?_ ?_; (focus (go_simp; (try (intro h; cases h)); done)); simp only [Act.put, List.setIfInBounds_toArray, List.set_cons_zero, List.set_cons_succ]) | (refine Ord.wpOrd_take (v := ?_) ?_ ?_ ?_; rotate_left; (focus (go_simp; done)); (focus (intro w' hSw; (try dsimp only at hSw); go_simp; (try with_reducible rfl); done)); simp only [Act.put, List.setIfInBounds_toArray, List.set_cons_zero, List.set_cons_succ])))
                  refine Ord.wpOrd_nil ?_
                  go_wp2
                  refine ⟨⟨q + 1, by omega, by go_num, ?_, ?_, ⟨hB9.os, hB9.tape, hB9.output, hB9.size, hB9.block⟩⟩, by simp only [intOf]; omega⟩
                  · rw [Hrs.out]
                  · rw [Hrs.out]; exact hl2.1
            · obtain rfl : q = k := by omega
              have hr2 := hr
              have Hend := Lib.hid (End_any wq.heap.size r wr hr)
              have hBn := below_then hBo hBo.size hbi
              have hj01 : j = 0 ∨ j = 1 := by omega
              rcases hj01 with hj0 | hj0
              · have hZB : Z = mixFrom lv ls q 0 := by rw [HZ.out, hj0, Nat.sub_zero, List.take_length]; exact Hmix.out
                have hwh := runTo_whole Hlv.out Hls.out q q (Nat.le_refl _)
                rw [← hZB, ← HS2.out, Nat.sub_self] at hwh
                injection hwh with hw1 hw2
                subst hw1 hw2
                have hfin : Rdr.fin ⟨mixFrom lv ls 0 q, 0⟩ = 0 := by simp [Rdr.fin, mixFrom]
                rw [hfin] at Hend
                have hjb1 : ((j : Int) == 0) = true := by simp; omega
                have hjb2 : ((j : Int) == 1) = false := by simp; omega
                have hjb3 : (j == 0) = true := by simp; omega
                have hjb4 : (j == 1) = false := by simp; omega
                go_wp2_with (go_at_call 41; go_must (refine Hend.out.mono ?_); rintro e w2 ⟨rfl, rfl⟩)
                refine ⟨⟨j + 1, by omega, by go_num, hBn⟩, by simp only [intOf]; omega⟩
              · have hq0 : 0 < q := by
                  rcases Nat.eq_zero_or_pos q with h0 | h0
                  · have h1 := Hmix.out
                    rw [h0, mixFrom] at h1
                    rw [h1] at hjl
                    simp at hjl; omega
                  · exact h0
                have hZB : Z = (mixFrom lv ls q 0).dropLast := by rw [HZ.out, hj0, ← Hmix.out, List.dropLast_eq_take]
                have hwh := runTo_cut_bad Hlv.out Hls.out q hq0 Hne.out
                rw [← hZB, ← HS2.out] at hwh
                simp only at hwh
                have hfin : r.fin ≠ 0 := by unfold Rdr.fin; rw [if_neg (by rintro ⟨h1, _⟩; exact hwh h1)]; exact hwh
                obtain ⟨fn, hfn⟩ : ∃ fn, fn = r.fin := ⟨_, rfl⟩
                rw [← hfn] at Hend hfin
                clear hfn hwh
                have hfb1 : ((fn : Int) == 0) = false := by simp; omega
                have hfb2 : (fn == 0) = false := by simp; omega
                have hjb1 : ((j : Int) == 0) = false := by simp; omega
                have hjb2 : ((j : Int) == 1) = true := by simp; omega
                have hjb3 : (j == 0) = false := by simp; omega
                have hjb4 : (j == 1) = true := by simp; omega
                go_wp2_with (go_at_call 41; go_must (refine Hend.out.mono ?_); rintro e w2 ⟨rfl, rfl⟩)
                refine ⟨⟨j + 1, by omega, by go_num, hBn⟩, by simp only [intOf]; omega⟩
end Go.Proofs.Ytmiioehiffddeaa.Lay
