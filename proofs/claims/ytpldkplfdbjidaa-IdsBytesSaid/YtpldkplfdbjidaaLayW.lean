/- Walks of layer 1 -/
import Derived.Test.YtpldkplfdbjidaaShelf
import Derived.Test.YtpldkplfdbjidaaLayPure
set_option linter.unusedVariables false
set_option linter.unusedSimpArgs false
namespace Go.Proofs.Ytpldkplfdbjidaa.Lay
open Go.RowKit Go.Proofs.Ytpldkplfdbjidaa.Wd

theorem elU8 : El Try.prog 39 5 (.int .u8 0) 1 1 := ⟨Try.underlying39, by kernel_rfl, rfl, by decide, by decide⟩

theorem len64_own (x : Nat) (w : World) (h : x < 18446744073709551616) :
    Calls Try.prog 127 #[.int .u64 (x : Int)] w fun e w' => ∃ m : Nat, e = .returned (.int .i64 (m : Int)) ∧ m ≤ 64 ∧ Hid ((m + 7) / 8 = blen x) ∧ w = w' := by
  refine (Try.bits_Len64 (x : Int) w (by omega) (by omega)).mono ?_
  rintro e w' ⟨rfl, rfl⟩
  exact ⟨_, rfl, Lib.bitLen_le _ 64 (by omega) (by rw [Int.toNat_natCast]; exact h), by rw [Int.toNat_natCast]; exact blen_bitLen x h, rfl⟩

def outK (lb : List UInt8) (lv : List Nat) (k : Nat) : List UInt8 := lb ++ (lv.take k).flatMap putN

theorem outK_le (lb : List UInt8) (lv : List Nat) (k : Nat) : (outK lb lv k).length ≤ (lb ++ lv.flatMap putN).length := by
  have := flatMap_take_le putN lv k
  simp only [outK, List.length_append]
  omega
theorem outK_succ (lb : List UInt8) (lv : List Nat) (k : Nat) (h : k < lv.length) : outK lb lv (k + 1) = outK lb lv k ++ putN lv[k] := by
  unfold outK
  rw [List.take_succ_eq_append_getElem h, List.flatMap_append, List.append_assoc]
  simp
theorem outK_all (lb : List UInt8) (lv : List Nat) : outK lb lv lv.length = lb ++ lv.flatMap putN := by simp [outK]

theorem outK_room (lb : List UInt8) (lv : List Nat) (k : Nat) (hlt : k < lv.length) : (outK lb lv k).length + 1 + blen lv[k] ≤ (lb ++ lv.flatMap putN).length := by
  have := outK_le lb lv (k + 1)
  have h2 := congrArg List.length (outK_succ lb lv k hlt)
  simp only [List.length_append, putN_length] at h2 this ⊢
  omega

set_option maxRecDepth 100000 in
set_option maxHeartbeats 1000000 in
theorem PutNumber_any (vb vv : Value) (lb : List UInt8) (lv : List Nat) (w : World)
    (hb : Rd w 1 vb lb.length (bs lb)) (hv : Rd w 1 vv lv.length (lv.map fun (x : Nat) => Value.int .u64 x)) (hlv : ∀ x ∈ lv, x < 18446744073709551616)
    (hsz : (lb ++ lv.flatMap putN).length ≤ 140737488355328) :
    Calls Try.prog 84 #[vb, vv] w fun e w' => ∃ v, e = .returned v ∧ w'.ownsRow w.heap.size 5 1 v (lb ++ lv.flatMap putN).length (bs (lb ++ lv.flatMap putN)) ∧ Below w.heap.size w w' := by
  have hB1 : Below w.heap.size w (w.alloc (.cells #[] 5)) := (Below.refl _ _).alloc (Nat.le_refl _) _
  have HR := hb.below hB1
  have HV := hv
  have Hlv := Lib.hid hlv
  clear hlv
  obtain ⟨Av, cv, rfl, hv1, hv2, _⟩ := hv.slice_
  clear hv
  unfold maxLen at hv2
  go_enter Try.func84, Try.ntmps84
  go_wp2_with (at_builtin; refine app_row elU8 rfl (.tmp 10) (.tmp 11) rfl w.heap.size _ vb 0 lb.length [] (bs lb) rfl rfl (bs_oneCell lb) (own_empty w _ _ _ (Nat.le_refl _)) HR hB1 (by simp) (by rw [List.length_append] at hsz; omega) ?_; intro v1 w1 ho1 hB hg1 hat1; clear HR hB1 hg1 hat1; rw [Nat.zero_add, List.nil_append] at ho1)
  go_loopw [5, 15] (fun v i wr => ∃ k : Nat, k ≤ lv.length ∧ i = .int .i64 k ∧ wr.ownsRow w.heap.size 5 1 v (outK lb lv k).length (bs (outK lb lv k)) ∧ Below w.heap.size w wr) (fun _ i _ => lv.length - (intOf i).toNat)
  case atStart => exact ⟨0, Nat.zero_le _, rfl, by simpa [outK] using ho1, hB⟩
  case round =>
    clear ho1 hB
    obtain ⟨k, hk, rfl, ho, hB⟩ := hrel
    by_cases hlt : k < lv.length
    · obtain ⟨bv, off, rfl, _, _, _, hc⟩ := HV.at_ (by omega)
      have hc2 := cell_below hB (hc k (by simpa using hlt))
      rw [List.getElem_map] at hc2
      have hx : lv[k] < 18446744073709551616 := Hlv.out _ (List.getElem_mem _)
      obtain ⟨x, hxk⟩ : ∃ x, x = lv[k] := ⟨_, rfl⟩
      have hr0 := outK_room lb lv k hlt
      rw [← hxk] at hc2 hx hr0
      have hr1 : (outK lb lv k).length + 1 ≤ 140737488355328 := by omega
      clear hc hb
      have Hxk := Lib.hid hxk
      clear hxk
      go_wp2_with (first | (go_at_call 127; refine (len64_own x _ hx).mono ?_; rintro e w' ⟨m, rfl, hm, Hm, rfl⟩) | (at_builtin; go_must (refine app1b elU8 rfl (.tmp 24) (.tmp 27) rfl w.heap.size _ _ _ rfl rfl (by omega) (by omega) ho hB hB.size hr1 ?_); intro v2 w2 ho2 hB2 hg2 hat2; clear hg2 hat2 ho hB hc2))
      have hn : ((m : Int) + 8 - 1) / 8 = ((blen x : Nat) : Int) := by have := Hm.out; omega
      have hn8 := blen_le hx
      rw [hn] at ho2 ⊢
      rw [Int.toNat_natCast] at ho2
      clear hn Hm hm
      obtain ⟨n, hnx⟩ : ∃ n, n = blen x := ⟨_, rfl⟩
      rw [← hnx] at ho2 hn8 ⊢
      have Hnx := Lib.hid hnx
      clear hnx
      go_loopw [5, 9] (fun v i wi => ∃ j : Nat, j ≤ n ∧ i = .int .i64 ((n : Int) - 1 - j) ∧ wi.ownsRow w.heap.size 5 1 v (outK lb lv k ++ [UInt8.ofNat n] ++ (be n x).take j).length (bs (outK lb lv k ++ [UInt8.ofNat n] ++ (be n x).take j)) ∧ Below w.heap.size w wi) (fun _ i _ => (intOf i + 1).toNat)
      case atStart => exact ⟨0, Nat.zero_le _, by simp, by simpa using ho2, hB2⟩
      case round =>
        clear ho2 hB2
        obtain ⟨j, hj, rfl, ho, hB⟩ := hrel
        by_cases hjn : j < n
        · have hr2 : (outK lb lv k ++ [UInt8.ofNat n] ++ (be n x).take j).length + 1 ≤ 140737488355328 := by
            have h4 := Hnx.out
            simp only [List.length_append, List.length_take, be_length, List.length_cons, List.length_nil]
            omega
          go_wp2_with (at_builtin; go_must (refine app1b elU8 rfl (.tmp 35) (.tmp 41) rfl w.heap.size _ _ _ rfl rfl (by omega) (by omega) ho hB hB.size hr2 ?_); intro v3 w3 ho3 hB3 hg3 hat3; clear hg3 hat3 ho hB)
          have he : (be n x).take (j + 1) = (be n x).take j ++ [UInt8.ofNat (((x : Int) / 2 ^ (8 * (n - 1 - j)) % 256).toNat)] := by rw [be_step n j x hjn, byte_shift]
          refine ⟨⟨j + 1, by omega, by congr 1; omega, ?_, hB3⟩, by simp only [intOf]; omega⟩
          rw [he, ← List.append_assoc]
          exact ho3
        · go_wp2
          obtain rfl : j = n := by omega
          refine ⟨⟨k + 1, by omega, by go_num, ?_, hB⟩, by simp only [intOf]; omega⟩
          have he : outK lb lv (k + 1) = outK lb lv k ++ [UInt8.ofNat j] ++ (be j x).take j := by
            rw [outK_succ lb lv k hlt, ← Hxk.out, List.take_of_length_le (by simp [be_length]), Hnx.out, putN]; simp
          rw [he]
          exact ho
    · go_wp2
      obtain rfl : k = lv.length := by omega
      go_ret
      rw [← outK_all]
      exact ⟨_, rfl, ho, hB⟩
set_option maxRecDepth 100000 in
set_option maxHeartbeats 1000000 in
theorem PutText_any (vb vs : Value) (lb : List UInt8) (ls : List ByteArray) (w : World)
    (hb : Rd w 1 vb lb.length (bs lb)) (hv : Rd w 1 vs ls.length (ls.map Value.string)) (hsz : (lb ++ putTs ls).length ≤ 140737488355328) :
    Calls Try.prog 154 #[vb, vs] w fun e w' => ∃ v, e = .returned v ∧ w'.ownsRow w.heap.size 5 1 v (lb ++ putTs ls).length (bs (lb ++ putTs ls)) ∧ Below w.heap.size w w' := by
  have hB1 : Below w.heap.size w (w.alloc (.cells #[] 5)) := (Below.refl _ _).alloc (Nat.le_refl _) _
  have HR := hb.below hB1
  have HV := hv
  obtain ⟨Av, cv, rfl, hv1, hv2, _⟩ := hv.slice_
  clear hv
  unfold maxLen at hv2
  rw [List.length_append] at hsz
  go_enter Try.func154, Try.ntmps154
  go_wp2_with (at_builtin; go_must (refine app_row elU8 rfl (.tmp 8) (.tmp 9) rfl w.heap.size _ vb 0 lb.length [] (bs lb) rfl rfl (bs_oneCell lb) (own_empty w _ _ _ (Nat.le_refl _)) HR hB1 (by simp) (by omega) ?_); intro v1 w1 ho1 hB hg1 hat1; clear HR hB1 hg1 hat1; rw [Nat.zero_add, List.nil_append] at ho1)
  go_loopw [5, 13] (fun v i wr => ∃ k : Nat, k ≤ ls.length ∧ i = .int .i64 k ∧ wr.ownsRow w.heap.size 5 1 v (lb ++ putTs (ls.take k)).length (bs (lb ++ putTs (ls.take k))) ∧ Below w.heap.size w wr) (fun _ i _ => ls.length - (intOf i).toNat)
  case atStart => exact ⟨0, Nat.zero_le _, rfl, by simpa [putTs] using ho1, hB⟩
  case round =>
    clear ho1 hB
    obtain ⟨k, hk, rfl, ho, hB⟩ := hrel
    by_cases hlt : k < ls.length
    · obtain ⟨bv, off, rfl, _, _, _, hc⟩ := HV.at_ (by omega)
      have hc2 := cell_below hB (hc k (by simpa using hlt))
      rw [List.getElem_map] at hc2
      have hk1 := putTs_succ ls k hlt
      have hk2 := putTs_take_le ls (k + 1)
      obtain ⟨x, hxk⟩ : ∃ x, x = ls[k] := ⟨_, rfl⟩
      rw [← hxk] at hc2 hk1
      have hx : x.size ≤ 140737488355328 := by
        have h1 := congrArg List.length hk1
        simp only [putT, List.length_append, data_length] at h1
        omega
      clear hc hb
      have Hxk := Lib.hid hxk
      clear hxk
      have Hk1 := Lib.hid hk1
      clear hk1
      have hl2 : (lb ++ putTs (ls.take k) ++ [x.size].flatMap putN).length + x.size ≤ 140737488355328 := by
        have h1 := congrArg List.length Hk1.out
        simp only [putT, List.length_append, data_length, List.flatMap_cons, List.flatMap_nil, List.append_nil] at h1 ⊢
        omega
      have hB2 : Below w.heap.size w (wr.alloc (.cells #[.int .u64 (x.size : Int)] 67)) := hB.alloc hB.size _
      go_wp2_with (first | (go_at_call 84; go_must (refine (PutNumber_any _ _ (lb ++ putTs (ls.take k)) [x.size] _ (Rd.of_own (ho.alloc _)) (Rd.lit wr 1 1 _ _ rfl (by simp [maxLen])) (by simp; omega) (by omega)).mono ?_); rintro e w2 ⟨v2, rfl, ho2, hb2⟩; have hB3 := below_then hB2 hB2.size hb2; have ho3 := own_lower ho2 hB2.size; clear ho2 hb2 hB2 ho hB hc2) | (at_builtin; go_must (refine app_str elU8 Try.underlying9 rfl (.tmp 22) (.tmp 23) rfl w.heap.size _ _ x rfl rfl ho3 hB3 hB3.size (by omega) ?_); intro v4 w4 ho4 hB4 hg4; clear hg4 ho3 hB3))
      refine ⟨⟨k + 1, by omega, by go_num, ?_, hB4⟩, by simp only [intOf]; omega⟩
      have he : lb ++ putTs (ls.take (k + 1)) = lb ++ putTs (ls.take k) ++ [x.size].flatMap putN ++ x.data.toList := by
        rw [Hk1.out, putT, data_length]; simp
      rw [he]
      exact ho4
    · go_wp2
      obtain rfl : k = ls.length := by omega
      go_ret
      rw [putTs_all] at ho
      exact ⟨_, rfl, ho, hB⟩
end Go.Proofs.Ytpldkplfdbjidaa.Lay
