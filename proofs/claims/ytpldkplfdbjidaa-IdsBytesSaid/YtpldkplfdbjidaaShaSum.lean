/- The sum of all so far. -/
import Derived.Test.YtpldkplfdbjidaaShaTk
set_option linter.unusedVariables false
set_option linter.unusedSimpArgs false
namespace Go.Proofs.Ytpldkplfdbjidaa.Sha
open Go.RowKit Go.Proofs.Ytpldkplfdbjidaa.Wd

theorem map_take_step {α : Type} (f : Nat → α) (m j : Nat) (h : j < m) : ((List.range m).map f).take (j + 1) = ((List.range m).map f).take j ++ [f j] := by
  rw [List.take_add_one, List.getElem?_map, List.getElem?_range h]; rfl
theorem ofNat_mod (n : Nat) : UInt8.ofNat (n % 256) = UInt8.ofNat n := by
  apply UInt8.toNat_inj.1; rw [UInt8.toNat_ofNat', UInt8.toNat_ofNat']; omega
theorem shift_byte (x d : Nat) : UInt8.ofNat (((x : Int) / 2 ^ d % 256).toNat) = UInt8.ofNat (x / 2 ^ d) := by
  rw [show ((x : Int) / 2 ^ d % 256).toNat = x / 2 ^ d % 256 by
    rw [show (x : Int) / 2 ^ d = ((x / 2 ^ d : Nat) : Int) by rw [Int.natCast_ediv, Int.natCast_pow]; rfl]; omega, ofNat_mod]
theorem be64_step (n j : Nat) (h : j < 8) : (be64 n).take (j + 1) = (be64 n).take j ++ [UInt8.ofNat (((n : Int) / 2 ^ (8 * (7 - j)) % 256).toNat)] := by
  rw [shift_byte]; exact map_take_step _ 8 j h
theorem sum_step (s : St) (i : Nat) (h : i < 32) : (sumBytes s).take (i + 1) = (sumBytes s).take i ++ [byteOf s i] := map_take_step _ 32 i h
theorem sumBytes_length (s : St) : (sumBytes s).length = 32 := by simp [sumBytes]
/-- the tail, as far as it was laid -/
def pad (j : Nat) : List UInt8 := 0x80 :: List.replicate j 0
theorem pad_succ (j : Nat) : pad (j + 1) = pad j ++ [UInt8.ofNat (0 : Int).toNat] := by
  simp [pad, List.replicate_succ']
theorem pad_length (j : Nat) : (pad j).length = j + 1 := by simp [pad]
theorem tailOf_eq (n : Nat) : tailOf n = pad (padLen n) ++ be64 (n * 8 % 18446744073709551616) := rfl
theorem be64_length (n : Nat) : (be64 n).length = 8 := by simp [be64]
theorem padLen_lt (n : Nat) : padLen n < 64 := Nat.mod_lt _ (by omega)
theorem padLen_end (n j : Nat) (hj : j ≤ padLen n) : (n + (j + 1)) % 64 = 56 ↔ j = padLen n := by
  unfold padLen at *; omega
/-- a row of bytes that is filled from its head on -/
def bpart (l : List UInt8) (m : Nat) : List Value := bs l ++ List.replicate (m - l.length) (.int .u8 0)
theorem bpart_length (l : List UInt8) (m : Nat) (h : l.length ≤ m) : (bpart l m).length = m := by simp [bpart, bs_length]; omega
theorem bpart_full (l : List UInt8) (m : Nat) (h : l.length = m) : bpart l m = bs l := by rw [bpart, h, Nat.sub_self]; simp
theorem bpart_set (l : List UInt8) (m : Nat) (x : UInt8) (h : l.length < m) : (bpart l m).set l.length (.int .u8 (x.toNat : Int)) = bpart (l ++ [x]) m := by
  rw [bpart, List.set_append, if_neg (by rw [bs_length]; omega), bs_length, Nat.sub_self]
  obtain ⟨d, hd⟩ : ∃ d, m - l.length = d + 1 := ⟨m - l.length - 1, by omega⟩
  rw [hd, List.replicate_succ, List.set_cons_zero, bpart, bs_append]
  simp only [List.length_append, List.length_singleton, bs, List.map_cons, List.map_nil, List.append_assoc, List.cons_append, List.nil_append]
  rw [show m - (l.length + 1) = d by omega]
theorem bpart_put {w : World} {b t m : Nat} {ty : TypeId} {l : List UInt8} (h : w.heap[b]? = some (.cells (bpart l m).toArray ty (0, 0))) (hl : l.length = t) (hm : t < m) (x : UInt8) :
    (w.setCell ⟨b, t, none⟩ (.int .u8 (x.toNat : Int))).heap[b]? = some (.cells (bpart (l ++ [x]) m).toArray ty (0, 0)) := by
  have h1 := blk_set h t (.int .u8 (x.toNat : Int))
  rw [List.setIfInBounds_toArray, ← hl, bpart_set _ _ _ (by omega), hl] at h1
  exact h1
theorem elU8 : El Try.prog 39 5 (.int .u8 0) 1 1 := ⟨Try.underlying39, by kernel_rfl, rfl, by decide, by decide⟩
theorem own_lit (W : World) (base : Nat) (e : TypeId) (sz n : Nat) (xs : List Value) (h : xs.length = n * sz) (hm : n ≤ maxLen) (hb : base ≤ W.heap.size) : (W.alloc (.cells xs.toArray e)).ownsRow base e sz (.slice (some ⟨W.heap.size, 0, none⟩) n n) n xs :=
  ⟨h, .inr ⟨W.heap.size, n, xs.toArray, rfl, hb, heap_alloc_new W _, Nat.le_refl _, hm, by simpa using h, by simp [← h]⟩⟩
def zeros : List Value := List.replicate 32 (.int .u8 0)

set_option maxRecDepth 100000 in
set_option maxHeartbeats 2000000 in
theorem sum_any (g : Nat) (h : Hs) (w : World) (H : HashAt w g h) (hn : h.n + 128 < 18446744073709551616) :
    Calls Try.prog 100 #[.pointer (some ⟨g, 0, none⟩)] w fun e w' => e = .returned (.agg (bs h.sum).toArray) ∧ Below w.heap.size w w' := by
  have h0 := H.c0
  have hb0 : ∀ W, Below w.heap.size w W → HashAt W g h := fun W hW => H.below hW
  have Hb0 := Lib.hid hb0
  clear hb0
  go_enter Try.func100, Try.ntmps100
  go_wp2_with (first
    | (go_at_call 149; refine (none_made g _ (Hb0.out _ ((Below.refl _ _).alloc (Nat.le_refl _) _)).c0).mono ?_; rintro e w1 ⟨rfl, hw1⟩; have q1 : w1.heap[w.heap.size]? = some (.cells (bpart [] 32).toArray 23 (0, 0)) := (by rw [hw1]; exact heap_alloc_new _ _); have q2 : Below w.heap.size w w1 := (by rw [hw1]; exact (Below.refl _ _).alloc (Nat.le_refl _) _); have q3 : w.heap.size < w1.heap.size := (by rw [hw1, alloc_size]; omega); have Q1 := Lib.hid q1; clear hw1 q1; have H1 := Hb0.out _ q2)
    | (go_at_call 151; refine (clone_any g h w1 H1).mono ?_; rintro e w2 ⟨rfl, H2, hb2⟩))
  have q4 := hb2.size
  have H3 := H1.below hb2
  have hlt2 := H2.lt
  have Q2 := Lib.hid (blk_below Q1.out hb2)
  have hown : (w2.alloc (.cells #[.int .u8 128] 5)).ownsRow w2.heap.size 5 1 (.slice (some ⟨w2.heap.size, 0, none⟩) 1 1) (pad 0).length (bs (pad 0)) := own_lit w2 _ _ 1 1 [.int .u8 128] rfl (by simp [maxLen]) (Nat.le_refl _)
  go_loopw [4] (fun v wr => ∃ (j : Nat) (A : Option Addr) (c : Nat), j ≤ padLen h.n ∧ v = .slice A (j + 1) c ∧ wr.ownsRow w2.heap.size 5 1 v (pad j).length (bs (pad j)) ∧ Below w2.heap.size w2 wr) (fun v _ => 64 - lenOf v)
  case atStart => exact ⟨0, _, _, Nat.zero_le _, rfl, hown, (Below.refl _ _).alloc (Nat.le_refl _) _⟩
  case round =>
    clear hown
    obtain ⟨j, A, c, hj, rfl, ho, hB⟩ := hrel
    have hp64 := padLen_lt h.n
    obtain ⟨-, -, -, hjc, hcm, -⟩ := (Rd.of_own ho).slice_
    have k1 := (H3.below hB).n
    have he := padLen_end h.n j hj
    obtain ⟨n, hnn⟩ : ∃ n, n = h.n := ⟨_, rfl⟩
    rw [← hnn] at k1 he hp64 hj hn
    have r1 : IntKind.u64.wrap ((n : Int) + ((j : Int) + 1)) = (n : Int) + ((j : Int) + 1) := by rw [IntKind.wrap_u64]; omega
    obtain ⟨q, hq⟩ : ∃ q, q = (n + (j + 1)) % 64 := ⟨_, rfl⟩
    have r3 : ((n : Int) + ((j : Int) + 1)) % 64 = (q : Int) := by omega
    rw [← hq] at he
    have Hnn := Lib.hid hnn
    have Hq := Lib.hid hq
    clear hnn hq
    have hj63 : j ≤ 63 := by omega
    by_cases hjp : j = padLen n
    · have hq56 := he.2 hjp
      subst hq56
      have r4 : IntKind.u64.wrap ((n : Int) * 8) = ((n * 8 % 18446744073709551616 : Nat) : Int) := by rw [IntKind.wrap_u64]; omega
      obtain ⟨x, hx⟩ : ∃ x, x = n * 8 % 18446744073709551616 := ⟨_, rfl⟩
      rw [← hx] at r4
      have hx64 : x < 18446744073709551616 := by omega
      have r5 : (n : Int) * 8 % 18446744073709551616 = (x : Int) := by omega
      have Hx := Lib.hid hx
      have Hjp := Lib.hid hjp
      clear hx hjp he hj
      go_wp2_with fail
      clear r1 r3 r4 r5
      go_loopw [4, 6] (fun v i wi => ∃ k : Nat, k ≤ 8 ∧ i = .int .i64 (7 - (k : Int)) ∧ wi.ownsRow w2.heap.size 5 1 v (pad j ++ (be64 x).take k).length (bs (pad j ++ (be64 x).take k)) ∧ Below w2.heap.size w2 wi) (fun _ i _ => (intOf i + 1).toNat)
      case atStart => exact ⟨0, Nat.zero_le _, rfl, by simpa using ho, hB⟩
      case round =>
        clear ho hB
        obtain ⟨k, hk, rfl, ho, hB⟩ := hrel
        have hl4 : (pad j ++ (be64 x).take k).length + 1 ≤ 140737488355328 := by rw [List.length_append, pad_length, List.length_take, be64_length]; omega
        by_cases hk8 : k < 8
        · go_wp2_with (at_builtin; go_must (refine app1b elU8 rfl (.tmp 36) (.tmp 42) rfl w2.heap.size _ _ _ rfl rfl (by omega) (by omega) ho hB hB.size hl4 ?_); intro v3 w3 ho3 hB3 hg3 hat3; clear hg3 hat3 ho hB)
          refine ⟨⟨k + 1, by omega, by congr 1; omega, ?_, hB3⟩, by simp only [intOf]; omega⟩
          rw [be64_step x k hk8, ← List.append_assoc]
          exact ho3
        · obtain rfl : k = 8 := by omega
          have htl : pad j ++ (be64 x).take 8 = tailOf h.n := by rw [tailOf_eq, ← Hnn.out, ← Hx.out, ← Hjp.out, List.take_of_length_le (by rw [be64_length]; exact Nat.le_refl 8)]
          rw [htl] at ho hl4
          have hRd := Rd.of_own ho
          have hne : u4.ownBlock ≠ some w1.heap.size := fun e => by have := own_base ho _ e; omega
          have Ht := take_any w1.heap.size h wr u4 (tailOf h.n) (H2.below hB) hRd (fun _ => hne) (by rw [htl.symm, ← Hnn.out]; simp only [List.length_append, pad_length, List.length_take, be64_length]; omega)
          have HT := Lib.hid Ht
          clear Ht hl4 hRd
          go_wp2_with (go_at_call 99; refine HT.out.mono ?_; rintro e w4 ⟨rfl, H4, hg4⟩)
          have hz4 : wr.heap.size ≤ w4.heap.size := hg4.size
          have hB4 : Below w.heap.size w w4 := ((q2.trans (hb2.mono q2.size)).trans (hB.mono (by omega))).grown hg4 (by have := hB.size; omega) (fun q hq => by injection hq with hq; omega)
          have q5 : w4.heap[w.heap.size]? = some (.cells (bpart [] 32).toArray 23 (0, 0)) := blk_grown (blk_below Q2.out hB) hg4 (by intro e; injection e with e; omega)
          obtain ⟨hf, hhf⟩ : ∃ hf, hf = h.feed (tailOf h.n) := ⟨_, rfl⟩
          rw [← hhf] at H4
          have Hhf := Lib.hid hhf
          clear HT htl ho hB hhf k1 hne hk8 hk Hx Hjp hg4
          go_loopw [47] (fun i wi => ∃ k : Nat, k ≤ 32 ∧ i = .int .i64 k ∧ wi.heap[w.heap.size]? = some (.cells (bpart ((sumBytes hf.st).take k) 32).toArray 23 (0, 0)) ∧ HashAt wi w1.heap.size hf ∧ Below w.heap.size w wi) (fun i _ => 32 - (intOf i).toNat)
          case atStart => exact ⟨0, Nat.zero_le _, rfl, q5, H4, hB4⟩
          case round =>
            clear q5 H4 hB4
            obtain ⟨k, hk, rfl, hs, H5, hB5⟩ := hrel
            by_cases hk32 : k < 32
            · obtain ⟨q, hq⟩ : ∃ q, q = k / 4 := ⟨_, rfl⟩
              obtain ⟨d, hd⟩ : ∃ d, d = 3 - k % 4 := ⟨_, rfl⟩
              have hq1 : (k : Int) / 4 = (q : Int) := by omega
              have hd1 : 3 - (k : Int) % 4 = (d : Int) := by omega
              have hq8 : (q : Int) < 8 := by omega
              have hd3 : (d : Int) ≤ 3 := by omega
              have c1 := H5.st q (by omega)
              have hbo : byteOf hf.st k = UInt8.ofNat ((gw hf.st.list q).toNat / 2 ^ (8 * d)) := by rw [byteOf, ← hq, ← hd]
              obtain ⟨x, hx⟩ : ∃ x, x = gw hf.st.list q := ⟨_, rfl⟩
              rw [← hx] at c1 hbo
              unfold W at c1
              have Hbo := Lib.hid hbo
              clear hx hbo hq hd
              have hl5 : ((sumBytes hf.st).take k).length = k := by rw [List.length_take, sumBytes_length]; omega
              have Hs := Lib.hid hs
              have hcell : ∃ v, wr.cell? ⟨w.heap.size, k, none⟩ = some v := by
                rw [blk_cell hs k]
                simp only [List.getElem?_toArray]
                exact ⟨_, List.getElem?_eq_getElem (by rw [bpart_length _ _ (by rw [hl5]; omega)]; omega)⟩
              obtain ⟨v0, hv0⟩ := hcell
              have hvf := blk_frozen hs k
              clear hs
              have Hl5 := Lib.hid hl5
              clear hl5
              have hk33 : (k : Int) < 32 := by omega
              go_wp2_with fail
              have hby : (x.toNat : Int) / 2 ^ (8 * d) % 256 = ((byteOf hf.st k).toNat : Int) := by
                rw [Hbo.out, UInt8.toNat_ofNat', show (x.toNat : Int) / 2 ^ (8 * d) = ((x.toNat / 2 ^ (8 * d) : Nat) : Int) by rw [Int.natCast_ediv, Int.natCast_pow]; rfl]
                omega
              refine ⟨⟨k + 1, by omega, by go_num, ?_, ⟨blk_far H5.1 (by simp only; omega) _, H5.2⟩, hB5.setCell (Nat.le_refl _) _⟩, by simp only [intOf]; omega⟩
              rw [sum_step _ _ hk32, hby]
              exact bpart_put Hs.out Hl5.out hk32 _
            · obtain rfl : k = 32 := by omega
              obtain ⟨L, hL⟩ : ∃ L, L = bs (sumBytes hf.st) := ⟨_, rfl⟩
              have hsl : L.length = 32 := by rw [hL, bs_length, sumBytes_length]
              have h1c : ∀ v ∈ L, v.oneCell' = true := by rw [hL]; exact bs_oneCell _
              rw [List.take_of_length_le (by rw [sumBytes_length]; exact Nat.le_refl 32), bpart_full _ _ (sumBytes_length _), ← hL] at hs
              have hr : wr.rangeAt w.heap.size 0 L := fun j v hv => by rw [Nat.zero_add, blk_cell hs j]; simpa using hv
              have hth : wr.there w.heap.size 0 L.toArray.size := fun j hj => by
                rw [Nat.zero_add, blk_cell hs j]
                simp only [List.size_toArray] at hj
                simp only [List.getElem?_toArray, List.getElem?_eq_getElem hj]
                exact ⟨rfl, blk_frozen hs j⟩
              have hi : (Try.prog.info? 23).map (·.size) = some L.length := by rw [hsl]; rfl
              have hi2 : (Try.prog.info? 23).map (·.size) = some L.toArray.size := by rw [hi, List.size_toArray]
              have hr2 : (wr.setCells w.heap.size 0 L).rangeAt w.heap.size 0 L := World.rangeAt_setCells_same _ _ _ _ (by simpa using hth)
              have HL := Lib.hid hL
              have Hi := Lib.hid hi
              have Hi2 := Lib.hid hi2
              have Hr := Lib.hid hr
              have Hth := Lib.hid hth
              have Hr2 := Lib.hid hr2
              clear hi hi2 hr hth hr2 hL hs hsl
              go_wp2_with (first
                | (refine wpList_load_mid rfl _ _ rfl w.heap.size 0 rfl L _ Hr.out Try.underlying23 rfl Hi.out ?_)
                | (refine wpList_store_mid rfl _ _ _ rfl w.heap.size 0 L.toArray rfl rfl Hth.out Hi2.out (all_oneCell_toArray h1c) ?_))
              refine bodyPost_ret (v := .agg L.toArray) (results_cell_mid rfl _ _ w.heap.size L _ rfl Hr2.out Try.underlying23 rfl Hi.out) rfl ⟨?_, ?_⟩
              · rw [HL.out, Hhf.out]; rfl
              · exact below_cells (Nat.le_refl _) _ _ _ hB5
    · have hq56 : ¬ q = 56 := fun e => hjp (he.1 e)
      have d1 : ((q : Int) == 56) = false := by rw [Bool.eq_false_iff]; intro e; rw [beq_iff_eq] at e; omega
      have d2 : ((q : Int) != 56) = true := by simp [bne, d1]
      have hl3 : (pad j).length + 1 ≤ 140737488355328 := by rw [pad_length]; omega
      go_wp2_with (at_builtin; go_must (refine app1b elU8 rfl (.tmp 24) (.tmp 25) rfl w2.heap.size _ (pad j) _ rfl rfl (by omega) (by omega) ho hB hB.size hl3 ?_); intro v3 w3 ho3 hB3 hg3 hat3; clear hg3 hat3 ho hB)
      rw [← pad_succ] at ho3
      obtain ⟨A3, c3, rfl, -, -, -⟩ := (Rd.of_own ho3).slice_
      rw [pad_length] at ho3 ⊢
      refine ⟨⟨j + 1, A3, c3, by rw [← Hnn.out]; omega, rfl, by rw [pad_length]; exact ho3, hB3⟩, by simp only [lenOf]; omega⟩
end Go.Proofs.Ytpldkplfdbjidaa.Sha
