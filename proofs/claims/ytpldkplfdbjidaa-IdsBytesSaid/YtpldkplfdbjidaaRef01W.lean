/- The reference of layer 1: its walks -/
import Derived.Test.YtpldkplfdbjidaaProg
import Derived.Test.YtpldkplfdbjidaaRdrPure
set_option linter.unusedVariables false
set_option linter.unusedSimpArgs false
namespace Go.Proofs.Ytpldkplfdbjidaa.Ref01
open Go.RowKit Go.Proofs.Ytpldkplfdbjidaa.Wd Go.Proofs.Ytpldkplfdbjidaa.Lay

theorem bad_any (r : Rdr) (e : Nat) (w : World) :
    Calls Try.prog 125 #[.agg #[.string (str r.b), .int .i64 (r.bad : Int)], .int .i64 (e : Int)] w fun e' w' => e' = .returned (.agg #[.string (str (r.stop e).b), .int .i64 ((r.stop e).bad : Int)]) ∧ Below w.heap.size w w' := by
  by_cases hb : r.bad = 0
  · have h1 : ((r.bad : Int) == 0) = true := by simpa using hb
    go_enter Try.func125, Try.ntmps125
    go_wp2
    refine bodyPost_ret (v := .agg #[.string ⟨#[]⟩, .int .i64 e]) (by simp [results, Try.results125, go_sem]) rfl ⟨?_, ((Below.refl _ _).alloc (Nat.le_refl _) _).alloc (by simp) _⟩
    unfold Rdr.stop
    rw [if_pos hb]
    rfl
  · have h1 : ((r.bad : Int) == 0) = false := by simpa using hb
    go_enter Try.func125, Try.ntmps125
    go_wp2
    refine bodyPost_ret (v := .agg #[.string ⟨#[]⟩, .int .i64 r.bad]) (by simp [results, Try.results125, go_sem]) rfl ⟨?_, ((Below.refl _ _).alloc (Nat.le_refl _) _).alloc (by simp) _⟩
    unfold Rdr.stop
    rw [if_neg hb]
    rfl

set_option maxRecDepth 100000 in
theorem PutNumber_any (l : List UInt8) (v : Nat) (w : World) (hv : v < 18446744073709551616) (hl : l.length ≤ 140737488355328) :
    Calls Try.prog 86 #[.string (str l), .int .u64 (v : Int)] w fun e w' => e = .returned (.string (str (l ++ putN v))) ∧ Below w.heap.size w w' := by
  have hn8 := blen_le hv
  have ks := fun (y : Int) (W : World) => conv_lit1 (P := Try.prog) (dst := 9) Try.underlying39 Try.underlying5 Try.underlying9 y W
  go_enter Try.func86, Try.ntmps86
  go_wp2
  go_loopw [1, 5] (fun x s wr => ∃ j : Nat, j ≤ blen v ∧ x = .int .u64 ((v / 256 ^ j : Nat) : Int) ∧ s = .string (str (be j v)) ∧ Below w.heap.size w wr) (fun x _ _ => (intOf x).toNat)
  case atStart => exact ⟨0, Nat.zero_le _, by simp, rfl, Below.refl _ _⟩
  case round =>
    obtain ⟨j, hj, rfl, rfl, hB⟩ := hrel
    have hlen := be_length j v
    by_cases hjb : j < blen v
    · have hpos : 0 < v / 256 ^ j := by
        rcases Nat.eq_zero_or_pos (v / 256 ^ j) with h | h
        · have h2 := blen_div v j hj; rw [h, blen_zero] at h2; omega
        · exact h
      have hvj : v / 256 ^ j ≤ v := Nat.div_le_self _ _
      have hc := be_cons j v
      have hd : v / 256 ^ (j + 1) = v / 256 ^ j / 256 := by rw [Nat.pow_succ, Nat.div_div_eq_div_mul]
      obtain ⟨x, hx⟩ : ∃ x, x = v / 256 ^ j := ⟨_, rfl⟩
      rw [← hx] at hpos hvj hc hd ⊢
      have Hc := Lib.hid hc
      have Hd := Lib.hid hd
      have hlen8 : (be j v).length ≤ 8 := by omega
      clear hx hc hd hlen
      go_wp2
      refine ⟨⟨j + 1, by omega, ?_, ?_, hB.alloc hB.size _⟩, by simp only [intOf]; omega⟩
      · rw [Hd.out]; congr 1
      · rw [Hc.out, str_append]; rfl
    · obtain rfl : j = blen v := by omega
      rw [Nat.div_eq_of_lt (lt_pow_blen v)]
      go_wp2
      go_ret
      refine ⟨?_, hB.alloc hB.size _⟩
      show Ending.returned (.string (str l ++ str [UInt8.ofNat (blen v)] ++ str (be (blen v) v))) = _
      rw [str_append, str_append, List.append_assoc]
      rfl

/-- the reader of the reference, as a value -/
theorem Number_bad (b : List UInt8) (bad : Nat) (w : World) (hb : bad ≠ 0) :
    Calls Try.prog 124 #[.agg #[.string (str b), .int .i64 (bad : Int)]] w fun e w' => e = .returned (.tuple #[.agg #[.string (str b), .int .i64 (bad : Int)], .int .u64 0]) ∧ Below w.heap.size w w' := by
  have h1 : ((bad : Int) != 0) = true := by simpa using hb
  go_enter Try.func124, Try.ntmps124
  go_wp2
  refine bodyPost_ret (v := .tuple #[.agg #[.string (str b), .int .i64 (bad : Int)], .int .u64 0]) (by simp [results, Try.results124, go_sem]) rfl ⟨rfl, ((Below.refl _ _).alloc (Nat.le_refl _) _).alloc (by simp) _⟩
theorem Number_end  (w : World) :
    Calls Try.prog 124 #[.agg #[.string (str []), .int .i64 0]] w fun e w' => e = .returned (.tuple #[.agg #[.string (str []), .int .i64 10], .int .u64 0]) ∧ Below w.heap.size w w' := by
  have H := fun w => Lib.hid (bad_any ⟨[], 0⟩ 10 w)
  go_enter Try.func124, Try.ntmps124
  go_wp2_with (go_at_call 125; go_must (refine (H _).out.mono ?_); rintro e w2 ⟨rfl, hb⟩; obtain ⟨hc, hf⟩ := bcell hb; have hz : w.heap.size + 1 < w2.heap.size := (by have h := hb.size; simp only [alloc_size] at h; omega); simp only [Rdr.stop, if_true])
  refine bodyPost_ret (v := .tuple #[.agg #[.string (str []), .int .i64 10], .int .u64 0]) (by simp [results, Try.results124, go_sem, hc, hf, hz]) rfl ⟨rfl, ?_⟩
  exact ((((((Below.refl _ _).alloc (Nat.le_refl _) _).alloc (by simp) _).trans (hb.mono (by simp only [alloc_size]; omega))).setCell (by simp) _).setCell (by simp) _)
theorem Number_big (c : UInt8) (l : List UInt8) (h8 : 8 < c.toNat) (w : World) :
    Calls Try.prog 124 #[.agg #[.string (str (c :: l)), .int .i64 0]] w fun e w' => e = .returned (.tuple #[.agg #[.string (str []), .int .i64 11], .int .u64 0]) ∧ Below w.heap.size w w' := by
  have H := fun w => Lib.hid (bad_any ⟨(c :: l), 0⟩ 11 w)
  have h8b : decide ((8 : Int) < (c.toNat : Int)) = true := by simp; omega
  have h8c : (8 : Int) < (c.toNat : Int) := by omega
  have hc256 : c.toNat < 256 := c.toNat_lt
  go_enter Try.func124, Try.ntmps124
  go_wp2_with (go_at_call 125; go_must (refine (H _).out.mono ?_); rintro e w2 ⟨rfl, hb⟩; obtain ⟨hc, hf⟩ := bcell hb; have hz : w.heap.size + 1 < w2.heap.size := (by have h := hb.size; simp only [alloc_size] at h; omega); simp only [Rdr.stop, if_true])
  refine bodyPost_ret (v := .tuple #[.agg #[.string (str []), .int .i64 11], .int .u64 0]) (by simp [results, Try.results124, go_sem, hc, hf, hz]) rfl ⟨rfl, ?_⟩
  exact ((((((Below.refl _ _).alloc (Nat.le_refl _) _).alloc (by simp) _).trans (hb.mono (by simp only [alloc_size]; omega))).setCell (by simp) _).setCell (by simp) _)
theorem Number_cut (c : UInt8) (l : List UInt8) (h8 : c.toNat ≤ 8) (hc0 : l.length < c.toNat) (w : World) :
    Calls Try.prog 124 #[.agg #[.string (str (c :: l)), .int .i64 0]] w fun e w' => e = .returned (.tuple #[.agg #[.string (str []), .int .i64 10], .int .u64 0]) ∧ Below w.heap.size w w' := by
  have H := fun w => Lib.hid (bad_any ⟨(c :: l), 0⟩ 10 w)
  go_enter Try.func124, Try.ntmps124
  go_wp2_with (go_at_call 125; go_must (refine (H _).out.mono ?_); rintro e w2 ⟨rfl, hb⟩; obtain ⟨hc, hf⟩ := bcell hb; have hz : w.heap.size + 1 < w2.heap.size := (by have h := hb.size; simp only [alloc_size] at h; omega); simp only [Rdr.stop, if_true])
  refine bodyPost_ret (v := .tuple #[.agg #[.string (str []), .int .i64 10], .int .u64 0]) (by simp [results, Try.results124, go_sem, hc, hf, hz]) rfl ⟨rfl, ?_⟩
  exact ((((((Below.refl _ _).alloc (Nat.le_refl _) _).alloc (by simp) _).trans (hb.mono (by simp only [alloc_size]; omega))).setCell (by simp) _).setCell (by simp) _)

set_option maxRecDepth 100000 in
set_option maxHeartbeats 1000000 in
theorem Number_zero (c : UInt8) (l : List UInt8) (h8 : c.toNat ≤ 8) (h0 : 0 < c.toNat) (hc0 : c.toNat ≤ l.length + 1) (w : World) :
    Calls Try.prog 124 #[.agg #[.string (str (c :: 0 :: l)), .int .i64 0]] w fun e w' => e = .returned (.tuple #[.agg #[.string (str []), .int .i64 11], .int .u64 0]) ∧ Below w.heap.size w w' := by
  have H := fun w => Lib.hid (bad_any ⟨c :: 0 :: l, 0⟩ 11 w)
  go_enter Try.func124, Try.ntmps124
  go_wp2_with fail
  go_loop [5, 6] (fun v i => ∃ k : Nat, k ≤ c.toNat ∧ i = .int .i64 ((k : Int) + 1) ∧ v = .int .u64 ((ofBe ((0 :: l).take k) : Nat) : Int)) (fun _ i => c.toNat + 1 - (intOf i).toNat)
  case atStart => exact ⟨0, Nat.zero_le _, rfl, rfl⟩
  case round =>
    obtain ⟨k, hk, rfl, rfl⟩ := hrel
    by_cases hlt : k < c.toNat
    · have hst := ofBe_step2 (0 :: l) k (by simp; omega) (by omega)
      have hst2 := ofBe_lt8' (0 :: l) k (by omega)
      have hb256 := ((0 :: l)[k]'(by simp; omega)).toNat_lt
      have Hst := Lib.hid hst
      clear hst
      go_wp2
      refine ⟨⟨k + 1, by omega, by go_num, ?_⟩, by simp only [intOf]; omega⟩
      rw [← Hst.out]
      congr 1
      omega
    · obtain rfl : k = c.toNat := by omega
      go_wp2_with (go_at_call 125; go_must (refine (H _).out.mono ?_); rintro e w2 ⟨rfl, hb⟩; obtain ⟨hc, hf⟩ := bcell hb; have hz : w.heap.size + 1 < w2.heap.size := (by have h := hb.size; simp only [alloc_size] at h; omega); simp only [Rdr.stop, if_true])
      refine bodyPost_ret (v := .tuple #[.agg #[.string (str []), .int .i64 11], .int .u64 0]) (by simp [results, Try.results124, go_sem, hc, hf, hz]) rfl ⟨rfl, ?_⟩
      exact ((((((Below.refl _ _).alloc (Nat.le_refl _) _).alloc (by simp) _).trans (hb.mono (by simp only [alloc_size]; omega))).setCell (by simp) _).setCell (by simp) _)

set_option maxRecDepth 100000 in
set_option maxHeartbeats 1000000 in
theorem Number_okN (c d : UInt8) (l : List UInt8) (h8 : c.toNat ≤ 8) (h0 : 0 < c.toNat) (hc0 : c.toNat ≤ l.length + 1) (hd : d.toNat ≠ 0) (w : World) :
    Calls Try.prog 124 #[.agg #[.string (str (c :: d :: l)), .int .i64 0]] w fun e w' => e = .returned (.tuple #[.agg #[.string (str ((d :: l).drop c.toNat)), .int .i64 0], .int .u64 (ofBe ((d :: l).take c.toNat) : Nat)]) ∧ Below w.heap.size w w' := by
  have hd1 : ((d.toNat : Int) == 0) = false := by simpa using hd
  have hl0 : ((l.length : Int) + 1 + 1 == 0) = false := by simp; omega
  go_enter Try.func124, Try.ntmps124
  go_wp2_with fail
  go_loop [5, 6] (fun v i => ∃ k : Nat, k ≤ c.toNat ∧ i = .int .i64 ((k : Int) + 1) ∧ v = .int .u64 ((ofBe ((d :: l).take k) : Nat) : Int)) (fun _ i => c.toNat + 1 - (intOf i).toNat)
  case atStart => exact ⟨0, Nat.zero_le _, rfl, rfl⟩
  case round =>
    obtain ⟨k, hk, rfl, rfl⟩ := hrel
    by_cases hlt : k < c.toNat
    · have hst := ofBe_step2 (d :: l) k (by simp; omega) (by omega)
      have hst2 := ofBe_lt8' (d :: l) k (by omega)
      have hb256 := ((d :: l)[k]'(by simp; omega)).toNat_lt
      have Hst := Lib.hid hst
      clear hst
      go_wp2
      refine ⟨⟨k + 1, by omega, by go_num, ?_⟩, by simp only [intOf]; omega⟩
      rw [← Hst.out]
      congr 1
      omega
    · obtain rfl : k = c.toNat := by omega
      go_wp2
      refine bodyPost_ret (v := .tuple #[.agg #[.string ((str (c :: d :: l)).extract (1 + c.toNat) (l.length + 1 + 1)), .int .i64 0], .int .u64 (ofBe ((d :: l).take c.toNat) : Nat)]) (by simp [results, Try.results124, go_sem]) rfl ⟨?_, ((Below.refl _ _).alloc (Nat.le_refl _) _).alloc (by simp) _⟩
      rw [str_drop _ _ _ (by simp), Nat.add_comm 1, List.drop_succ_cons]

set_option maxRecDepth 100000 in
set_option maxHeartbeats 1000000 in
theorem Number_ok0 (l : List UInt8) (w : World) :
    Calls Try.prog 124 #[.agg #[.string (str (0 :: l)), .int .i64 0]] w fun e w' => e = .returned (.tuple #[.agg #[.string (str l), .int .i64 0], .int .u64 0]) ∧ Below w.heap.size w w' := by
  go_enter Try.func124, Try.ntmps124
  go_wp2_with fail
  refine wp_loop_rounds 1 ?_
  rw [rounds_succ]
  go_wp2
  refine bodyPost_ret (v := .tuple #[.agg #[.string (str l), .int .i64 0], .int .u64 0]) (by simp [results, Try.results124, go_sem]) rfl ⟨rfl, ((Below.refl _ _).alloc (Nat.le_refl _) _).alloc (by simp) _⟩

/-- Number of the reference, whatever the reader -/
theorem Number_any (r : Rdr) (w : World) :
    Calls Try.prog 124 #[.agg #[.string (str r.b), .int .i64 (r.bad : Int)]] w fun e w' => e = .returned (.tuple #[.agg #[.string (str r.number.2.b), .int .i64 (r.number.2.bad : Int)], .int .u64 (r.number.1 : Nat)]) ∧ Below w.heap.size w w' := by
  obtain ⟨b, bad⟩ := r
  unfold Rdr.number
  by_cases hb : bad = 0
  · subst hb
    rw [if_pos rfl]
    cases b with
    | nil => exact Number_end w
    | cons c l =>
      simp only
      by_cases h8 : 8 < c.toNat
      · rw [if_pos h8]; exact Number_big c l h8 w
      · rw [if_neg h8]
        by_cases hc : l.length < c.toNat
        · rw [if_pos hc]; exact Number_cut c l (by omega) hc w
        · rw [if_neg hc]
          cases l with
          | nil =>
            have h0 : c.toNat = 0 := by simp at hc; omega
            obtain rfl : c = 0 := UInt8.toNat_inj.1 h0
            rw [if_neg (by decide)]
            exact Number_ok0 [] w
          | cons d l =>
            by_cases h0 : c.toNat = 0
            · obtain rfl : c = 0 := UInt8.toNat_inj.1 h0
              rw [if_neg (by simp)]
              exact Number_ok0 (d :: l) w
            · by_cases hd : d = 0
              · subst hd
                rw [if_pos ⟨by omega, rfl⟩]
                exact Number_zero c l (by omega) (by omega) (by simp at hc; omega) w
              · rw [if_neg (by rintro ⟨_, h'⟩; exact hd (by simpa using h'))]
                exact Number_okN c d l (by omega) (by omega) (by simp at hc; omega) (fun e => hd (UInt8.toNat_inj.1 e)) w
  · rw [if_neg hb]
    exact Number_bad b bad w hb


set_option maxRecDepth 100000 in
set_option maxHeartbeats 1000000 in
theorem Small_any (r : Rdr) (most : Int) (hm : most < 9223372036854775808) (w : World) :
    Calls Try.prog 80 #[.agg #[.string (str r.b), .int .i64 (r.bad : Int)], .int .i64 most] w fun e w' => e = .returned (.tuple #[.agg #[.string (str (r.small most).2.b), .int .i64 ((r.small most).2.bad : Int)], .int .i64 ((r.small most).1 : Nat)]) ∧ Below w.heap.size w w' := by
  have Hn := fun w => Lib.hid (Number_any r w)
  have hlt := r.number_lt
  have hbad := r.number_bad
  unfold Rdr.small
  obtain ⟨⟨v, b', bad'⟩, hv⟩ : ∃ x, x = r.number := ⟨_, rfl⟩
  rw [← hv] at Hn hlt hbad ⊢
  clear hv
  simp only at Hn hlt hbad ⊢
  by_cases hb : bad' = 0
  · subst hb
    clear hbad
    by_cases hneg : most < 0
    · rw [if_pos ⟨rfl, .inl hneg⟩]
      have Hs := fun w => Lib.hid (bad_any ⟨b', 0⟩ 3 w)
      go_enter Try.func80, Try.ntmps80
      go_wp2_with (first | (go_at_call 124; go_must (refine (Hn _).out.mono ?_); rintro e w2 ⟨rfl, hb1⟩; have q11 := blk_below (blk_alloc (heap_alloc_new _ _) _) hb1; have q12 := blk_below (heap_alloc_new _ _) hb1; simp only [alloc_size] at q12; have k110 := blk_cell q11 0; have f110 := blk_frozen q11 0; have k111 := blk_cell q11 1; have f111 := blk_frozen q11 1; have k120 := blk_cell q12 0; have f120 := blk_frozen q12 0; have k121 := blk_cell q12 1; have f121 := blk_frozen q12 1; have hz1 : w.heap.size + 1 < w2.heap.size := (by have h := hb1.size; simp only [alloc_size, setCell_size] at h; omega)) | (go_at_call 125; go_must (refine (Hs _).out.mono ?_); rintro e w3 ⟨rfl, hb2⟩; have q21 := blk_below (blk_set (blk_set q11 0 _) 1 _) hb2; have q22 := blk_below (blk_far (blk_far q12 (by simp) _) (by simp) _) hb2; have k210 := blk_cell q21 0; have f210 := blk_frozen q21 0; have k211 := blk_cell q21 1; have f211 := blk_frozen q21 1; have k220 := blk_cell q22 0; have f220 := blk_frozen q22 0; have k221 := blk_cell q22 1; have f221 := blk_frozen q22 1; have hz2 : w.heap.size + 1 < w3.heap.size := (by have h := hb2.size; simp only [alloc_size, setCell_size] at h; omega); simp only [Rdr.stop, if_true]))
      refine bodyPost_ret (v := .tuple #[.agg #[.string (str []), .int .i64 3], .int .i64 0]) (by simp [results, Try.results80, go_sem, k110, f110, k111, f111, k120, f120, k121, f121, hz1, k210, f210, k211, f211, k220, f220, k221, f221, hz2]) rfl ⟨rfl, ?_⟩
      exact ((((((((((Below.refl _ _).alloc (Nat.le_refl _) _).alloc (by simp) _).trans (hb1.mono (by simp only [alloc_size, setCell_size]; omega)))).setCell (by simp) _).setCell (by simp) _).trans (hb2.mono (by simp only [alloc_size, setCell_size]; omega)))).setCell (by simp) _).setCell (by simp) _
    · by_cases hgt : most < v
      · rw [if_pos ⟨rfl, .inr hgt⟩]
        have Hs := fun w => Lib.hid (bad_any ⟨b', 0⟩ 3 w)
        go_enter Try.func80, Try.ntmps80
        go_wp2_with (first | (go_at_call 124; go_must (refine (Hn _).out.mono ?_); rintro e w2 ⟨rfl, hb1⟩; have q11 := blk_below (blk_alloc (heap_alloc_new _ _) _) hb1; have q12 := blk_below (heap_alloc_new _ _) hb1; simp only [alloc_size] at q12; have k110 := blk_cell q11 0; have f110 := blk_frozen q11 0; have k111 := blk_cell q11 1; have f111 := blk_frozen q11 1; have k120 := blk_cell q12 0; have f120 := blk_frozen q12 0; have k121 := blk_cell q12 1; have f121 := blk_frozen q12 1; have hz1 : w.heap.size + 1 < w2.heap.size := (by have h := hb1.size; simp only [alloc_size, setCell_size] at h; omega)) | (go_at_call 125; go_must (refine (Hs _).out.mono ?_); rintro e w3 ⟨rfl, hb2⟩; have q21 := blk_below (blk_set (blk_set q11 0 _) 1 _) hb2; have q22 := blk_below (blk_far (blk_far q12 (by simp) _) (by simp) _) hb2; have k210 := blk_cell q21 0; have f210 := blk_frozen q21 0; have k211 := blk_cell q21 1; have f211 := blk_frozen q21 1; have k220 := blk_cell q22 0; have f220 := blk_frozen q22 0; have k221 := blk_cell q22 1; have f221 := blk_frozen q22 1; have hz2 : w.heap.size + 1 < w3.heap.size := (by have h := hb2.size; simp only [alloc_size, setCell_size] at h; omega); simp only [Rdr.stop, if_true]))
        refine bodyPost_ret (v := .tuple #[.agg #[.string (str []), .int .i64 3], .int .i64 0]) (by simp [results, Try.results80, go_sem, k110, f110, k111, f111, k120, f120, k121, f121, hz1, k210, f210, k211, f211, k220, f220, k221, f221, hz2]) rfl ⟨rfl, ?_⟩
        exact ((((((((((Below.refl _ _).alloc (Nat.le_refl _) _).alloc (by simp) _).trans (hb1.mono (by simp only [alloc_size, setCell_size]; omega)))).setCell (by simp) _).setCell (by simp) _).trans (hb2.mono (by simp only [alloc_size, setCell_size]; omega)))).setCell (by simp) _).setCell (by simp) _
      · rw [if_neg (by rintro ⟨_, h1 | h1⟩ <;> omega)]
        go_enter Try.func80, Try.ntmps80
        go_wp2_with (go_at_call 124; go_must (refine (Hn _).out.mono ?_); rintro e w2 ⟨rfl, hb1⟩; have q11 := blk_below (blk_alloc (heap_alloc_new _ _) _) hb1; have q12 := blk_below (heap_alloc_new _ _) hb1; simp only [alloc_size] at q12; have k110 := blk_cell q11 0; have f110 := blk_frozen q11 0; have k111 := blk_cell q11 1; have f111 := blk_frozen q11 1; have k120 := blk_cell q12 0; have f120 := blk_frozen q12 0; have k121 := blk_cell q12 1; have f121 := blk_frozen q12 1; have hz1 : w.heap.size + 1 < w2.heap.size := (by have h := hb1.size; simp only [alloc_size, setCell_size] at h; omega))
        refine bodyPost_ret (v := .tuple #[.agg #[.string (str b'), .int .i64 0], .int .i64 v]) (by simp [results, Try.results80, go_sem, k110, f110, k111, f111, k120, f120, k121, f121, hz1]) rfl ⟨rfl, ?_⟩
        exact ((((((((Below.refl _ _).alloc (Nat.le_refl _) _).alloc (by simp) _).trans (hb1.mono (by simp only [alloc_size, setCell_size]; omega)))).setCell (by simp) _).setCell (by simp) _).setCell (by simp) _).setCell (by simp) _
  · obtain rfl := hbad hb
    rw [if_neg (by rintro ⟨h1, _⟩; exact hb h1)]
    have h1 : ((bad' : Int) == 0) = false := by simpa using hb
    go_enter Try.func80, Try.ntmps80
    go_wp2_with (go_at_call 124; go_must (refine (Hn _).out.mono ?_); rintro e w2 ⟨rfl, hb1⟩; have q11 := blk_below (blk_alloc (heap_alloc_new _ _) _) hb1; have q12 := blk_below (heap_alloc_new _ _) hb1; simp only [alloc_size] at q12; have k110 := blk_cell q11 0; have f110 := blk_frozen q11 0; have k111 := blk_cell q11 1; have f111 := blk_frozen q11 1; have k120 := blk_cell q12 0; have f120 := blk_frozen q12 0; have k121 := blk_cell q12 1; have f121 := blk_frozen q12 1; have hz1 : w.heap.size + 1 < w2.heap.size := (by have h := hb1.size; simp only [alloc_size, setCell_size] at h; omega))
    refine bodyPost_ret (v := .tuple #[.agg #[.string (str b'), .int .i64 bad'], .int .i64 0]) (by simp [results, Try.results80, go_sem, k110, f110, k111, f111, k120, f120, k121, f121, hz1]) rfl ⟨rfl, ?_⟩
    exact ((((((((Below.refl _ _).alloc (Nat.le_refl _) _).alloc (by simp) _).trans (hb1.mono (by simp only [alloc_size, setCell_size]; omega)))).setCell (by simp) _).setCell (by simp) _).setCell (by simp) _).setCell (by simp) _

set_option maxRecDepth 100000 in
theorem Raw_any (r : Rdr) (many : Int) (w : World) :
    Calls Try.prog 81 #[.agg #[.string (str r.b), .int .i64 (r.bad : Int)], .int .i64 many] w fun e w' => e = .returned (.tuple #[.agg #[.string (str (r.raw many).2.b), .int .i64 ((r.raw many).2.bad : Int)], .string (str (r.raw many).1)]) ∧ Below w.heap.size w w' := by
  obtain ⟨b, bad⟩ := r
  unfold Rdr.raw
  by_cases hb : bad = 0
  · subst hb
    simp only [if_true]
    by_cases hneg : many < 0
    · rw [if_pos hneg]
      have Hs := fun w => Lib.hid (bad_any ⟨b, 0⟩ 2 w)
      go_enter Try.func81, Try.ntmps81
      go_wp2_with (go_at_call 125; go_must (refine (Hs _).out.mono ?_); rintro e w3 ⟨rfl, hb2⟩; have q21 := blk_below (blk_alloc (heap_alloc_new _ _) _) hb2; have q22 := blk_below (heap_alloc_new _ _) hb2; simp only [alloc_size] at q22; have k210 := blk_cell q21 0; have f210 := blk_frozen q21 0; have k211 := blk_cell q21 1; have f211 := blk_frozen q21 1; have k220 := blk_cell q22 0; have f220 := blk_frozen q22 0; have k221 := blk_cell q22 1; have f221 := blk_frozen q22 1; have hz2 : w.heap.size + 1 < w3.heap.size := (by have h := hb2.size; simp only [alloc_size, setCell_size] at h; omega); simp only [Rdr.stop, if_true])
      refine bodyPost_ret (v := .tuple #[.agg #[.string (str []), .int .i64 2], .string (str [])]) (by simp [results, Try.results81, go_sem, k210, f210, k211, f211, k220, f220, k221, f221, hz2, str_nil]) rfl ⟨rfl, ?_⟩
      exact ((((((Below.refl _ _).alloc (Nat.le_refl _) _).alloc (by simp) _).trans (hb2.mono (by simp only [alloc_size, setCell_size]; omega)))).setCell (by simp) _).setCell (by simp) _
    · rw [if_neg hneg]
      by_cases hbig : (b.length : Int) < many
      · rw [if_pos hbig]
        have Hs := fun w => Lib.hid (bad_any ⟨b, 0⟩ 10 w)
        go_enter Try.func81, Try.ntmps81
        go_wp2_with (go_at_call 125; go_must (refine (Hs _).out.mono ?_); rintro e w3 ⟨rfl, hb2⟩; have q21 := blk_below (blk_alloc (heap_alloc_new _ _) _) hb2; have q22 := blk_below (heap_alloc_new _ _) hb2; simp only [alloc_size] at q22; have k210 := blk_cell q21 0; have f210 := blk_frozen q21 0; have k211 := blk_cell q21 1; have f211 := blk_frozen q21 1; have k220 := blk_cell q22 0; have f220 := blk_frozen q22 0; have k221 := blk_cell q22 1; have f221 := blk_frozen q22 1; have hz2 : w.heap.size + 1 < w3.heap.size := (by have h := hb2.size; simp only [alloc_size, setCell_size] at h; omega); simp only [Rdr.stop, if_true])
        refine bodyPost_ret (v := .tuple #[.agg #[.string (str []), .int .i64 10], .string (str [])]) (by simp [results, Try.results81, go_sem, k210, f210, k211, f211, k220, f220, k221, f221, hz2, str_nil]) rfl ⟨rfl, ?_⟩
        exact ((((((Below.refl _ _).alloc (Nat.le_refl _) _).alloc (by simp) _).trans (hb2.mono (by simp only [alloc_size, setCell_size]; omega)))).setCell (by simp) _).setCell (by simp) _
      · rw [if_neg hbig]
        obtain ⟨k, rfl⟩ := Int.eq_ofNat_of_zero_le (show 0 ≤ many by omega)
        have hk : k ≤ b.length := by omega
        go_enter Try.func81, Try.ntmps81
        go_wp2
        refine bodyPost_ret (v := .tuple #[.agg #[.string ((str b).extract k b.length), .int .i64 0], .string ((str b).extract 0 k)]) (by simp [results, Try.results81, go_sem]) rfl ⟨?_, ((Below.refl _ _).alloc (Nat.le_refl _) _).alloc (by simp) _⟩
        rw [str_take, str_drop _ _ _ (Nat.le_refl _)]
  · simp only [if_neg hb]
    have h1 : ((bad : Int) != 0) = true := by simpa using hb
    go_enter Try.func81, Try.ntmps81
    go_wp2
    refine bodyPost_ret (v := .tuple #[.agg #[.string (str b), .int .i64 bad], .string (str [])]) (by simp [results, Try.results81, go_sem, str_nil]) rfl ⟨rfl, ((Below.refl _ _).alloc (Nat.le_refl _) _).alloc (by simp) _⟩

theorem End_any (r : Rdr) (w : World) :
    Calls Try.prog 82 #[.agg #[.string (str r.b), .int .i64 (r.bad : Int)]] w fun e w' => e = .returned (.int .i64 (r.fin : Nat)) ∧ Below w.heap.size w w' := by
  obtain ⟨b, bad⟩ := r
  unfold Rdr.fin
  by_cases hb : bad = 0
  · subst hb
    cases b with
    | nil =>
      rw [if_neg (by simp)]
      go_enter Try.func82, Try.ntmps82
      go_wp2
      go_ret
      exact ⟨rfl, (Below.refl _ _).alloc (Nat.le_refl _) _⟩
    | cons c l =>
      rw [if_pos ⟨rfl, by simp⟩]
      have h1 : (0 : Int) < (l.length : Int) + 1 := by omega
      go_enter Try.func82, Try.ntmps82
      go_wp2
      go_ret
      exact ⟨rfl, (Below.refl _ _).alloc (Nat.le_refl _) _⟩
  · rw [if_neg (by rintro ⟨h1, _⟩; exact hb h1)]
    have h1 : ((bad : Int) == 0) = false := by simpa using hb
    go_enter Try.func82, Try.ntmps82
    go_wp2
    go_ret
    exact ⟨rfl, (Below.refl _ _).alloc (Nat.le_refl _) _⟩
end Go.Proofs.Ytpldkplfdbjidaa.Ref01
