/- The reader's walks -/
import Derived.Test.YtpldkplfdbjidaaProg
import Derived.Test.YtpldkplfdbjidaaRdrPure
set_option linter.unusedVariables false
set_option linter.unusedSimpArgs false
namespace Go.Proofs.Ytpldkplfdbjidaa.Lay
open Go.RowKit Go.Proofs.Ytpldkplfdbjidaa.Wd

/-- a reader that was made lies in block g -/
def RdrAt (w : World) (g : Nat) (r : Rdr) : Prop := w.heap[g]? = some (.cells #[.bool true, .string (str r.b), .int .i64 (r.bad : Int)] 165 (0, 0))

theorem RdrAt.c0 {w : World} {g : Nat} {r : Rdr} (h : RdrAt w g r) : w.cell? ⟨g, 0, none⟩ = some (.bool true) := by rw [blk_cell h 0]; rfl
theorem RdrAt.c1 {w : World} {g : Nat} {r : Rdr} (h : RdrAt w g r) : w.cell? ⟨g, 1, none⟩ = some (.string (str r.b)) := by rw [blk_cell h 1]; rfl
theorem RdrAt.c2 {w : World} {g : Nat} {r : Rdr} (h : RdrAt w g r) : w.cell? ⟨g, 2, none⟩ = some (.int .i64 (r.bad : Int)) := by rw [blk_cell h 2]; rfl
theorem RdrAt.f {w : World} {g : Nat} {r : Rdr} (h : RdrAt w g r) (i : Nat) : w.frozen? ⟨g, i, none⟩ = false := blk_frozen h i

theorem RdrAt.below {w w1 : World} {g : Nat} {r : Rdr} (h : RdrAt w g r) (hb : Below w.heap.size w w1) : RdrAt w1 g r := blk_below h hb
theorem RdrAt.lt {w : World} {g : Nat} {r : Rdr} (h : RdrAt w g r) : g < w.heap.size := blk_lt h

theorem none_any (g : Nat) (r : Rdr) (w : World) (h : RdrAt w g r) :
    Calls Try.prog 122 #[.pointer (some ⟨g, 0, none⟩)] w fun e w' => e = .returned (.bool false) ∧ w = w' := by
  have c0 := h.c0
  clear h
  go_enter Try.func122, Try.ntmps122
  go_wp2
  go_ret
  exact ⟨rfl, rfl⟩

theorem fine_yes (g : Nat) (b : List UInt8) (w : World) (h : RdrAt w g ⟨b, 0⟩) :
    Calls Try.prog 120 #[.pointer (some ⟨g, 0, none⟩)] w fun e w' => e = .returned (.bool true) ∧ w = w' := by
  have Hn := Lib.hid (none_any g _ w h)
  have c2 := h.c2
  clear h
  go_enter Try.func120, Try.ntmps120
  go_wp2_with (go_at_call 122; refine Hn.out.mono ?_; rintro e w' ⟨rfl, rfl⟩)
  go_ret
  exact ⟨rfl, rfl⟩
theorem fine_no (g : Nat) (r : Rdr) (w : World) (h : RdrAt w g r) (hb : r.bad ≠ 0) :
    Calls Try.prog 120 #[.pointer (some ⟨g, 0, none⟩)] w fun e w' => e = .returned (.bool false) ∧ w = w' := by
  have Hn := Lib.hid (none_any g _ w h)
  have c2 := h.c2
  have h1 : ((r.bad : Int) == 0) = false := by simpa using hb
  clear h hb
  go_enter Try.func120, Try.ntmps120
  go_wp2_with (go_at_call 122; refine Hn.out.mono ?_; rintro e w' ⟨rfl, rfl⟩)
  go_ret
  exact ⟨rfl, rfl⟩

/-- what a call of the reader leaves -/
def Left (w : World) (g : Nat) (r : Rdr) (w' : World) : Prop := RdrAt w' g r ∧ w.grownBy w' (some g)

theorem Left.then_ {w : World} {g : Nat} {r : Rdr} {w1 w2 : World} (h : Left w g r w1) (hb : Below w1.heap.size w1 w2) : Left w g r w2 := ⟨blk_below h.1 hb, h.2.trans (grown_below hb _)⟩

theorem stop_any (g : Nat) (r : Rdr) (w : World) (e : Nat) (h : RdrAt w g r) :
    Calls Try.prog 121 #[.pointer (some ⟨g, 0, none⟩), .int .i64 (e : Int)] w fun e' w' => e' = .returned (.tuple #[]) ∧ Left w g (r.stop e) w' := by
  have c1 := h.c1
  have c2 := h.c2
  have f1 := h.f 1
  have f2 := h.f 2
  by_cases hb : r.bad = 0
  · have h1 : ((r.bad : Int) == 0) = true := by simpa using hb
    go_enter Try.func121, Try.ntmps121
    go_wp2
    go_end0
    refine ⟨rfl, ?_, ((grown_setCell _ _ _ _).trans (grown_setCell _ _ _ _))⟩
    unfold Rdr.stop RdrAt
    rw [if_pos hb]
    exact blk_set (blk_set h 2 _) 1 _
  · have h1 : ((r.bad : Int) == 0) = false := by simpa using hb
    go_enter Try.func121, Try.ntmps121
    go_wp2
    go_end0
    refine ⟨rfl, ?_, grown_setCell _ _ _ _⟩
    unfold Rdr.stop RdrAt
    rw [if_neg hb]
    exact blk_set h 1 _

theorem take_any (g : Nat) (b : List UInt8) (bad : Nat) (m : Int) (w : World) (h : RdrAt w g ⟨b, bad⟩) (h0 : 0 ≤ m) (hk : m ≤ b.length) :
    Calls Try.prog 123 #[.pointer (some ⟨g, 0, none⟩), .int .i64 m] w fun e w' => e = .returned (.string (str (b.take m.toNat))) ∧ Left w g ⟨b.drop m.toNat, bad⟩ w' := by
  obtain ⟨k, rfl⟩ := Int.eq_ofNat_of_zero_le h0
  have c1 := h.c1
  have f1 := h.f 1
  have hk' : k ≤ (str b).size := by rw [str_size]; omega
  go_enter Try.func123, Try.ntmps123
  go_wp2
  go_ret
  refine ⟨?_, ?_, grown_setCell _ _ _ _⟩
  · show Ending.returned (.string ((str b).extract 0 k)) = _
    rw [str_take]
  · unfold RdrAt
    rw [str_drop _ _ _ (by exact Nat.le_refl _)]
    exact blk_set h 1 _
theorem or8 (v c : Nat) (hv : v < 72057594037927936) (hc : c < 256) : bits .or .u64 (IntKind.u64.wrap ((v : Int) * 256)) (IntKind.u64.wrap (c : Int)) = ((v * 256 + c : Nat) : Int) := by
  rw [IntKind.wrap_u64, IntKind.wrap_u64, show ((v : Int) * 256 % 18446744073709551616) = ((v * 256 : Nat) : Int) by omega, show ((c : Int) % 18446744073709551616) = (c : Int) by omega,
    u64_or_nat _ _ (by omega) (by omega), nat_join 8 _ _ (by omega) (by omega)]
theorem ofBe_step (m : List UInt8) (k : Nat) (hk : k < m.length) (h8 : m.length ≤ 8) :
    bits .or .u64 (IntKind.u64.wrap ((ofBe (m.take k) : Nat) * 256)) (IntKind.u64.wrap (m[k].toNat : Int)) = ((ofBe (m.take (k + 1)) : Nat) : Int) := by
  have h1 := ofBe_lt (m.take k)
  have h2 : 256 ^ (m.take k).length ≤ 256 ^ 7 := Nat.pow_le_pow_right (by omega) (by rw [List.length_take]; omega)
  have h3 : 256 ^ 7 = 72057594037927936 := by decide
  rw [or8 _ _ (by omega) m[k].toNat_lt, List.take_succ_eq_append_getElem hk, ofBe_snoc]

section
theorem number_bad (g : Nat) (r : Rdr) (w : World) (h : RdrAt w g r) (hb : r.bad ≠ 0) :
    Calls Try.prog 119 #[.pointer (some ⟨g, 0, none⟩)] w fun e w' => e = .returned (.int .u64 0) ∧ w = w' := by
  have Hf := Lib.hid (fine_no g _ w h hb)
  go_enter Try.func119, Try.ntmps119
  go_wp2_with (go_at_call 120; refine Hf.out.mono ?_; rintro e w' ⟨rfl, rfl⟩)
  go_ret
  exact ⟨rfl, rfl⟩
theorem number_end (g : Nat) (w : World) (h : RdrAt w g ⟨[], 0⟩) :
    Calls Try.prog 119 #[.pointer (some ⟨g, 0, none⟩)] w fun e w' => e = .returned (.int .u64 0) ∧ Left w g ⟨[], 10⟩ w' := by
  have Hf := Lib.hid (fine_yes g _ w h)
  have c1 := h.c1
  have Hs := Lib.hid (stop_any g _ w 10 h)
  go_enter Try.func119, Try.ntmps119
  go_wp2_with (first | (go_at_call 120; refine Hf.out.mono ?_; rintro e w' ⟨rfl, rfl⟩) | (go_at_call 121; go_must (refine Hs.out.mono ?_); rintro e w' ⟨rfl, hl⟩))
  go_ret
  exact ⟨rfl, hl⟩
theorem number_big (g : Nat) (c : UInt8) (l : List UInt8) (w : World) (h : RdrAt w g ⟨c :: l, 0⟩) (h8 : 8 < c.toNat) :
    Calls Try.prog 119 #[.pointer (some ⟨g, 0, none⟩)] w fun e w' => e = .returned (.int .u64 0) ∧ Left w g ⟨[], 11⟩ w' := by
  have Hf := Lib.hid (fine_yes g _ w h)
  have c1 := h.c1
  have Hs := Lib.hid (stop_any g _ w 11 h)
  go_enter Try.func119, Try.ntmps119
  go_wp2_with (first | (go_at_call 120; refine Hf.out.mono ?_; rintro e w' ⟨rfl, rfl⟩) | (go_at_call 121; go_must (refine Hs.out.mono ?_); rintro e w' ⟨rfl, hl⟩))
  go_ret
  exact ⟨rfl, hl⟩
theorem number_cut (g : Nat) (c : UInt8) (l : List UInt8) (w : World) (h : RdrAt w g ⟨c :: l, 0⟩) (h8 : c.toNat ≤ 8) (hc : l.length < c.toNat) :
    Calls Try.prog 119 #[.pointer (some ⟨g, 0, none⟩)] w fun e w' => e = .returned (.int .u64 0) ∧ Left w g ⟨[], 10⟩ w' := by
  have Hf := Lib.hid (fine_yes g _ w h)
  have c1 := h.c1
  have Hs := Lib.hid (stop_any g _ w 10 h)
  go_enter Try.func119, Try.ntmps119
  go_wp2_with (first | (go_at_call 120; refine Hf.out.mono ?_; rintro e w' ⟨rfl, rfl⟩) | (go_at_call 121; go_must (refine Hs.out.mono ?_); rintro e w' ⟨rfl, hl⟩))
  go_ret
  exact ⟨rfl, hl⟩
theorem number_zero (g : Nat) (c : UInt8) (l : List UInt8) (w : World) (h : RdrAt w g ⟨c :: 0 :: l, 0⟩) (h8 : c.toNat ≤ 8) (h0 : 0 < c.toNat) (hc : c.toNat ≤ l.length + 1) :
    Calls Try.prog 119 #[.pointer (some ⟨g, 0, none⟩)] w fun e w' => e = .returned (.int .u64 0) ∧ Left w g ⟨[], 11⟩ w' := by
  have Hf := Lib.hid (fine_yes g _ w h)
  have c1 := h.c1
  have Hs := Lib.hid (stop_any g _ w 11 h)
  go_enter Try.func119, Try.ntmps119
  go_wp2_with (first | (go_at_call 120; refine Hf.out.mono ?_; rintro e w' ⟨rfl, rfl⟩) | (go_at_call 121; go_must (refine Hs.out.mono ?_); rintro e w' ⟨rfl, hl⟩))
  go_ret
  exact ⟨rfl, hl⟩
set_option maxRecDepth 100000 in
set_option maxHeartbeats 1000000 in
theorem number_ok0 (g : Nat) (l : List UInt8) (w : World) (h : RdrAt w g ⟨0 :: l, 0⟩) :
    Calls Try.prog 119 #[.pointer (some ⟨g, 0, none⟩)] w fun e w' => e = .returned (.int .u64 0) ∧ Left w g ⟨l, 0⟩ w' := by
  have Hf := Lib.hid (fine_yes g _ w h)
  have c1 := h.c1
  have Ht := Lib.hid (take_any g _ _ 1 w h (by omega) (by simp only [List.length_cons]; omega))
  have kb := fun (s : ByteArray) (W : World) => Lib.run_convert_string_bytes (P := Try.prog) W 9 39 5 s Try.underlying9 Try.underlying39 Try.underlying5
  go_enter Try.func119, Try.ntmps119
  go_wp2_with (first | (go_at_call 120; refine Hf.out.mono ?_; rintro e w' ⟨rfl, rfl⟩) | (go_at_call 123; go_must (refine Ht.out.mono ?_); rintro e w2 ⟨rfl, hl⟩))
  refine wp_loop_rounds 1 ?_
  rw [rounds_succ]
  go_wp2
  go_ret
  exact ⟨rfl, hl.then_ (bytes_below (Below.refl _ _) (Nat.le_refl _) _ _)⟩

set_option maxRecDepth 100000 in
set_option maxHeartbeats 1000000 in
theorem number_okN (g : Nat) (c d : UInt8) (l : List UInt8) (w : World) (h : RdrAt w g ⟨c :: d :: l, 0⟩) (h8 : c.toNat ≤ 8) (h0 : 0 < c.toNat) (hc : c.toNat ≤ l.length + 1) (hd : d.toNat ≠ 0) :
    Calls Try.prog 119 #[.pointer (some ⟨g, 0, none⟩)] w fun e w' => e = .returned (.int .u64 (ofBe ((d :: l).take c.toNat) : Nat)) ∧ Left w g ⟨(d :: l).drop c.toNat, 0⟩ w' := by
  have Hf := Lib.hid (fine_yes g _ w h)
  have c1 := h.c1
  have Ht := take_any g _ _ (1 + (c.toNat : Int)) w h (by omega) (by simp only [List.length_cons]; omega)
  rw [show (1 + (c.toNat : Int)).toNat = c.toNat + 1 by omega, List.take_succ_cons, List.drop_succ_cons] at Ht
  obtain ⟨m, hm⟩ : ∃ m, m = (d :: l).take c.toNat := ⟨_, rfl⟩
  have hml : m.length = c.toNat := by rw [hm, List.length_take, List.length_cons]; omega
  have hm8 : m.length ≤ 8 := by omega
  rw [← hm] at Ht ⊢
  have Ht := Lib.hid Ht
  clear hm hml
  have kb := fun (s : ByteArray) (W : World) => Lib.run_convert_string_bytes (P := Try.prog) W 9 39 5 s Try.underlying9 Try.underlying39 Try.underlying5
  go_enter Try.func119, Try.ntmps119
  go_wp2_with (first | (go_at_call 120; refine Hf.out.mono ?_; rintro e w' ⟨rfl, rfl⟩) | (go_at_call 123; go_must (refine Ht.out.mono ?_); rintro e w2 ⟨rfl, hl⟩))
  have hcell := fun j hj => Lib.bytesWorld_cell w2 5 (str m) j hj
  rw [str_size] at hcell
  simp only [str_data] at hcell
  have Hcell := Lib.hid hcell
  clear hcell
  go_loop [4, 64] (fun v i => ∃ k : Nat, k ≤ m.length ∧ i = .int .i64 k ∧ v = .int .u64 (ofBe (m.take k) : Nat)) (fun _ i => m.length - (intOf i).toNat)
  case atStart => exact ⟨0, Nat.zero_le _, rfl, rfl⟩
  case round =>
    obtain ⟨k, hk, rfl, rfl⟩ := hrel
    by_cases hlt : k < m.length
    · have hc2 := Hcell.out k hlt
      go_wp2
      refine ⟨⟨k + 1, by omega, by go_num, ?_⟩, by simp only [intOf]; omega⟩
      rw [ofBe_step m k hlt hm8]
    · go_wp2
      go_ret
      rw [List.take_of_length_le (by omega)]
      exact ⟨rfl, hl.then_ (bytes_below (Below.refl _ _) (Nat.le_refl _) _ _)⟩
end

/-- Number, whatever the reader holds -/
theorem Number_any (g : Nat) (r : Rdr) (w : World) (h : RdrAt w g r) :
    Calls Try.prog 119 #[.pointer (some ⟨g, 0, none⟩)] w fun e w' => e = .returned (.int .u64 (r.number.1 : Nat)) ∧ Left w g r.number.2 w' := by
  obtain ⟨b, bad⟩ := r
  unfold Rdr.number
  by_cases hb : bad = 0
  · subst hb
    rw [if_pos rfl]
    cases b with
    | nil => exact number_end g w h
    | cons c l =>
      simp only
      by_cases h8 : 8 < c.toNat
      · rw [if_pos h8]; exact number_big g c l w h h8
      · rw [if_neg h8]
        by_cases hc : l.length < c.toNat
        · rw [if_pos hc]; exact number_cut g c l w h (by omega) hc
        · rw [if_neg hc]
          cases l with
          | nil =>
            have h0 : c.toNat = 0 := by simp at hc; omega
            obtain rfl : c = 0 := UInt8.toNat_inj.1 h0
            rw [if_neg (by decide)]
            exact number_ok0 g [] w h
          | cons d l =>
            by_cases h0 : c.toNat = 0
            · obtain rfl : c = 0 := UInt8.toNat_inj.1 h0
              rw [if_neg (by simp)]
              exact number_ok0 g (d :: l) w h
            · by_cases hd : d = 0
              · subst hd
                rw [if_pos ⟨by omega, rfl⟩]
                exact number_zero g c l w h (by omega) (by omega) (by simp at hc; omega)
              · rw [if_neg (by rintro ⟨_, h'⟩; exact hd (by simpa using h'))]
                exact number_okN g c d l w h (by omega) (by omega) (by simp at hc; omega) (fun e => hd (UInt8.toNat_inj.1 e))
  · rw [if_neg hb]
    refine (number_bad g _ w h hb).mono ?_
    rintro e w' ⟨rfl, rfl⟩
    exact ⟨rfl, h, World.grownBy.refl _ _⟩

theorem Left.trans {w : World} {g : Nat} {r r' : Rdr} {w1 w2 : World} (h : Left w g r w1) (k : Left w1 g r' w2) : Left w g r' w2 := ⟨k.1, h.2.trans k.2⟩

set_option maxRecDepth 100000 in
theorem Small_any (g : Nat) (r : Rdr) (most : Int) (w : World) (h : RdrAt w g r) (hm : most < 9223372036854775808) :
    Calls Try.prog 76 #[.pointer (some ⟨g, 0, none⟩), .int .i64 most] w fun e w' => e = .returned (.int .i64 ((r.small most).1 : Nat)) ∧ Left w g (r.small most).2 w' := by
  have Hn := Lib.hid (Number_any g r w h)
  have hlt := r.number_lt
  have hbad := r.number_bad
  unfold Rdr.small
  obtain ⟨⟨v, r'⟩, hv⟩ : ∃ x, x = r.number := ⟨_, rfl⟩
  rw [← hv] at Hn hlt hbad ⊢
  clear hv
  simp only at Hn hlt hbad ⊢
  by_cases hb : r'.bad = 0
  · obtain ⟨b', bad'⟩ := r'
    simp only at hb
    subst hb
    clear hbad
    by_cases hneg : most < 0
    · rw [if_pos ⟨rfl, .inl hneg⟩]
      go_enter Try.func76, Try.ntmps76
      go_wp2_with (first | (go_at_call 119; go_must (refine Hn.out.mono ?_); rintro e w2 ⟨rfl, hl⟩; have Hf := Lib.hid (fine_yes g _ w2 hl.1); have Hs := Lib.hid (stop_any g _ w2 3 hl.1)) | (go_at_call 120; go_must (refine Hf.out.mono ?_); rintro e w3 ⟨rfl, rfl⟩) | (go_at_call 121; go_must (refine Hs.out.mono ?_); rintro e w4 ⟨rfl, hl2⟩))
      go_ret
      exact ⟨rfl, hl.trans hl2⟩
    · by_cases hgt : most < v
      · rw [if_pos ⟨rfl, .inr hgt⟩]
        go_enter Try.func76, Try.ntmps76
        go_wp2_with (first | (go_at_call 119; go_must (refine Hn.out.mono ?_); rintro e w2 ⟨rfl, hl⟩; have Hf := Lib.hid (fine_yes g _ w2 hl.1); have Hs := Lib.hid (stop_any g _ w2 3 hl.1)) | (go_at_call 120; go_must (refine Hf.out.mono ?_); rintro e w3 ⟨rfl, rfl⟩) | (go_at_call 121; go_must (refine Hs.out.mono ?_); rintro e w4 ⟨rfl, hl2⟩))
        go_ret
        exact ⟨rfl, hl.trans hl2⟩
      · rw [if_neg (by rintro ⟨_, h1 | h1⟩ <;> omega)]
        go_enter Try.func76, Try.ntmps76
        go_wp2_with (first | (go_at_call 119; go_must (refine Hn.out.mono ?_); rintro e w2 ⟨rfl, hl⟩; have Hf := Lib.hid (fine_yes g _ w2 hl.1)) | (go_at_call 120; go_must (refine Hf.out.mono ?_); rintro e w3 ⟨rfl, rfl⟩))
        go_ret
        exact ⟨rfl, hl⟩
  · obtain rfl := hbad hb
    rw [if_neg (by rintro ⟨h1, _⟩; exact hb h1)]
    go_enter Try.func76, Try.ntmps76
    go_wp2_with (first | (go_at_call 119; go_must (refine Hn.out.mono ?_); rintro e w2 ⟨rfl, hl⟩; have Hf := Lib.hid (fine_no g _ w2 hl.1 hb)) | (go_at_call 120; go_must (refine Hf.out.mono ?_); rintro e w3 ⟨rfl, rfl⟩))
    go_ret
    exact ⟨rfl, hl⟩

section
theorem Raw_any (g : Nat) (r : Rdr) (many : Int) (w : World) (h : RdrAt w g r) :
    Calls Try.prog 78 #[.pointer (some ⟨g, 0, none⟩), .int .i64 many] w fun e w' => e = .returned (.string (str (r.raw many).1)) ∧ Left w g (r.raw many).2 w' := by
  unfold Rdr.raw
  by_cases hb : r.bad = 0
  · obtain ⟨b, bad⟩ := r
    simp only at hb
    subst hb
    have Hf := Lib.hid (fine_yes g _ w h)
    rw [if_pos rfl]
    by_cases hneg : many < 0
    · rw [if_pos hneg]
      have Hs := Lib.hid (stop_any g _ w 2 h)
      go_enter Try.func78, Try.ntmps78
      go_wp2_with (first | (go_at_call 120; go_must (refine Hf.out.mono ?_); rintro e w3 ⟨rfl, rfl⟩) | (go_at_call 121; go_must (refine Hs.out.mono ?_); rintro e w4 ⟨rfl, hl⟩))
      go_ret
      exact ⟨rfl, hl⟩
    · rw [if_neg hneg]
      have c1 := h.c1
      by_cases hbig : (b.length : Int) < many
      · rw [if_pos hbig]
        have Hs := Lib.hid (stop_any g _ w 10 h)
        go_enter Try.func78, Try.ntmps78
        go_wp2_with (first | (go_at_call 120; go_must (refine Hf.out.mono ?_); rintro e w3 ⟨rfl, rfl⟩) | (go_at_call 121; go_must (refine Hs.out.mono ?_); rintro e w4 ⟨rfl, hl⟩))
        go_ret
        exact ⟨rfl, hl⟩
      · rw [if_neg hbig]
        have Ht := Lib.hid (take_any g _ _ many w h (by omega) (by omega))
        go_enter Try.func78, Try.ntmps78
        go_wp2_with (first | (go_at_call 120; go_must (refine Hf.out.mono ?_); rintro e w3 ⟨rfl, rfl⟩) | (go_at_call 123; go_must (refine Ht.out.mono ?_); rintro e w4 ⟨rfl, hl⟩))
        go_ret
        exact ⟨rfl, hl⟩
  · rw [if_neg hb]
    have Hf := Lib.hid (fine_no g _ w h hb)
    go_enter Try.func78, Try.ntmps78
    go_wp2_with (go_at_call 120; go_must (refine Hf.out.mono ?_); rintro e w3 ⟨rfl, rfl⟩)
    go_ret
    exact ⟨rfl, h, World.grownBy.refl _ _⟩

theorem Bad_any (g : Nat) (r : Rdr) (w : World) (h : RdrAt w g r) :
    Calls Try.prog 77 #[.pointer (some ⟨g, 0, none⟩)] w fun e w' => e = .returned (.int .i64 (r.bad : Nat)) ∧ w = w' := by
  have Hn := Lib.hid (none_any g r w h)
  have c2 := h.c2
  go_enter Try.func77, Try.ntmps77
  go_wp2_with (go_at_call 122; go_must (refine Hn.out.mono ?_); rintro e w2 ⟨rfl, rfl⟩)
  go_ret
  exact ⟨rfl, rfl⟩
theorem End_any (g : Nat) (r : Rdr) (w : World) (h : RdrAt w g r) :
    Calls Try.prog 79 #[.pointer (some ⟨g, 0, none⟩)] w fun e w' => e = .returned (.int .i64 (r.fin : Nat)) ∧ w = w' := by
  have Hd := Lib.hid (Bad_any g r w h)
  unfold Rdr.fin
  by_cases hb : r.bad = 0
  · obtain ⟨b, bad⟩ := r
    simp only at hb
    subst hb
    have Hf := Lib.hid (fine_yes g _ w h)
    have c1 := h.c1
    cases b with
    | nil =>
      rw [if_neg (by simp)]
      go_enter Try.func79, Try.ntmps79
      go_wp2_with (first | (go_at_call 120; go_must (refine Hf.out.mono ?_); rintro e w3 ⟨rfl, rfl⟩) | (go_at_call 77; go_must (refine Hd.out.mono ?_); rintro e w3 ⟨rfl, rfl⟩))
      go_ret
      exact ⟨rfl, rfl⟩
    | cons c l =>
      rw [if_pos ⟨rfl, by simp⟩]
      go_enter Try.func79, Try.ntmps79
      go_wp2_with (first | (go_at_call 120; go_must (refine Hf.out.mono ?_); rintro e w3 ⟨rfl, rfl⟩) | (go_at_call 77; go_must (refine Hd.out.mono ?_); rintro e w3 ⟨rfl, rfl⟩))
      go_ret
      exact ⟨rfl, rfl⟩
  · rw [if_neg (by rintro ⟨h1, _⟩; exact hb h1)]
    have Hf := Lib.hid (fine_no g _ w h hb)
    go_enter Try.func79, Try.ntmps79
    go_wp2_with (first | (go_at_call 120; go_must (refine Hf.out.mono ?_); rintro e w3 ⟨rfl, rfl⟩) | (go_at_call 77; go_must (refine Hd.out.mono ?_); rintro e w3 ⟨rfl, rfl⟩))
    go_ret
    exact ⟨rfl, rfl⟩
end

theorem Read_any (l : List UInt8) (w : World) :
    Calls Try.prog 75 #[.string (str l)] w fun e w' => e = .returned (.pointer (some ⟨w.heap.size, 0, none⟩)) ∧ RdrAt w' w.heap.size ⟨l, 0⟩ ∧ Below w.heap.size w w' := by
  go_enter Try.func75, Try.ntmps75
  go_wp2
  go_ret
  exact ⟨rfl, heap_alloc_new _ _, (Below.refl _ _).alloc (Nat.le_refl _) _⟩
end Go.Proofs.Ytpldkplfdbjidaa.Lay
