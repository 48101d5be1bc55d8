/- An id out of a text, walked. -/
import Derived.Test.YtpldkplfdbjidaaTextW
import Derived.Test.YtpldkplfdbjidaaStoreAll
set_option linter.unusedVariables false
set_option linter.unusedSimpArgs false
namespace Go.Proofs.Ytpldkplfdbjidaa.Ids
open Go.RowKit Go.Proofs.Ytpldkplfdbjidaa.Wd Go.Proofs.Ytpldkplfdbjidaa.Use Go.Proofs.Ytpldkplfdbjidaa.Lay

/-- what is told so far, and naught behind -/
def part (s : List UInt8) (k : Nat) : List UInt8 := pTo s k ++ List.replicate (32 - k) 0
theorem part_len (s : List UInt8) (k : Nat) (h : k ≤ 32) : (part s k).length = 32 := by rw [part, List.length_append, pTo_len, List.length_replicate]; omega
theorem part_set (s : List UInt8) (k : Nat) (h : k < 32) : (bs (part s k)).toArray.setIfInBounds k (.int .u8 ((vAt s k).toNat : Int)) = (bs (part s (k + 1))).toArray := by
  rw [List.setIfInBounds_toArray]
  congr 1
  have e : bs (part s (k + 1)) = bs ((part s k).set k (vAt s k)) := by
    congr 1
    have h1 : 32 - k = (32 - (k + 1)) + 1 := by omega
    rw [part, part, h1, List.replicate_succ, pTo, List.set_append_right _ _ (by rw [pTo_len]; exact Nat.le_refl _), pTo_len, Nat.sub_self, List.set_cons_zero, List.append_assoc]; rfl
  rw [e, bs, bs, List.map_set]
structure PS (s : List UInt8) (w wr : World) (k : Nat) : Prop where
  b : Below w.heap.size w wr
  z : wr.heap[w.heap.size]? = some (.cells (bs zero32).toArray 23 (0, 0))
  o : wr.heap[w.heap.size + 1]? = some (.cells (bs (part s k)).toArray 23 (0, 0))
theorem PS.set {s : List UInt8} {w wr : World} {k : Nat} (h : PS s w wr k) (hk : k < 32) : PS s w (wr.setCell ⟨w.heap.size + 1, k, none⟩ (.int .u8 ((vAt s k).toNat : Int))) (k + 1) :=
  ⟨h.b.setCell (by show w.heap.size ≤ w.heap.size + 1; omega) _, blk_far h.z (by show w.heap.size ≠ w.heap.size + 1; omega) _, by rw [← part_set s k hk]; exact blk_set h.o k _⟩
set_option maxRecDepth 100000 in
set_option maxHeartbeats 8000000 in
theorem Parse_any (s : List UInt8) (hlen : s.length ≤ 1000000) (w : World) :
    Calls Try.prog 14 #[.string (str s)] w fun r w' => r = .returned (.tuple #[.agg (bs (parse s).1).toArray, .int .i64 ((parse s).2 : Int)]) ∧ Below w.heap.size w w' := by
  have hz1 := blk_alloc (heap_alloc_new w (.cells #[.int .u8 0, .int .u8 0, .int .u8 0, .int .u8 0, .int .u8 0, .int .u8 0, .int .u8 0, .int .u8 0, .int .u8 0, .int .u8 0, .int .u8 0, .int .u8 0, .int .u8 0, .int .u8 0, .int .u8 0, .int .u8 0, .int .u8 0, .int .u8 0, .int .u8 0, .int .u8 0, .int .u8 0, .int .u8 0, .int .u8 0, .int .u8 0, .int .u8 0, .int .u8 0, .int .u8 0, .int .u8 0, .int .u8 0, .int .u8 0, .int .u8 0, .int .u8 0] 23)) (.cells #[.int .u8 0, .int .u8 0, .int .u8 0, .int .u8 0, .int .u8 0, .int .u8 0, .int .u8 0, .int .u8 0, .int .u8 0, .int .u8 0, .int .u8 0, .int .u8 0, .int .u8 0, .int .u8 0, .int .u8 0, .int .u8 0, .int .u8 0, .int .u8 0, .int .u8 0, .int .u8 0, .int .u8 0, .int .u8 0, .int .u8 0, .int .u8 0, .int .u8 0, .int .u8 0, .int .u8 0, .int .u8 0, .int .u8 0, .int .u8 0, .int .u8 0, .int .u8 0] 23)
  have hz2 := alloc_at w (.cells #[.int .u8 0, .int .u8 0, .int .u8 0, .int .u8 0, .int .u8 0, .int .u8 0, .int .u8 0, .int .u8 0, .int .u8 0, .int .u8 0, .int .u8 0, .int .u8 0, .int .u8 0, .int .u8 0, .int .u8 0, .int .u8 0, .int .u8 0, .int .u8 0, .int .u8 0, .int .u8 0, .int .u8 0, .int .u8 0, .int .u8 0, .int .u8 0, .int .u8 0, .int .u8 0, .int .u8 0, .int .u8 0, .int .u8 0, .int .u8 0, .int .u8 0, .int .u8 0] 23) (.cells #[.int .u8 0, .int .u8 0, .int .u8 0, .int .u8 0, .int .u8 0, .int .u8 0, .int .u8 0, .int .u8 0, .int .u8 0, .int .u8 0, .int .u8 0, .int .u8 0, .int .u8 0, .int .u8 0, .int .u8 0, .int .u8 0, .int .u8 0, .int .u8 0, .int .u8 0, .int .u8 0, .int .u8 0, .int .u8 0, .int .u8 0, .int .u8 0, .int .u8 0, .int .u8 0, .int .u8 0, .int .u8 0, .int .u8 0, .int .u8 0, .int .u8 0, .int .u8 0] 23)
  have hb0 := below_two w (.cells #[.int .u8 0, .int .u8 0, .int .u8 0, .int .u8 0, .int .u8 0, .int .u8 0, .int .u8 0, .int .u8 0, .int .u8 0, .int .u8 0, .int .u8 0, .int .u8 0, .int .u8 0, .int .u8 0, .int .u8 0, .int .u8 0, .int .u8 0, .int .u8 0, .int .u8 0, .int .u8 0, .int .u8 0, .int .u8 0, .int .u8 0, .int .u8 0, .int .u8 0, .int .u8 0, .int .u8 0, .int .u8 0, .int .u8 0, .int .u8 0, .int .u8 0, .int .u8 0] 23) (.cells #[.int .u8 0, .int .u8 0, .int .u8 0, .int .u8 0, .int .u8 0, .int .u8 0, .int .u8 0, .int .u8 0, .int .u8 0, .int .u8 0, .int .u8 0, .int .u8 0, .int .u8 0, .int .u8 0, .int .u8 0, .int .u8 0, .int .u8 0, .int .u8 0, .int .u8 0, .int .u8 0, .int .u8 0, .int .u8 0, .int .u8 0, .int .u8 0, .int .u8 0, .int .u8 0, .int .u8 0, .int .u8 0, .int .u8 0, .int .u8 0, .int .u8 0, .int .u8 0] 23)
  have HP0 := Lib.hid (show PS s w ((w.alloc (.cells #[.int .u8 0, .int .u8 0, .int .u8 0, .int .u8 0, .int .u8 0, .int .u8 0, .int .u8 0, .int .u8 0, .int .u8 0, .int .u8 0, .int .u8 0, .int .u8 0, .int .u8 0, .int .u8 0, .int .u8 0, .int .u8 0, .int .u8 0, .int .u8 0, .int .u8 0, .int .u8 0, .int .u8 0, .int .u8 0, .int .u8 0, .int .u8 0, .int .u8 0, .int .u8 0, .int .u8 0, .int .u8 0, .int .u8 0, .int .u8 0, .int .u8 0, .int .u8 0] 23)).alloc (.cells #[.int .u8 0, .int .u8 0, .int .u8 0, .int .u8 0, .int .u8 0, .int .u8 0, .int .u8 0, .int .u8 0, .int .u8 0, .int .u8 0, .int .u8 0, .int .u8 0, .int .u8 0, .int .u8 0, .int .u8 0, .int .u8 0, .int .u8 0, .int .u8 0, .int .u8 0, .int .u8 0, .int .u8 0, .int .u8 0, .int .u8 0, .int .u8 0, .int .u8 0, .int .u8 0, .int .u8 0, .int .u8 0, .int .u8 0, .int .u8 0, .int .u8 0, .int .u8 0] 23)) 0 from ⟨hb0, hz1, hz2⟩)
  have hs0 : (w.alloc (.cells #[.int .u8 0, .int .u8 0, .int .u8 0, .int .u8 0, .int .u8 0, .int .u8 0, .int .u8 0, .int .u8 0, .int .u8 0, .int .u8 0, .int .u8 0, .int .u8 0, .int .u8 0, .int .u8 0, .int .u8 0, .int .u8 0, .int .u8 0, .int .u8 0, .int .u8 0, .int .u8 0, .int .u8 0, .int .u8 0, .int .u8 0, .int .u8 0, .int .u8 0, .int .u8 0, .int .u8 0, .int .u8 0, .int .u8 0, .int .u8 0, .int .u8 0, .int .u8 0] 23)).heap.size = w.heap.size + 1 := alloc_size _ _
  obtain ⟨W0, hW0⟩ : ∃ W, W = (w.alloc (.cells #[.int .u8 0, .int .u8 0, .int .u8 0, .int .u8 0, .int .u8 0, .int .u8 0, .int .u8 0, .int .u8 0, .int .u8 0, .int .u8 0, .int .u8 0, .int .u8 0, .int .u8 0, .int .u8 0, .int .u8 0, .int .u8 0, .int .u8 0, .int .u8 0, .int .u8 0, .int .u8 0, .int .u8 0, .int .u8 0, .int .u8 0, .int .u8 0, .int .u8 0, .int .u8 0, .int .u8 0, .int .u8 0, .int .u8 0, .int .u8 0, .int .u8 0, .int .u8 0] 23)).alloc (.cells #[.int .u8 0, .int .u8 0, .int .u8 0, .int .u8 0, .int .u8 0, .int .u8 0, .int .u8 0, .int .u8 0, .int .u8 0, .int .u8 0, .int .u8 0, .int .u8 0, .int .u8 0, .int .u8 0, .int .u8 0, .int .u8 0, .int .u8 0, .int .u8 0, .int .u8 0, .int .u8 0, .int .u8 0, .int .u8 0, .int .u8 0, .int .u8 0, .int .u8 0, .int .u8 0, .int .u8 0, .int .u8 0, .int .u8 0, .int .u8 0, .int .u8 0, .int .u8 0] 23) := ⟨_, rfl⟩
  rw [← hW0] at HP0
  have HW0 := Lib.hid hW0
  have hsz : (str s).size = s.length := str_size s
  have Hget := Lib.hid (show ∀ i, (h : i < (str s).size) → (str s)[i] = s.getD i 0 from fun i h => by rw [str_getElem s i h, List.getD_eq_getElem?_getD, List.getElem?_eq_getElem (by rw [str_size] at h; exact h)]; rfl)
  have Hdg := Lib.hid digit_any
  clear hz1 hz2 hb0 hW0
  have hI : (Try.prog.info? 23).map (·.size) = some 32 := rfl
  by_cases hl : s.length = 64
  rotate_left
  · have hp : parse s = (zero32, 11) := if_neg (fun h => hl h.1)
    rw [hp]
    have hd : ((s.length : Int) != 64) = true := by rw [bne_iff_ne]; omega
    go_enter Try.func14, Try.ntmps14
    go_upto_region 2 with fail
    rw [← HW0.out]
    go_wp2_with (refine Sha.wpList_store_sum rfl _ _ rfl w.heap.size zero32 zero32 rfl rfl rfl rfl HP0.out.z ?_; intro w1 h1 hg1)
    refine bodyPost_ret (v := .tuple #[.agg (bs zero32).toArray, .int .i64 11]) (Use.results_cell_tmp rfl _ _ w.heap.size (bs zero32) _ _ rfl rfl (range_all h1) Try.underlying23 rfl hI) rfl ?_
    exact ⟨rfl, HP0.out.b.grown hg1 HP0.out.b.size (fun k hk => by injection hk with hk; omega)⟩
  have hd : ((s.length : Int) != 64) = false := by rw [bne_eq_false_iff_eq]; omega
  rw [hl] at hsz
  go_enter Try.func14, Try.ntmps14
  go_upto_region 2 with fail
  rw [← HW0.out]
  go_wp2_with fail
  go_loopw [14] (fun i_ wr => ∃ k : Nat, k ≤ 32 ∧ i_ = .int .i64 (k : Int) ∧ Hid (okTo s k = true) ∧ Hid (PS s w wr k)) (fun i_ _ => 32 - (intOf i_).toNat)
  case atStart => exact ⟨0, by omega, rfl, Lib.hid rfl, HP0⟩
  case round =>
    obtain ⟨k, hk, rfl, Hok, HP⟩ := hrel
    by_cases hk32 : k < 32
    rotate_left
    · obtain rfl : k = 32 := by omega
      have Hp := Lib.hid (show parse s = (pTo s 32, 0) from if_pos ⟨hl, Hok.out⟩)
      have hpt : part s 32 = pTo s 32 := by simp [part]
      have h4 := HP.out.o
      rw [hpt] at h4
      have hpl := pTo_len s 32
      have Hr4 := Lib.hid (show wr.rangeAt (w.heap.size + 1) 0 (bs (pTo s 32)) from range_all h4)
      have Hi4 := Lib.hid (show (Try.prog.info? 23).map (·.size) = some (bs (pTo s 32)).length by rw [bs_length, hpl]; rfl)
      clear h4 hpt
      go_wp2_with (first
        | (refine wpList_load_mid rfl 23 _ rfl (w.heap.size + 1) 0 rfl (bs (pTo s 32)) _ Hr4.out Try.underlying23 rfl Hi4.out ?_)
        | (refine Sha.wpList_store_sum rfl _ _ rfl w.heap.size (pTo s 32) zero32 hpl rfl rfl rfl HP.out.z ?_; intro w1 h1 hg1))
      refine bodyPost_ret (v := .tuple #[.agg (bs (pTo s 32)).toArray, .int .i64 0]) (Use.results_cell_tmp rfl _ _ w.heap.size (bs (pTo s 32)) _ _ rfl rfl (range_all h1) Try.underlying23 rfl Hi4.out) rfl ?_
      exact ⟨by rw [Hp.out]; rfl, HP.out.b.grown hg1 HP.out.b.size (fun k hk => by injection hk with hk; omega)⟩
    have hd1 : decide ((k : Int) < 32) = true := decide_eq_true (by omega)
    obtain ⟨i1, hi1⟩ : ∃ i, i = 2 * k := ⟨_, rfl⟩
    obtain ⟨i2, hi2⟩ : ∃ i, i = 2 * k + 1 := ⟨_, rfl⟩
    have e1 : IntKind.i64.wrap (2 * (k : Int)) = (i1 : Int) := by rw [IntKind.wrap_i64]; omega
    have e2 : IntKind.i64.wrap ((i1 : Int) + 1) = (i2 : Int) := by rw [IntKind.wrap_i64]; omega
    have l1 : i1 < (str s).size := by rw [hsz]; omega
    have l2 : i2 < (str s).size := by rw [hsz]; omega
    have hx1 : ∀ W, (Instr.index 9 (.string (str s)) (.int .i64 (i1 : Int))).run Try.prog W = .ok (.int .u8 ((s.getD (2 * k) 0).toNat : Int)) W := fun W => by
      rw [run_index_string W 9 (str s) .i64 (i1 : Int) Try.underlying9, dif_pos (by omega)]
      have h := Hget.out i1 l1
      subst hi1
      exact congrArg (fun b : UInt8 => Result.ok (Value.int .u8 (b.toNat : Int)) W) h
    have hx2 : ∀ W, (Instr.index 9 (.string (str s)) (.int .i64 (i2 : Int))).run Try.prog W = .ok (.int .u8 ((s.getD (2 * k + 1) 0).toNat : Int)) W := fun W => by
      rw [run_index_string W 9 (str s) .i64 (i2 : Int) Try.underlying9, dif_pos (by omega)]
      have h := Hget.out i2 l2
      subst hi2
      exact congrArg (fun b : UInt8 => Result.ok (Value.int .u8 (b.toNat : Int)) W) h
    have hok2 : okTo s (k + 1) = ((dg (s.getD (2 * k) 0)).2 && (dg (s.getD (2 * k + 1) 0)).2) := by rw [okTo, Hok.out, Bool.true_and]; rfl
    have hv : vAt s k = (dg (s.getD (2 * k) 0)).1 * 16 + (dg (s.getD (2 * k + 1) 0)).1 := rfl
    have hd1' := fun W => digit_any (s.getD (2 * k) 0) W
    have hd2' := fun W => digit_any (s.getD (2 * k + 1) 0) W
    have hlt1 : (dg (s.getD (2 * k) 0)).2 = true → (dg (s.getD (2 * k) 0)).1.toNat < 16 := fun h => (h2_dg _ h).2
    have hlt2 : (dg (s.getD (2 * k + 1) 0)).2 = true → (dg (s.getD (2 * k + 1) 0)).1.toNat < 16 := fun h => (h2_dg _ h).2
    have Hset := Lib.hid (HP.out.set hk32)
    generalize dg (s.getD (2 * k) 0) = p1 at hok2 hv hd1' hlt1
    generalize dg (s.getD (2 * k + 1) 0) = p2 at hok2 hv hd2' hlt2
    generalize (s.getD (2 * k) 0).toNat = c1 at hx1 hd1'
    generalize (s.getD (2 * k + 1) 0).toNat = c2 at hx2 hd2'
    obtain ⟨x1, b1⟩ := p1
    obtain ⟨x2, b2⟩ := p2
    simp only at hok2 hv hd1' hd2' hlt1 hlt2
    have hcl : wr.cell? ⟨w.heap.size + 1, k, none⟩ = some (.int .u8 (((part s k).getD k 0).toNat : Int)) := by
      rw [blk_cell HP.out.o]; simp only [List.getElem?_toArray]; exact bs_getElem? _ k (by rw [part_len s k hk]; exact hk32)
    have hfz := blk_frozen HP.out.o k
    have hki : (k : Int) < 32 := by omega
    have hk0 : (0 : Int) ≤ (k : Int) := by omega
    have HPz := Lib.hid HP.out.z
    have HPb := Lib.hid HP.out.b
    clear hi1 hi2 l1 l2 HP
    cases hb : (b1 && b2) with
    | true =>
      obtain ⟨rfl, rfl⟩ : b1 = true ∧ b2 = true := by simpa using hb
      have Hok3 := Lib.hid (show okTo s (k + 1) = true by rw [hok2]; rfl)
      have y1 := hlt1 (by trivial)
      have y2 := hlt2 (by trivial)
      have hvn : (vAt s k).toNat = x1.toNat * 16 + x2.toNat := by
        rw [hv, UInt8.toNat_add, UInt8.toNat_mul]
        show (x1.toNat * 16 % 256 + x2.toNat) % 256 = _
        omega
      rw [hvn] at Hset
      clear hok2 hv hlt1 hlt2 hb hvn
      generalize x1.toNat = n1 at *
      generalize x2.toNat = n2 at *
      obtain ⟨m1, hm1⟩ : ∃ m, m = n1 * 16 := ⟨_, rfl⟩
      obtain ⟨m2, hm2⟩ : ∃ m, m = n1 * 16 + n2 := ⟨_, rfl⟩
      have w1 : IntKind.u8.wrap ((n1 : Int) * 16) = (m1 : Int) := by rw [IntKind.wrap_u8]; omega
      have w2 : IntKind.u8.wrap ((m1 : Int) + (n2 : Int)) = (m2 : Int) := by rw [IntKind.wrap_u8]; omega
      rw [← hm2] at Hset
      have Hd1 := Lib.hid hd1'
      have Hd2 := Lib.hid hd2'
      clear hm1 hm2 hd1' hd2'
      go_upto_region 8 with (first
        | (simp only [hx1])
        | (go_at_call 64; refine (Hd1.out _).mono ?_; rintro r w' ⟨rfl, rfl⟩))
      clear hx1
      go_upto_if 39 with (first
        | (simp only [hx2])
        | (go_at_call 64; refine (Hd2.out _).mono ?_; rintro r w' ⟨rfl, rfl⟩))
      go_wp2_with fail
      exact ⟨⟨k + 1, by omega, by go_num, Hok3, Lib.hid Hset.out⟩, by simp only [intOf]; omega⟩
    | false =>
      have Hp := Lib.hid (show parse s = (zero32, 11) from if_neg (fun h => by
        have h1 := okTo_false (m := 32) (hok2.trans hb) (by omega)
        rw [h1] at h; cases h.2))
      have Hd1 := Lib.hid hd1'
      have Hd2 := Lib.hid hd2'
      clear hok2 hv hlt1 hlt2 hd1' hd2' Hset hcl hfz
      cases b1
      · go_upto_region 8 with (first
          | (simp only [hx1])
          | (go_at_call 64; refine (Hd1.out _).mono ?_; rintro r w' ⟨rfl, rfl⟩))
        clear hx1
        go_upto_if 39 with (first
          | (simp only [hx2])
          | (go_at_call 64; refine (Hd2.out _).mono ?_; rintro r w' ⟨rfl, rfl⟩))
        go_wp2_with (refine Sha.wpList_store_sum rfl _ _ rfl w.heap.size zero32 zero32 rfl rfl rfl rfl HPz.out ?_; intro w1 h1 hg1)
        refine bodyPost_ret (v := .tuple #[.agg (bs zero32).toArray, .int .i64 11]) (Use.results_cell_tmp rfl _ _ w.heap.size (bs zero32) _ _ rfl rfl (range_all h1) Try.underlying23 rfl hI) rfl ?_
        exact ⟨by rw [Hp.out]; rfl, HPb.out.grown hg1 HPb.out.size (fun k hk => by injection hk with hk; omega)⟩
      · obtain rfl : b2 = false := by simpa using hb
        go_upto_region 8 with (first
          | (simp only [hx1])
          | (go_at_call 64; refine (Hd1.out _).mono ?_; rintro r w' ⟨rfl, rfl⟩))
        clear hx1
        go_upto_if 39 with (first
          | (simp only [hx2])
          | (go_at_call 64; refine (Hd2.out _).mono ?_; rintro r w' ⟨rfl, rfl⟩))
        go_wp2_with (refine Sha.wpList_store_sum rfl _ _ rfl w.heap.size zero32 zero32 rfl rfl rfl rfl HPz.out ?_; intro w1 h1 hg1)
        refine bodyPost_ret (v := .tuple #[.agg (bs zero32).toArray, .int .i64 11]) (Use.results_cell_tmp rfl _ _ w.heap.size (bs zero32) _ _ rfl rfl (range_all h1) Try.underlying23 rfl hI) rfl ?_
        exact ⟨by rw [Hp.out]; rfl, HPb.out.grown hg1 HPb.out.size (fun k hk => by injection hk with hk; omega)⟩
end Go.Proofs.Ytpldkplfdbjidaa.Ids
