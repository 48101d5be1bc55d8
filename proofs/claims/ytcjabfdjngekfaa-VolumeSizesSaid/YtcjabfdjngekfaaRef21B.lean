/- ref21: bytes of a sum, and a volume's bytes. -/
import Derived.Test.YtcjabfdjngekfaaRef21A
import Derived.Test.YtcjabfdjngekfaaOrdT
set_option linter.unusedVariables false
set_option linter.unusedSimpArgs false
namespace Go.Proofs.Ytcjabfdjngekfaa.Vol
open Go.RowKit Go.Proofs.Ytcjabfdjngekfaa.Wd

theorem below_go {w w1 w2 : World} (hb : Below w1.heap.size w1 w2) (h : Below w.heap.size w w1) : Below w.heap.size w w2 := h.trans (hb.mono h.size)
theorem take_succ_gb (l : List UInt8) (k : Nat) (h : k < l.length) : l.take (k + 1) = l.take k ++ [Sha.gb l k] := by
  rw [List.take_succ_eq_append_getElem h, Sha.gb, List.getD_eq_getElem?_getD, List.getElem?_eq_getElem h]; rfl
set_option maxRecDepth 100000 in
set_option maxHeartbeats 1000000 in
theorem bytes21_any (l : List UInt8) (hl : l.length = 32) (w : World) : Calls Try.prog 112 #[.agg (bs l).toArray] w fun e w' => e = .returned (.string (str l)) ∧ Below w.heap.size w w' := by
  obtain ⟨L, hL⟩ : ∃ L, L = bs l := ⟨_, rfl⟩
  have hc : ∀ (W : World) (k : Nat), W.heap[w.heap.size]? = some (.cells L.toArray 43 (0, 0)) → k < 32 → W.cell? ⟨w.heap.size, k, none⟩ = some (.int .u8 ((Sha.gb l k).toNat : Int)) := by
    intro W k hg hk; rw [hL] at hg; exact Sha.blk_byte hg k (by omega)
  have Hc := Lib.hid hc
  have Hl := Lib.hid hl
  rw [← hL]
  clear hc hL hl
  have ks := fun (y : Int) (W : World) => conv_lit1 (P := Try.prog) (dst := 9) Try.underlying23 Try.underlying5 Try.underlying9 y W
  go_enter Try.func112, Try.ntmps112
  go_wp2_with fail
  go_loopw [3, 4] (fun s i wr => ∃ k : Nat, k ≤ 32 ∧ i = .int .i64 k ∧ s = .string (str (l.take k)) ∧ wr.heap[w.heap.size]? = some (.cells L.toArray 43 (0, 0)) ∧ Below w.heap.size w wr) (fun _ i _ => 32 - (intOf i).toNat)
  case atStart => exact ⟨0, Nat.zero_le _, rfl, rfl, heap_alloc_new _ _, (Below.refl _ _).alloc (Nat.le_refl _) _⟩
  case round =>
    obtain ⟨k, hk, rfl, rfl, hg, hB⟩ := hrel
    by_cases hlt : k < 32
    · have hck := Hc.out wr k hg hlt
      obtain ⟨x, hx⟩ : ∃ x, x = Sha.gb l k := ⟨_, rfl⟩
      rw [← hx] at hck
      have hx256 := x.toNat_lt
      have hst : str (l.take (k + 1)) = str (l.take k) ++ str [x] := by
        rw [take_succ_gb l k (by rw [Hl.out]; exact hlt), str_append, ← hx]
      have htl : (l.take k).length ≤ 32 := by rw [List.length_take]; omega
      have Hst := Lib.hid hst
      have Hx := Lib.hid hx
      have HG := Lib.hid hg
      clear hst hx hg
      go_wp2_with fail
      refine ⟨⟨k + 1, by omega, by go_num, ?_, blk_alloc HG.out _, hB.alloc hB.size _⟩, by simp only [intOf]; omega⟩
      rw [Hst.out]
    · obtain rfl : k = 32 := by omega
      go_wp2_with fail
      go_ret
      exact ⟨by rw [List.take_of_length_le (by rw [Hl.out]; exact Nat.le_refl _)]; rfl, hB⟩
theorem ref_range {W : World} {g : Nat} {v : V} {t : TypeId} (hg : W.heap[g]? = some (.cells (rcells v).toArray t (0, 0))) : W.rangeAt g 0 (bs v.bd) := by
  intro j u hu
  rw [Nat.zero_add, blk_cell hg j]
  simp only [List.getElem?_toArray]
  rw [rcells, List.getElem?_append_left (List.getElem?_eq_some_iff.1 hu).1]
  exact hu
theorem be4 (x : Nat) (h : x < 4294967296) : Lay.be 4 x = [b8 ((x : Int) / 16777216), b8 ((x : Int) / 65536), b8 ((x : Int) / 256), b8 x] := by
  have e : ∀ a b : Nat, UInt8.ofNat a = UInt8.ofNat b ↔ a % 256 = b % 256 := by
    intro a b; rw [← UInt8.toNat_inj, UInt8.toNat_ofNat', UInt8.toNat_ofNat']
  simp only [Lay.be, List.nil_append, List.cons_append, b8, List.cons.injEq, and_true, e]
  refine ⟨?_, ?_, ?_, ?_⟩ <;> omega
theorem b8_of (n : Int) (h : 0 ≤ n) : UInt8.ofNat (IntKind.u8.wrap n).toNat = b8 n := by
  rw [IntKind.wrap_u8, b8]; congr 1; omega
/-- seven bytes that are laid, as a string -/
theorem conv_rd {W : World} {v : Value} {n : Nat} (l : List UInt8) (h : Rd W 1 v n (bs l)) : (convert 23 9 v).run Try.prog W = .ok (.string (str l)) W := Rd.string (P := Try.prog) Try.underlying23 Try.underlying5 Try.underlying9 h
set_option maxRecDepth 100000 in
set_option maxHeartbeats 4000000 in
theorem rput_any (v : V) (w : World) (hv : RIn v) (hr : v.right = true) : Calls Try.prog 49 #[.agg (rcells v).toArray] w fun e w' => e = .returned (.string (str v.put)) ∧ Below w.heap.size w w' := by
  have hok := v.ok.1 hr
  have hble := body_le v hv.bd hok
  obtain ⟨W0, hW0⟩ : ∃ W, W = w.alloc (.cells (rcells v).toArray 71) := ⟨_, rfl⟩
  have hg0 : W0.heap[w.heap.size]? = some (.cells (rcells v).toArray 71 (0, 0)) := by rw [hW0]; exact heap_alloc_new _ _
  have hB0 : Below w.heap.size w W0 := by rw [hW0]; exact (Below.refl _ _).alloc (Nat.le_refl _) _
  have hS : ∀ W, Below W0.heap.size W0 W → W.rangeAt w.heap.size 0 (bs v.bd) ∧ W.cell? ⟨w.heap.size, 32, none⟩ = some (.int .i64 v.ix) ∧ W.cell? ⟨w.heap.size, 33, none⟩ = some (.int .i64 v.dt) ∧ W.cell? ⟨w.heap.size, 34, none⟩ = some (.int .i64 v.mr) ∧ W.cell? ⟨w.heap.size, 35, none⟩ = some (.int .i64 v.lg) ∧ W.cell? ⟨w.heap.size, 36, none⟩ = some (.string (str v.pc)) := by
    intro W hW
    have hg := blk_below hg0 hW
    exact ⟨ref_range hg, ref_cells hv.bd hg⟩
  have Hbd := Lib.hid hv.bd
  have hbod : ∀ b, b = v.body → v.put = b ++ Sha.sha b := by rintro b rfl; rfl
  have hby : ∀ W, Calls Try.prog 112 #[.agg (bs v.bd).toArray] W fun e w' => e = .returned (.string (str v.bd)) ∧ Below W.heap.size W w' := fun W => bytes21_any v.bd hv.bd W
  have Hi : Hid ((Try.prog.info? 43).map (·.size) = some (bs v.bd).length) := by show _ = _; rw [bs_length, hv.bd]; kernel_rfl
  obtain ⟨L, hL⟩ : ∃ L, L = rcells v := ⟨_, rfl⟩
  rw [← hL] at hW0 ⊢
  clear hL hg0 hr hv
  obtain ⟨bd, ix, dt, mr, lg, pc⟩ := v
  obtain ⟨d1, d2, m1, m2, i1, i2, l1, l2, -⟩ := hok
  simp only at hS hble hby Hi Hbd d1 d2 m1 m2 i1 i2 l1 l2
  obtain ⟨x, rfl⟩ : ∃ x : Nat, lg = (x : Int) := ⟨lg.toNat, by omega⟩
  have hbody : V.body ⟨bd, ix, dt, mr, (x : Int), pc⟩ = magic ++ bd ++ [b8 ix, b8 dt, b8 mr, b8 ((x : Int) / 16777216), b8 ((x : Int) / 65536), b8 ((x : Int) / 256), b8 x] ++ pc := by
    rw [V.body, V.head, Int.toNat_natCast, be4 x (by omega)]; simp
  obtain ⟨X7, hX7⟩ : ∃ X, X = Obj.cells #[.int .u8 (IntKind.u8.wrap ix), .int .u8 (IntKind.u8.wrap dt), .int .u8 (IntKind.u8.wrap mr), .int .u8 ((x : Int) / 16777216), .int .u8 ((x : Int) / 65536), .int .u8 (IntKind.u8.wrap ((x : Int) / 256)), .int .u8 (IntKind.u8.wrap x)] 5 (0, 0) := ⟨_, rfl⟩
  have hb7 : ∀ W : World, Rd (W.alloc X7) 1 (.slice (some ⟨W.heap.size, 0, none⟩) 7 7) 7 (bs [b8 ix, b8 dt, b8 mr, b8 ((x : Int) / 16777216), b8 ((x : Int) / 65536), b8 ((x : Int) / 256), b8 x]) := by
    intro W
    have e : bs [b8 ix, b8 dt, b8 mr, b8 ((x : Int) / 16777216), b8 ((x : Int) / 65536), b8 ((x : Int) / 256), b8 x] = [.int .u8 (IntKind.u8.wrap ix), .int .u8 (IntKind.u8.wrap dt), .int .u8 (IntKind.u8.wrap mr), .int .u8 ((x : Int) / 16777216), .int .u8 ((x : Int) / 65536), .int .u8 (IntKind.u8.wrap ((x : Int) / 256)), .int .u8 (IntKind.u8.wrap x)] := by
      have e8 : ∀ n : Int, 0 ≤ n → ((b8 n).toNat : Int) = IntKind.u8.wrap n := by intro n hn; rw [b8, UInt8.toNat_ofNat', IntKind.wrap_u8]; omega
      simp only [bs, List.map_cons, List.map_nil]
      rw [e8 ix i1, e8 dt (by omega), e8 mr m1, b8_id _ (by omega) (by omega), b8_id _ (by omega) (by omega), e8 _ (by omega), e8 _ (by omega)]
    rw [e, hX7]
    exact Rd.lit W 1 7 _ 5 rfl (by simp [maxLen])
  have hbd2 : bd.length ≤ 32 := by rw [Hbd.out]; exact Nat.le_refl _
  have hpc2 : pc.length ≤ 65536 := hble.2
  have hn1 : ¬ 9223372036854775807 < 4 + bd.length := by omega
  have hn2 : ¬ 9223372036854775807 < 4 + bd.length + 7 := by omega
  have hn3 : ¬ 9223372036854775807 < 4 + bd.length + 7 + pc.length := by omega
  have h256 : (x : Int) / 256 < 65536 := by omega
  have hq1 : IntKind.u8.wrap ((x : Int) / 16777216) = (x : Int) / 16777216 := by rw [IntKind.wrap_u8]; omega
  have hq2 : IntKind.u8.wrap ((x : Int) / 65536) = (x : Int) / 65536 := by rw [IntKind.wrap_u8]; omega
  have HX7 := Lib.hid hX7
  have HW0 := Lib.hid hW0
  have HS := Lib.hid hS
  have Hb7 := Lib.hid hb7
  have Hbody := Lib.hid hbody
  have Hbod := Lib.hid (hbod _ hbody.symm)
  have Hby := Lib.hid hby
  clear hX7 hW0 hS hb7 hbod hbody hby
  obtain ⟨bod, hbo⟩ : ∃ b, b = magic ++ bd ++ [b8 ix, b8 dt, b8 mr, b8 ((x : Int) / 16777216), b8 ((x : Int) / 65536), b8 ((x : Int) / 256), b8 x] ++ pc := ⟨_, rfl⟩
  have hstr : ({ data := #[83, 66, 86, 49] } : ByteArray) ++ str bd ++ str [b8 ix, b8 dt, b8 mr, b8 ((x : Int) / 16777216), b8 ((x : Int) / 65536), b8 ((x : Int) / 256), b8 x] ++ str pc = str bod := by
    rw [hbo, show ({ data := #[83, 66, 86, 49] } : ByteArray) = str magic from rfl, str_append, str_append, str_append]
  have hbl : bod.length ≤ 1000000 := by rw [hbo, ← Hbody.out]; omega
  have hof : ∀ W, Calls Try.prog 113 #[.string (({ data := #[83, 66, 86, 49] } : ByteArray) ++ str bd ++ str [b8 ix, b8 dt, b8 mr, b8 ((x : Int) / 16777216), b8 ((x : Int) / 65536), b8 ((x : Int) / 256), b8 x] ++ str pc)] W fun e w' => e = .returned (.agg (bs (Sha.sha bod)).toArray) ∧ Below W.heap.size W w' := by
    intro W; rw [hstr]; exact Sha.rof_any bod hbl W
  obtain ⟨sm, hsm⟩ : ∃ s, s = Sha.sha bod := ⟨_, rfl⟩
  have hsl : sm.length = 32 := by rw [hsm, Sha.sha_length]
  have hby2 : ∀ W, Calls Try.prog 112 #[.agg (bs sm).toArray] W fun e w' => e = .returned (.string (str sm)) ∧ Below W.heap.size W w' := fun W => bytes21_any sm hsl W
  have hfin : V.put ⟨bd, ix, dt, mr, (x : Int), pc⟩ = bod ++ sm := by rw [Hbod.out, hsm, hbo]
  rw [← hsm] at hof
  have hsl2 : sm.length ≤ 32 := by omega
  have hn4 : ¬ 9223372036854775807 < 4 + bd.length + 7 + pc.length + sm.length := by omega
  have Hstr := Lib.hid hstr
  have Hof := Lib.hid hof
  have Hby2 := Lib.hid hby2
  have Hfin := Lib.hid hfin
  clear hbo hstr hof hsm hsl hby2 hfin
  obtain ⟨s1, s2, s3, s4, s5, s6⟩ := HS.out W0.drew (Below.refl _ _).drew
  go_enter Try.func49, Try.ntmps49
  go_wp2_with fail
  rw [← HW0.out]
  (refine Ord.wp_region_tree (Ord.OT.of [(false, 0), (false, 1), (false, 4), (false, 5), (false, 6), (false, 7), (false, 8), (false, 9), (false, 10), (false, 11), (false, 12), (false, 13), (false, 14), (false, 15), (false, 16), (false, 17), (false, 18), (false, 19), (false, 20), (false, 21), (false, 22), (false, 23), (false, 24), (false, 25), (false, 26), (false, 27), (false, 31), (false, 32)] (Ord.OT.two 28 (Ord.OT.of [] (Ord.OT.two 29 (Ord.OT.of [(true, 2), (false, 3), (false, 30), (false, 33), (false, 34)] Ord.OT.nil) 2 (Ord.OT.of [(false, 3), (true, 29), (false, 30), (false, 33), (false, 34)] Ord.OT.nil))) 2 (Ord.OT.of [(false, 3), (true, 28), (true, 29), (false, 30), (false, 33), (false, 34)] Ord.OT.nil))) (fun w' => (w'.rangeAt w.heap.size 0 (bs bd) ∧ w'.cell? ⟨w.heap.size, 32, none⟩ = some (.int .i64 ix) ∧ w'.cell? ⟨w.heap.size, 33, none⟩ = some (.int .i64 dt) ∧ w'.cell? ⟨w.heap.size, 34, none⟩ = some (.int .i64 mr) ∧ w'.cell? ⟨w.heap.size, 35, none⟩ = some (.int .i64 (x : Int)) ∧ w'.cell? ⟨w.heap.size, 36, none⟩ = some (.string (str pc)))) (by kernel_rfl) (by kernel_rfl) (by kernel_rfl) (by kernel_rfl) (by exact ⟨s1, s2, s3, s4, s5, s6⟩) ?_; simp only [Ord.OT.of, Ord.OT.opers, List.getElem?_toArray, List.getElem?_cons_succ, List.getElem?_cons_zero]; repeat (first | (refine Ord.wpT_skip ?_ ?_; (focus (go_simp; (try (intro h; cases h)); done)); simp only [Act.put, List.setIfInBounds_toArray, List.set_cons_zero, List.set_cons_succ]) | (refine Ord.wpT_take (v := ?_) ?_ ?_ ?_; rotate_left; (focus (go_simp; done)); (focus (intro w' hSw; (try dsimp only at hSw); go_simp; (try with_reducible rfl); done)); simp only [Act.put, List.setIfInBounds_toArray, List.set_cons_zero, List.set_cons_succ])))
  refine Ord.wpT_load_mid ?_ 43 _ rfl w.heap.size 0 rfl (bs bd) _ (fun w h => h.1) Try.underlying43 rfl Hi.out ?_
  · go_simp
  ((try simp only [Act.put, List.setIfInBounds_toArray, List.set_cons_zero, List.set_cons_succ]); repeat (first | (refine Ord.wpT_skip ?_ ?_; (focus (go_simp; (try (intro h; cases h)); done)); simp only [Act.put, List.setIfInBounds_toArray, List.set_cons_zero, List.set_cons_succ]) | (refine Ord.wpT_take (v := ?_) ?_ ?_ ?_; rotate_left; (focus (go_simp; done)); (focus (intro w' hSw; (try dsimp only at hSw); go_simp; (try with_reducible rfl); done)); simp only [Act.put, List.setIfInBounds_toArray, List.set_cons_zero, List.set_cons_succ])))
  refine Ord.wpT_two ?_ ?_
  · have hb1 : Below W0.heap.size W0 (W0.alloc X7).drew := ((Below.refl _ _).alloc (Nat.le_refl _) _).drew
    have hr1 : Rd (W0.alloc X7).drew 1 (.slice (some ⟨W0.heap.size, 0, none⟩) 7 7) 7 _ := (Hb7.out W0).below (Below.refl _ _).drew
    have k1 := conv_rd _ hr1
    replace hr1 := Lib.hid hr1
    (refine Ord.wpT_call ?_ (fun K hK => ?_); (focus (go_simp; done)); go_simp)
    rw [show World.drew (W0.alloc _) = (W0.alloc X7).drew by rw [HX7.out]]
    (refine hK _ _ (by exact HS.out _ hb1) ?_; clear hK K; (try simp only [Act.put, List.setIfInBounds_toArray, List.set_cons_zero, List.set_cons_succ]); repeat (first | (refine Ord.wpT_skip ?_ ?_; (focus (go_simp; (try (intro h; cases h)); done)); simp only [Act.put, List.setIfInBounds_toArray, List.set_cons_zero, List.set_cons_succ]) | (refine Ord.wpT_take (v := ?_) ?_ ?_ ?_; rotate_left; (focus (go_simp; done)); (focus (intro w' hSw; (try dsimp only at hSw); go_simp; (try with_reducible rfl); done)); simp only [Act.put, List.setIfInBounds_toArray, List.set_cons_zero, List.set_cons_succ])))
    refine Ord.wpT_two ?_ ?_
    · (refine Ord.wpT_call ?_ (fun K hK => ?_); (focus (go_simp; done)); go_simp)
      (refine hK _ _ (by exact HS.out _ hb1) ?_; clear hK K; (try simp only [Act.put, List.setIfInBounds_toArray, List.set_cons_zero, List.set_cons_succ]); repeat (first | (refine Ord.wpT_skip ?_ ?_; (focus (go_simp; (try (intro h; cases h)); done)); simp only [Act.put, List.setIfInBounds_toArray, List.set_cons_zero, List.set_cons_succ]) | (refine Ord.wpT_take (v := ?_) ?_ ?_ ?_; rotate_left; (focus (go_simp; done)); (focus (intro w' hSw; (try dsimp only at hSw); go_simp; (try with_reducible rfl); done)); simp only [Act.put, List.setIfInBounds_toArray, List.set_cons_zero, List.set_cons_succ])))
      (refine Ord.wpT_call ?_ (fun K hK => ?_); (focus (go_simp; done)); go_simp)
      go_at_call 112
      refine (Hby.out _).mono ?_
      rintro e w1 ⟨rfl, hb⟩
      have hb2 := below_go hb hb1
      clear k1 hr1
      (refine hK _ _ (by exact HS.out _ hb2) ?_; clear hK K; (try simp only [Act.put, List.setIfInBounds_toArray, List.set_cons_zero, List.set_cons_succ]); repeat (first | (refine Ord.wpT_skip ?_ ?_; (focus (go_simp; (try (intro h; cases h)); done)); simp only [Act.put, List.setIfInBounds_toArray, List.set_cons_zero, List.set_cons_succ]) | (refine Ord.wpT_take (v := ?_) ?_ ?_ ?_; rotate_left; (focus (go_simp; done)); (focus (intro w' hSw; (try dsimp only at hSw); go_simp; (try with_reducible rfl); done)); simp only [Act.put, List.setIfInBounds_toArray, List.set_cons_zero, List.set_cons_succ])))
      refine Ord.wpT_nil ?_
      go_wp2_with (first
        | (go_at_call 113; refine (Hof.out _).mono ?_; rintro e w3 ⟨rfl, hb3⟩; have hb4 := below_go hb3 hb2; clear hb3)
        | (go_at_call 112; refine (Hby2.out _).mono ?_; rintro e w4 ⟨rfl, hb5⟩; have hb6 := below_go hb5 hb4; clear hb5))
      go_ret
      refine ⟨?_, below_go hb6 hB0⟩
      rw [Hfin.out, ← str_append, ← Hstr.out]
      rfl
    · clear k1
      (refine Ord.wpT_call ?_ (fun K hK => ?_); (focus (go_simp; done)); go_simp)
      go_at_call 112
      refine (Hby.out _).mono ?_
      rintro e w1 ⟨rfl, hb⟩
      have hb2 := below_go hb hb1
      have k2 := conv_rd _ (hr1.out.below hb)
      (refine hK _ _ (by exact HS.out _ hb2) ?_; clear hK K; (try simp only [Act.put, List.setIfInBounds_toArray, List.set_cons_zero, List.set_cons_succ]); repeat (first | (refine Ord.wpT_skip ?_ ?_; (focus (go_simp; (try (intro h; cases h)); done)); simp only [Act.put, List.setIfInBounds_toArray, List.set_cons_zero, List.set_cons_succ]) | (refine Ord.wpT_take (v := ?_) ?_ ?_ ?_; rotate_left; (focus (go_simp; done)); (focus (intro w' hSw; (try dsimp only at hSw); go_simp; (try with_reducible rfl); done)); simp only [Act.put, List.setIfInBounds_toArray, List.set_cons_zero, List.set_cons_succ])))
      (refine Ord.wpT_call ?_ (fun K hK => ?_); (focus (go_simp; done)); go_simp)
      (refine hK _ _ (by exact HS.out _ hb2) ?_; clear hK K; (try simp only [Act.put, List.setIfInBounds_toArray, List.set_cons_zero, List.set_cons_succ]); repeat (first | (refine Ord.wpT_skip ?_ ?_; (focus (go_simp; (try (intro h; cases h)); done)); simp only [Act.put, List.setIfInBounds_toArray, List.set_cons_zero, List.set_cons_succ]) | (refine Ord.wpT_take (v := ?_) ?_ ?_ ?_; rotate_left; (focus (go_simp; done)); (focus (intro w' hSw; (try dsimp only at hSw); go_simp; (try with_reducible rfl); done)); simp only [Act.put, List.setIfInBounds_toArray, List.set_cons_zero, List.set_cons_succ])))
      refine Ord.wpT_nil ?_
      go_wp2_with (first
        | (go_at_call 113; refine (Hof.out _).mono ?_; rintro e w3 ⟨rfl, hb3⟩; have hb4 := below_go hb3 hb2; clear hb3)
        | (go_at_call 112; refine (Hby2.out _).mono ?_; rintro e w4 ⟨rfl, hb5⟩; have hb6 := below_go hb5 hb4; clear hb5))
      go_ret
      refine ⟨?_, below_go hb6 hB0⟩
      rw [Hfin.out, ← str_append, ← Hstr.out]
      rfl
  · (refine Ord.wpT_call ?_ (fun K hK => ?_); (focus (go_simp; done)); go_simp)
    go_at_call 112
    refine (Hby.out _).mono ?_
    rintro e w1 ⟨rfl, hb⟩
    have hb2 := below_go hb (Below.refl W0.heap.size W0).drew
    (refine hK _ _ (by exact HS.out _ hb2) ?_; clear hK K; (try simp only [Act.put, List.setIfInBounds_toArray, List.set_cons_zero, List.set_cons_succ]); repeat (first | (refine Ord.wpT_skip ?_ ?_; (focus (go_simp; (try (intro h; cases h)); done)); simp only [Act.put, List.setIfInBounds_toArray, List.set_cons_zero, List.set_cons_succ]) | (refine Ord.wpT_take (v := ?_) ?_ ?_ ?_; rotate_left; (focus (go_simp; done)); (focus (intro w' hSw; (try dsimp only at hSw); go_simp; (try with_reducible rfl); done)); simp only [Act.put, List.setIfInBounds_toArray, List.set_cons_zero, List.set_cons_succ])))
    have hb7 : Below W0.heap.size W0 (w1.alloc X7) := hb2.alloc hb2.size _
    have k1 := conv_rd _ (Hb7.out w1)
    (refine Ord.wpT_call ?_ (fun K hK => ?_); (focus (go_simp; done)); go_simp)
    rw [show World.alloc w1 _ = w1.alloc X7 by rw [HX7.out]]
    (refine hK _ _ (by exact HS.out _ hb7) ?_; clear hK K; (try simp only [Act.put, List.setIfInBounds_toArray, List.set_cons_zero, List.set_cons_succ]); repeat (first | (refine Ord.wpT_skip ?_ ?_; (focus (go_simp; (try (intro h; cases h)); done)); simp only [Act.put, List.setIfInBounds_toArray, List.set_cons_zero, List.set_cons_succ]) | (refine Ord.wpT_take (v := ?_) ?_ ?_ ?_; rotate_left; (focus (go_simp; done)); (focus (intro w' hSw; (try dsimp only at hSw); go_simp; (try with_reducible rfl); done)); simp only [Act.put, List.setIfInBounds_toArray, List.set_cons_zero, List.set_cons_succ])))
    (refine Ord.wpT_call ?_ (fun K hK => ?_); (focus (go_simp; done)); go_simp)
    (refine hK _ _ (by exact HS.out _ hb7) ?_; clear hK K; (try simp only [Act.put, List.setIfInBounds_toArray, List.set_cons_zero, List.set_cons_succ]); repeat (first | (refine Ord.wpT_skip ?_ ?_; (focus (go_simp; (try (intro h; cases h)); done)); simp only [Act.put, List.setIfInBounds_toArray, List.set_cons_zero, List.set_cons_succ]) | (refine Ord.wpT_take (v := ?_) ?_ ?_ ?_; rotate_left; (focus (go_simp; done)); (focus (intro w' hSw; (try dsimp only at hSw); go_simp; (try with_reducible rfl); done)); simp only [Act.put, List.setIfInBounds_toArray, List.set_cons_zero, List.set_cons_succ])))
    refine Ord.wpT_nil ?_
    go_wp2_with (first
      | (go_at_call 113; refine (Hof.out _).mono ?_; rintro e w3 ⟨rfl, hb3⟩; have hb4 := below_go hb3 hb7; clear hb3)
      | (go_at_call 112; refine (Hby2.out _).mono ?_; rintro e w4 ⟨rfl, hb5⟩; have hb6 := below_go hb5 hb4; clear hb5))
    go_ret
    refine ⟨?_, below_go hb6 hB0⟩
    rw [Hfin.out, ← str_append, ← Hstr.out]
    rfl
end Go.Proofs.Ytcjabfdjngekfaa.Vol
