/- One block is taken in. -/
import Derived.Test.YtpldkplfdbjidaaShaWords
import Derived.Deep.CutRange
import Derived.StillTailTactics
set_option linter.unusedVariables false
set_option linter.unusedSimpArgs false
namespace Go.Proofs.Ytpldkplfdbjidaa.Sha
open Go.RowKit Go.Proofs.Ytpldkplfdbjidaa.Wd

set_option maxRecDepth 100000 in
set_option maxHeartbeats 2000000 in
theorem mix_any (g : Nat) (h : Hs) (w : World) (H : HashAt w g h) :
    Calls Try.prog 150 #[.pointer (some ⟨g, 0, none⟩)] w fun e w' => e = .returned (.tuple #[]) ∧ HashAt w' g ⟨mixSt K0 h.st h.buf, h.buf, h.n⟩ ∧ w.grownBy w' (some g) := by
  obtain ⟨L, hL⟩ : ∃ L, L = ws (sched h.buf 64) := ⟨_, rfl⟩
  have hsl : L.length = 64 := by rw [hL, ws_length, sched_length]
  have h1c : ∀ v ∈ L, v.oneCell' = true := by
    rw [hL]; intro v hv; obtain ⟨x, _, rfl⟩ := List.mem_map.1 hv; rfl
  have Hw := Lib.hid (fun W (HW : HashAt W g h) => words_any g h W HW)
  rw [← hL] at Hw
  have HL := Lib.hid hL
  clear hL
  have Hi : Hid ((Try.prog.info? 200).map (·.size) = some L.toArray.size) := by show _ = _; rw [List.size_toArray, hsl]; rfl
  go_enter Try.func150, Try.ntmps150
  go_upto_region 0 with fail
  go_cut [2] from 17 to 18 (fun s2 wx => ∃ b1 : Nat, s2 = .pointer (some ⟨b1, 0, none⟩) ∧ w.heap.size ≤ b1 ∧ b1 < wx.heap.size ∧ wx.rangeAt b1 0 L ∧ Below w.heap.size w wx)
  case first =>
    go_wp2_with (first
      | (go_at_call 187; go_must (refine (Hw.out _ H).mono ?_); rintro e w1 ⟨rfl, hb1⟩)
      | (refine wpList_store_mid rfl _ _ _ rfl w1.heap.size 0 L.toArray rfl rfl (there_alloc _ _ _ _ (by rw [List.size_toArray, hsl]; exact Nat.le_refl 64)) Hi.out (all_oneCell_toArray h1c) ?_))
    go_meet
    case rel =>
      exact ⟨_, rfl, hb1.size, by rw [cells_size, alloc_size]; omega, World.rangeAt_setCells_same _ _ _ _ (there_alloc _ _ _ _ (by rw [hsl]; exact Nat.le_refl 64)), below_cells hb1.size _ _ _ (hb1.alloc hb1.size _)⟩
  case rest =>
    obtain ⟨b1, rfl, hb1, hb2, hr, hB⟩ := hcut
    have H1 := H.below hB
    have k0 : wc.cell? ⟨g, 1, none⟩ = some (.int .u32 (h.st.a.toNat : Int)) := H1.st 0 (by omega)
    have k1 : wc.cell? ⟨g, 2, none⟩ = some (.int .u32 (h.st.b.toNat : Int)) := H1.st 1 (by omega)
    have k2 : wc.cell? ⟨g, 3, none⟩ = some (.int .u32 (h.st.c.toNat : Int)) := H1.st 2 (by omega)
    have k3 : wc.cell? ⟨g, 4, none⟩ = some (.int .u32 (h.st.d.toNat : Int)) := H1.st 3 (by omega)
    have k4 : wc.cell? ⟨g, 5, none⟩ = some (.int .u32 (h.st.e.toNat : Int)) := H1.st 4 (by omega)
    have k5 : wc.cell? ⟨g, 6, none⟩ = some (.int .u32 (h.st.f.toNat : Int)) := H1.st 5 (by omega)
    have k6 : wc.cell? ⟨g, 7, none⟩ = some (.int .u32 (h.st.g.toNat : Int)) := H1.st 6 (by omega)
    have k7 : wc.cell? ⟨g, 8, none⟩ = some (.int .u32 (h.st.h.toNat : Int)) := H1.st 7 (by omega)
    go_wp2_with fail
    go_quiet (fail)
    go_wp2_with fail
    have hz := hB.size
    go_loopw [4, 5, 6, 7, 8, 9, 10, 11, 39] (fun va vb vc vd ve vf vg vh vi wr => ∃ (t : Nat) (s : St), t ≤ 64 ∧ vi = .int .i64 t ∧ Hid (s = rounds K0 (sched h.buf 64) h.st t) ∧ va = .int .u32 (s.a.toNat : Int) ∧ vb = .int .u32 (s.b.toNat : Int) ∧ vc = .int .u32 (s.c.toNat : Int) ∧ vd = .int .u32 (s.d.toNat : Int) ∧ ve = .int .u32 (s.e.toNat : Int) ∧ vf = .int .u32 (s.f.toNat : Int) ∧ vg = .int .u32 (s.g.toNat : Int) ∧ vh = .int .u32 (s.h.toNat : Int) ∧ HashAt wr g h ∧ wr.rangeAt b1 0 L ∧ Below w.heap.size w wr) (fun _ _ _ _ _ _ _ _ vi _ => 64 - (intOf vi).toNat)
    case atStart =>
      have hA := (hB.alloc hB.size (.cells #[.int .u32 (h.st.a.toNat : Int), .int .u32 (h.st.b.toNat : Int), .int .u32 (h.st.c.toNat : Int), .int .u32 (h.st.d.toNat : Int), .int .u32 (h.st.e.toNat : Int), .int .u32 (h.st.f.toNat : Int), .int .u32 (h.st.g.toNat : Int), .int .u32 (h.st.h.toNat : Int)] 198))
      refine ⟨0, h.st, by omega, rfl, rfl, rfl, rfl, rfl, rfl, rfl, rfl, rfl, rfl, ⟨blk_alloc H1.1 _, H1.2⟩, ?_, below_drewN hA nq⟩
      intro j v hv
      have := hr j v hv
      show (wc.alloc _).cell? _ = _
      exact (Below.cell ((Below.refl wc.heap.size wc).alloc (Nat.le_refl _) _) (p := ⟨b1, 0 + j, none⟩) hb2).trans this
    case round =>
      clear hr hb2 k0 k1 k2 k3 k4 k5 k6 k7 H1 hB hz
      obtain ⟨t, s, ht, rfl, Hs, rfl, rfl, rfl, rfl, rfl, rfl, rfl, rfl, H2, hr2, hB2⟩ := hrel
      have ra := W_add
      have ram := W_addm
      have rx := W_xor
      have rn := W_and
      have rnot := W_not
      by_cases h64 : t < 64
      · skip
        have c1 := H2.k t h64
        have c2 : wr.cell? ⟨b1, t, none⟩ = some (W (gw (sched h.buf 64) t)) := by
          have := hr2 t (W (gw (sched h.buf 64) t)) (by rw [HL.out]; exact ws_get _ _ (by rw [sched_length]; exact h64))
          rwa [Nat.zero_add] at this
        unfold W at c1 c2
        obtain ⟨kk, hkk⟩ : ∃ x, x = gw K0 t := ⟨_, rfl⟩
        obtain ⟨wk, hwk⟩ : ∃ x, x = gw (sched h.buf 64) t := ⟨_, rfl⟩
        rw [← hkk] at c1
        rw [← hwk] at c2
        have Hkk := Lib.hid hkk
        have Hwk := Lib.hid hwk
        clear hkk hwk
        have ht1 : (t : Int) < 64 := by omega
        go_wp2_with fail
        go_quiet ((go_at_call 188; first | exact Calls.quiet_of_same (turn_w s.e 6 (by omega) (by omega) _) | exact Calls.quiet_of_same (turn_w s.e 11 (by omega) (by omega) _) | exact Calls.quiet_of_same (turn_w s.e 25 (by omega) (by omega) _)))
        go_wp2_with (go_at_call 188; first | (refine (turn_w s.a 2 (by omega) (by omega) _).mono ?_; rintro e w3 ⟨rfl, rfl⟩) | (refine (turn_w s.a 13 (by omega) (by omega) _).mono ?_; rintro e w3 ⟨rfl, rfl⟩) | (refine (turn_w s.a 22 (by omega) (by omega) _).mono ?_; rintro e w3 ⟨rfl, rfl⟩))
        refine ⟨⟨t + 1, s.round kk wk, by omega, by go_num, ?_, rfl, rfl, rfl, rfl, rfl, rfl, rfl, rfl, H2, hr2, below_drewN hB2 nq⟩, by simp only [intOf]; omega⟩
        show s.round kk wk = rounds K0 (sched h.buf 64) h.st (t + 1)
        rw [Hkk.out, Hwk.out, Hs.out]; rfl
      · have ht64 : t = 64 := by omega
        have Hs2 : Hid (s = rounds K0 (sched h.buf 64) h.st 64) := by
          have := Hs.out
          rw [ht64] at this
          exact this
        clear hr2 ra ram rx rn rnot Hs
        have hd1 : decide ((t : Int) < 64) = false := decide_eq_false (by omega)
        have hd2 : decide (t < 64) = false := decide_eq_false (by omega)
        clear ht64
        obtain ⟨wo, rfl⟩ : ∃ wo : World, wo = wr := ⟨_, rfl⟩
        go_wp2_with fail
        go_loopw [114] (fun vi wq => ∃ j : Nat, j ≤ 8 ∧ vi = .int .i64 j ∧ wq.heap[g]? = some (.cells (hcellsL (wsum h.st.list s.list j) h.buf h.n).toArray 204 (0, 0)) ∧ w.grownBy wq (some g)) (fun vi _ => 8 - (intOf vi).toNat)
        case atStart => exact ⟨0, by omega, rfl, H2.1, grown_below hB2 _⟩
        case round =>
          obtain ⟨j, hj, rfl, hg, hG⟩ := hrel
          have hlw := wsum_length h.st.list s.list j rfl (by rw [St.list_length]; exact hj)
          by_cases hj8 : j < 8
          · have hcj : wr.cell? ⟨g, 1 + j, none⟩ = some (.int .u32 ((gw h.st.list j).toNat : Int)) := by
              have := wsum_get h.st.list s.list j rfl (by rw [St.list_length]; exact hj8)
              rw [blk_cell hg (1 + j)]
              simp only [List.getElem?_toArray]
              rw [hcellsL_get _ _ _ _ (by rw [hlw, St.list_length]; exact hj8), this]; rfl
            have hfj := blk_frozen hg (1 + j)
            have hj1 : (j : Int) < 8 := by omega
            have hI : ∀ W0 : World, (Instr.index 198 (.agg #[.int .u32 (s.a.toNat : Int), .int .u32 (s.b.toNat : Int), .int .u32 (s.c.toNat : Int), .int .u32 (s.d.toNat : Int), .int .u32 (s.e.toNat : Int), .int .u32 (s.f.toNat : Int), .int .u32 (s.g.toNat : Int), .int .u32 (s.h.toNat : Int)]) (.int .i64 (j : Int))).run Try.prog W0 = .ok (.int .u32 ((gw s.list j).toNat : Int)) W0 := by
              intro W0
              have hj9 : j = 0 ∨ j = 1 ∨ j = 2 ∨ j = 3 ∨ j = 4 ∨ j = 5 ∨ j = 6 ∨ j = 7 := by omega
              rcases hj9 with rfl | rfl | rfl | rfl | rfl | rfl | rfl | rfl <;> rfl
            obtain ⟨aj, haj⟩ : ∃ x, x = gw h.st.list j := ⟨_, rfl⟩
            obtain ⟨bj, hbj⟩ : ∃ x, x = gw s.list j := ⟨_, rfl⟩
            rw [← haj] at hcj
            rw [← hbj] at hI
            have Haj := Lib.hid haj
            have Hbj := Lib.hid hbj
            clear haj hbj
            have rab := W_add aj bj
            have rabm := W_addm aj bj
            go_wp2_with fail
            go_still_tail 11, (by kernel_rfl)
            change wpList _ _ _ _ _ wr.drew
            go_wp2
            refine ⟨⟨j + 1, by omega, by go_num, ?_, ?_⟩, by simp only [intOf]; omega⟩
            · have h1 := blk_set hg (1 + j) (W (wadd aj bj))
              rw [List.setIfInBounds_toArray, hcellsL_set _ _ _ _ _ (by rw [hlw, St.list_length]; exact hj8), Haj.out, Hbj.out, wsum_set h.st.list s.list j rfl (by rw [St.list_length]; exact hj8), ← Haj.out, ← Hbj.out] at h1
              exact h1
            · have h2 := hG.trans (grown_setCell wr g (1 + j) (W (wadd aj bj)))
              exact ⟨h2.os, h2.tape, h2.output, h2.size, h2.block⟩
          · have hj9 : j = 8 := by omega
            subst hj9
            go_wp2
            go_end0
            refine ⟨rfl, ⟨?_, H.2⟩, hG⟩
            rw [hcells_eq]
            have h1 : (mixSt K0 h.st h.buf).list = wsum h.st.list s.list 8 := by rw [wsum_all, mixSt, ← Hs2.out]
            simp only [h1]
            exact hg
end Go.Proofs.Ytpldkplfdbjidaa.Sha
