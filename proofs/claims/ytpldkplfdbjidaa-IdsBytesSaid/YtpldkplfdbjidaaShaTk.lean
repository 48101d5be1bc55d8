/- Bytes are taken in: the walk. -/
import Derived.Test.YtpldkplfdbjidaaShaTake
set_option linter.unusedVariables false
set_option linter.unusedSimpArgs false
namespace Go.Proofs.Ytpldkplfdbjidaa.Sha
open Go.RowKit Go.Proofs.Ytpldkplfdbjidaa.Wd

def lenOf : Value → Nat
  | .slice _ n _ => n
  | _ => 0
set_option maxRecDepth 100000 in
set_option maxHeartbeats 2000000 in
theorem take_any (g : Nat) (h : Hs) (w : World) (v : Value) (l : List UInt8) (H : HashAt w g h) (HR : Rd w 1 v l.length (bs l)) (hne : 0 < l.length → v.ownBlock ≠ some g) (hn : h.n + l.length < 18446744073709551616) :
    Calls Try.prog 99 #[.pointer (some ⟨g, 0, none⟩), v] w fun e w' => e = .returned (.tuple #[]) ∧ HashAt w' g (h.feed l) ∧ w.grownBy w' (some g) := by
  have h0 := H.c0
  have Hm := Lib.hid (fun h W (HW : HashAt W g h) => mix_any g h W HW)
  go_enter Try.func99, Try.ntmps99
  go_wp2_with (go_at_call 149; refine (none_made g w h0).mono ?_; rintro e w1 ⟨rfl, rfl⟩)
  go_loopw [1] (fun b wr => ∃ k : Nat, k ≤ l.length ∧ Rd wr 1 b (l.length - k) (bs (l.drop k)) ∧ (k < l.length → b.ownBlock ≠ some g) ∧ HashAt wr g (h.feed (l.take k)) ∧ w1.grownBy wr (some g)) (fun b _ => lenOf b)
  case atStart => exact ⟨0, Nat.zero_le _, by simpa using HR, hne, by exact H, World.grownBy.refl _ _⟩
  case round =>
    obtain ⟨k, hk, hR, hnb, hH, hG⟩ := hrel
    obtain ⟨A, c, rfl, hmc, hcm, -⟩ := hR.slice_
    by_cases hkl : k < l.length
    · have hnb := hnb hkl
      have hm : 0 < l.length - k := by omega
      obtain ⟨b, off, rfl, -, -, -, -⟩ := hR.at_ hm
      generalize hmm : l.length - k = m at hR hmc hm hnb ⊢
      have hN : (h.feed (l.take k)).n = h.n + k := by rw [feed_n, List.length_take, Nat.min_eq_left hk]
      obtain ⟨h1, hh1⟩ : ∃ h1, h1 = h.feed (l.take k) := ⟨_, rfl⟩
      rw [← hh1] at hH hN
      obtain ⟨n1, hn1⟩ : ∃ n1, n1 = h1.n := ⟨_, rfl⟩
      have c5 := hH.n
      rw [← hn1] at c5 hN
      obtain ⟨at_, hat⟩ : ∃ x, x = n1 % 64 := ⟨_, rfl⟩
      have f5 := hH.f 137
      obtain ⟨cs, hcs⟩ : ∃ cs, cs = (l.drop k).take (64 - at_) := ⟨_, rfl⟩
      obtain ⟨t, ht⟩ : ∃ t, t = cs.length := ⟨_, rfl⟩
      have htm : t = min (64 - at_) m := by rw [ht, hcs, List.length_take, List.length_drop, hmm]
      have ha64 : at_ < 64 := by omega
      have r1 : (n1 : Int) % 64 = (at_ : Int) := by omega
      have r2 : (n1 : Int).tmod 64 = (at_ : Int) := by rw [Int.tmod_eq_emod_of_nonneg (by omega)]; exact r1
      have r3 : (0 : Int) ≤ (at_ : Int) := by omega
      have r4 : (at_ : Int) ≤ 64 := by omega
      have r5 : ¬ 64 = at_ := by omega
      have r6 : (t : Int) ≤ (m : Int) := by omega
      have r7 : t ≤ m := by omega
      have r8 : IntKind.u64.wrap ((n1 : Int) + (t : Int)) = ((n1 + t : Nat) : Int) := by rw [IntKind.wrap_u64]; omega
      have r9 : IntKind.i64.wrap ((at_ : Int) + (t : Int)) = ((at_ + t : Nat) : Int) := by rw [IntKind.wrap_i64]; omega
      have r10 : IntKind.u64.wrap (t : Int) = (t : Int) := by rw [IntKind.wrap_u64]; omega
      have Hcs := Lib.hid hcs
      have Ht := Lib.hid ht
      have Hhh := Lib.hid hh1
      have Hn1 := Lib.hid hn1
      have Hmm := Lib.hid hmm
      have Hat := Lib.hid hat
      have HN := Lib.hid hN
      have Htm := Lib.hid htm
      clear hcs ht hh1 hn1 hmm hat hN htm
      have hd : decide (0 < m) = true := decide_eq_true hm
      have hd2 : decide ((0 : Int) < (m : Int)) = true := decide_eq_true (by omega)
      have hsz : (Try.prog.info? 5).map (·.size) = some 1 := by kernel_rfl
      have Hsz := Lib.hid hsz
      have Hmc := Lib.hid hmc
      clear hsz hcm hmc hkl hk
      have Hfeed : Hid (h.feed (l.take (k + t)) = ⟨if at_ + t = 64 then mixSt K0 h1.st (splb h1.buf at_ cs) else h1.st, splb h1.buf at_ cs, n1 + t⟩) := by
        show _ = _
        have e1 : l.take (k + t) = l.take k ++ cs := by
          have e0 : l.take (k + t) = l.take k ++ (l.drop k).take t := List.take_add
          have e2 : cs = (l.drop k).take t := by
            rw [Hcs.out, Htm.out]
            rcases Nat.le_total (64 - at_) m with h2 | h2
            · rw [Nat.min_eq_left h2]
            · rw [Nat.min_eq_right h2, List.take_of_length_le (by rw [List.length_drop, Hmm.out]; exact h2), List.take_of_length_le (by rw [List.length_drop, Hmm.out]; exact Nat.le_refl _)]
          rw [e0, e2]
        have e3 := feed_chunk h1 cs hH.2 (by intro e; rw [e] at Ht; have h3 := Ht.out; have h4 := Htm.out; simp at h3; omega) (by have h3 := Ht.out; have h4 := Hat.out; have h5 := Hn1.out; have h6 := Htm.out; rw [← h3, ← h5, ← h4]; omega)
        rw [← Hn1.out, ← Hat.out, ← Ht.out] at e3
        rw [e1, feed_append, ← Hhh.out, e3]
      have Hset : Hid (∀ W : World, HashAt W g ⟨h1.st, splb h1.buf at_ cs, h1.n⟩ → HashAt (W.setCell ⟨g, 137, none⟩ (.int .u64 ((n1 : Int) + (t : Int)))) g ⟨h1.st, splb h1.buf at_ cs, n1 + t⟩) := by
        show ∀ _, _
        intro W HW
        refine ⟨?_, HW.2⟩
        have e1 := blk_set HW.1 137 (.int .u64 ((n1 : Int) + (t : Int)))
        rw [List.setIfInBounds_toArray, show (n1 : Int) + (t : Int) = ((n1 + t : Nat) : Int) by omega, hcells_setn ⟨h1.st, splb h1.buf at_ cs, h1.n⟩ HW.2 (n1 + t)] at e1
        rw [show (n1 : Int) + (t : Int) = ((n1 + t : Nat) : Int) by omega]
        exact e1
      have Hend : ∀ (wz : World) (off' : Nat), wr.grownBy wz (some g) → HashAt wz g (h.feed (l.take (k + t))) → (t < m → off' = off + t) →
          ∃ k' : Nat, k' ≤ l.length ∧ Rd wz 1 (.slice (some ⟨b, off', none⟩) (m - t) (c - t)) (l.length - k') (bs (l.drop k')) ∧ (k' < l.length → (Value.slice (some ⟨b, off', none⟩) (m - t) (c - t)).ownBlock ≠ some g) ∧ HashAt wz g (h.feed (l.take k')) ∧ w1.grownBy wz (some g) := by
        intro wz off' g1 g2 g3
        have e0 := Hmm.out
        refine ⟨k + t, by omega, ?_, fun _ => hnb, g2, hG.trans g1⟩
        have e1 := Rd.tail (hR.grown g1 (fun q hq => by injection hq with hq; rw [← hq]; exact hnb)) t r7 off' (by intro h2; rw [Nat.mul_one]; exact g3 h2)
        rw [Nat.mul_one] at e1
        rw [show l.length - (k + t) = m - t by omega, ← List.drop_drop]
        have e2 : (bs (l.drop k)).drop t = bs ((l.drop k).drop t) := by simp [bs, List.map_drop]
        rw [← e2]; exact e1
      have HEnd := Lib.hid Hend
      clear Hend
      have htp : 0 < t := by have := Htm.out; omega
      by_cases hfull : at_ + t = 64
      · have d1 : (((at_ + t : Nat) : Int) == 64) = true := by simp [hfull]
        have d2 : (((at_ : Int) + (t : Int)) == 64) = true := by rw [beq_iff_eq]; omega
        by_cases hct : c = t
        all_goals
          go_wp2_with (first
            | (refine copy_in rfl _ _ _ _ rfl 5 Try.underlying39 Hsz.out g _ at_ _ _ rfl _ rfl rfl h1 hH m (l.drop k) hR hm rfl ha64 ?_; intro w2 hw2 hg2; have c6 := hw2.n; have f6 := hw2.f 137; rw [← Hn1.out] at c6; rw [← Hcs.out, ← Ht.out]; rw [← Hcs.out] at hw2; have Hw2 := Lib.hid hw2; clear hw2)
            | (go_at_call 150; refine (Hm.out _ _ (Hset.out _ Hw2.out)).mono ?_; rintro e w3 ⟨rfl, H3, g3⟩))
        all_goals
          have hH3 : HashAt w3 g (h.feed (l.take (k + t))) := by rw [Hfeed.out, if_pos hfull]; exact H3
          have hG3 : wr.grownBy w3 (some g) := (hg2.trans (grown_setCell _ _ _ _)).trans g3
          refine ⟨?_, by simp only [lenOf]; omega⟩
        · have e1 := HEnd.out w3 off hG3 hH3 (fun h2 => by have := Hmc.out; omega)
          rw [show c - t = 0 by omega] at e1
          exact e1
        · exact HEnd.out w3 (off + t) hG3 hH3 (fun _ => rfl)
      · have d1 : (((at_ + t : Nat) : Int) == 64) = false := by rw [Bool.eq_false_iff]; intro e; rw [beq_iff_eq] at e; omega
        have d2 : (((at_ : Int) + (t : Int)) == 64) = false := by rw [Bool.eq_false_iff]; intro e; rw [beq_iff_eq] at e; omega
        by_cases hct : c = t
        all_goals
          go_wp2_with (first
            | (refine copy_in rfl _ _ _ _ rfl 5 Try.underlying39 Hsz.out g _ at_ _ _ rfl _ rfl rfl h1 hH m (l.drop k) hR hm rfl ha64 ?_; intro w2 hw2 hg2; have c6 := hw2.n; have f6 := hw2.f 137; rw [← Hn1.out] at c6; rw [← Hcs.out, ← Ht.out]; rw [← Hcs.out] at hw2; have Hw2 := Lib.hid hw2; clear hw2))
        all_goals
          have hH3 : HashAt (w2.setCell ⟨g, 137, none⟩ (.int .u64 ((n1 : Int) + (t : Int)))) g (h.feed (l.take (k + t))) := by rw [Hfeed.out, if_neg hfull]; exact Hset.out _ Hw2.out
          have hG3 : wr.grownBy (w2.setCell ⟨g, 137, none⟩ (.int .u64 ((n1 : Int) + (t : Int)))) (some g) := hg2.trans (grown_setCell _ _ _ _)
          refine ⟨?_, by simp only [lenOf]; omega⟩
        · have e1 := HEnd.out _ off hG3 hH3 (fun h2 => by have := Hmc.out; omega)
          rw [show c - t = 0 by omega] at e1
          exact e1
        · exact HEnd.out _ (off + t) hG3 hH3 (fun _ => rfl)
    · have hkl' : k = l.length := by omega
      subst hkl'
      have e0 : l.length - l.length = 0 := Nat.sub_self _
      rw [e0] at hR
      rw [List.take_length] at hH
      have HR3 := Lib.hid hR
      clear hR
      simp only [e0]
      go_wp2
      go_end0
      exact ⟨rfl, hH, hG⟩
end Go.Proofs.Ytpldkplfdbjidaa.Sha
