/- LayOne's walk -/
import Derived.Test.YtmiioehiffddeaaLayOne
import Derived.Test.YtmiioehiffddeaaLayCanon
set_option linter.unusedVariables false
set_option linter.unusedSimpArgs false
namespace Go.Proofs.Ytmiioehiffddeaa.Lay
open Go.RowKit Go.Proofs.Ytmiioehiffddeaa.Wd

theorem Rd.take {w : World} {A : Option Addr} {n c : Nat} {l : List UInt8} (h : Rd w 1 (.slice A n c) n (bs l)) (k : Nat) (hk : k ≤ n) : Rd w 1 (.slice A k c) k (bs (l.take k)) := by
  obtain ⟨hl, A', c', hA, h1, h2, h3⟩ := h
  rw [bs_length, Nat.mul_one] at hl
  injection hA with hA1 hA2 hA3
  subst hA1 hA3
  refine ⟨by rw [bs_length, List.length_take]; omega, _, _, rfl, by omega, h2, fun h0 => ?_⟩
  obtain ⟨b, off, rfl, hc⟩ := h3 (by omega)
  refine ⟨b, off, rfl, fun i hi => ?_⟩
  rw [hc i (by omega), bs_getElem? _ _ (by omega), bs_getElem? _ _ (by rw [List.length_take]; omega)]
  simp [List.getD_eq_getElem?_getD, List.getElem?_take, show i < k by omega]

set_option maxRecDepth 100000 in
set_option maxHeartbeats 2000000 in
theorem LayOne_any (vb : Value) (lb : List UInt8) (w : World) (hb : Rd w 1 vb lb.length (bs lb)) :
    Calls Try.prog 10 #[vb] w fun e w' => e = .returned (.bool true) ∧ Below w.heap.size w w' := by
  have HB := hb
  obtain ⟨Ab, cb, rfl, hb1, hb2, _⟩ := hb.slice_
  clear hb
  by_cases h1 : 1000 < lb.length
  · go_enter Try.func10, Try.ntmps10
    go_wp2
    go_ret
    exact ⟨rfl, Below.refl _ _⟩
  have ks := Rd.string (P := Try.prog) (w := w) (dst := 9) Try.underlying23 Try.underlying5 Try.underlying9 HB
  go_enter Try.func10, Try.ntmps10
  go_wp2_with (go_at_call 38; go_must (refine (Read_any lb _).mono ?_); rintro e w1 ⟨rfl, hr, hB1⟩)
  clear ks
  go_loopw [4, 5] (fun v i wr => ∃ (k : Nat) (done rest : List UInt8), Hid (lb = done ++ rest) ∧ k ≤ done.length ∧ i = .int .i64 k ∧ RdrAt wr w.heap.size ⟨rest, 0⟩ ∧ wr.ownsRow (w.heap.size + 1) 5 1 v done.length (bs done) ∧ Below w.heap.size w wr) (fun _ i _ => 1000 - (intOf i).toNat)
  case atStart => exact ⟨0, [], lb, rfl, by simp, rfl, hr, World.ownsRow_nil _ _ _ _, hB1⟩
  case round =>
    clear hr hB1
    obtain ⟨k, done, rest, Hl, hk, rfl, hr, ho, hB⟩ := hrel
    have hlen := congrArg List.length Hl.out
    rw [List.length_append] at hlen
    have hk2 : k ≤ 1000 := by omega
    have hdl : done.length ≤ 1000 := by omega
    have hLeft := Lib.hid (Left_any w.heap.size _ wr hr)
    have hlr : rest.length ≤ 1000 := by omega
    have Hlen := Lib.hid hlen
    clear hlen
    by_cases hlt : 0 < rest.length ∧ k < 1000
    · obtain ⟨hlt, hk3⟩ := hlt
      have hN := Number_any w.heap.size _ wr hr
      have hcan := number_canon rest
      have hsho := number_shorter rest
      have hend := number_ended ⟨rest, 0⟩
      have hzer := (⟨rest, 0⟩ : Rdr).number_bad
      have hvlt := (⟨rest, 0⟩ : Rdr).number_lt
      obtain ⟨⟨v, r2, bad⟩, hv⟩ : ∃ x, x = (⟨rest, 0⟩ : Rdr).number := ⟨_, rfl⟩
      rw [← hv] at hN hcan hsho hend hzer hvlt
      clear hv
      simp only at hN hcan hsho hend hzer hvlt
      have hN := Lib.hid hN
      by_cases hbad : bad = 0
      · subst hbad
        have hcan2 := hcan rfl
        have hsho2 := hsho rfl
        clear hend hzer hcan hsho
        have hl1 : (done ++ [v].flatMap putN).length ≤ 1000 := by
          have h2 := congrArg List.length hcan2
          have h3 := Hlen.out
          rw [List.length_append] at h2
          simp only [List.flatMap_cons, List.flatMap_nil, List.append_nil, List.length_append]
          omega
        have Hcan := Lib.hid hcan2
        clear hcan2
        go_wp2_with (first
          | (go_at_call 51; refine hLeft.out.mono ?_; rintro e w2 ⟨rfl, rfl⟩)
          | (go_at_call 39; go_must (refine hN.out.mono ?_); rintro e w2 ⟨rfl, hl2⟩; have hB2 := Lib.hid (Bad_any w.heap.size _ w2 hl2.1); have ho2 := ho.kept hl2.2 (.inr (fun e => by have := own_base ho _ e; omega)))
          | (go_at_call 52; go_must (refine hB2.out.mono ?_); rintro e w3 ⟨rfl, rfl⟩)
          | (go_at_call 35; go_must (refine (PutNumber_any _ _ done [v] _ (Rd.of_own (ho2.alloc _)) (Rd.lit w2 1 1 [.int .u64 (v : Int)] 51 rfl (by simp [maxLen])) (by simpa using hvlt) (by omega)).mono ?_); rintro e w3 ⟨v3, rfl, ho3, hb3⟩))
        have hb2 : Below w2.heap.size w2 (w2.alloc (.cells #[.int .u64 (v : Int)] 51)) := (Below.refl _ _).alloc (Nat.le_refl _) _
        have hr3 := (hl2.1.below hb2).below hb3
        have hsz := hl2.2.size
        have hrl := hr.lt
        have ho4 := own_lower (base' := w.heap.size + 1) ho3 (by simp only [alloc_size]; omega)
        have hB3 := below_then (below_then (hB.grown hl2.2 hB.size (fun k hk => by injection hk with hk; omega)) (by omega) hb2) (by simp only [alloc_size]; omega) hb3
        clear ho3 ho2 hb2 hb3 hB2 hLeft hN hr ho hB
        have hLeft := Lib.hid (fun n => Left_any w.heap.size _ (w3.drewN n) hr3)
        have hbr : r2.length ≤ lb.length := by have := Hlen.out; omega
        have hdec : decide (rest.length ≤ r2.length) = false := by simp; omega
        have hdec2 : decide ((rest.length : Int) ≤ (r2.length : Int)) = false := by simp; omega
        have hfl : done ++ [v].flatMap putN = done ++ putN v := by simp
        rw [hfl] at ho4 hl1
        have htk : lb.take (lb.length - r2.length) = done ++ putN v := by
          have h1 := Hl.out
          rw [Hcan.out] at h1
          have h2 := congrArg List.length h1
          simp only [List.length_append] at h2
          rw [h1, ← List.append_assoc, List.take_left']
          simp only [List.length_append]; omega
        obtain ⟨m, hm⟩ : ∃ m, m = lb.length - r2.length := ⟨_, rfl⟩
        have hwrap : IntKind.i64.wrap ((lb.length : Int) - (r2.length : Int)) = (m : Int) := by rw [IntKind.wrap_i64]; omega
        have hm1 : m ≤ lb.length := by omega
        have hm2 : m ≤ cb := by omega
        have hR4 := Rd.of_own ho4
        have hR5 := Rd.take (HB.below hB3) m (by omega)
        rw [hm, htk, ← hm] at hR5
        have Hm := Lib.hid hm
        have Htk := Lib.hid htk
        have ks3 := fun n => Rd.string (w := w3.drewN n) (P := Try.prog) (dst := 9) Try.underlying23 Try.underlying5 Try.underlying9 hR4
        have ks4 := fun n => Rd.string (w := w3.drewN n) (P := Try.prog) (dst := 9) Try.underlying23 Try.underlying5 Try.underlying9 hR5
        clear hm htk hfl
        go_quiet ((go_at_call 51; exact Calls.quiet_of_same ((hLeft.out _).mono (by rintro e w4 ⟨rfl, rfl⟩; exact ⟨rfl, rfl⟩))))
        go_wp2
        refine ⟨⟨k + 1, done ++ putN v, r2, ?_, ?_, by go_num, hr3, ho4, below_drewN hB3 nq⟩, by simp only [intOf]; omega⟩
        · show lb = _
          rw [List.append_assoc, ← Hcan.out]; exact Hl.out
        · rw [List.length_append, putN_length]; omega
      · have hr20 := hend hbad trivial
        have hv0 := hzer hbad
        subst hr20 hv0
        clear hend hzer hcan hsho
        have hb0 : ((bad : Int) != 0) = true := by simpa using hbad
        go_wp2_with (first
          | (go_at_call 51; refine hLeft.out.mono ?_; rintro e w2 ⟨rfl, rfl⟩)
          | (go_at_call 39; go_must (refine hN.out.mono ?_); rintro e w2 ⟨rfl, hl2⟩; have hB2 := Lib.hid (Bad_any w.heap.size _ w2 hl2.1); clear hLeft; have hLeft := Lib.hid (Left_any w.heap.size _ w2 hl2.1))
          | (go_at_call 52; go_must (refine hB2.out.mono ?_); rintro e w3 ⟨rfl, rfl⟩)
          | (go_at_call 37; go_must (refine (one_any _).mono ?_); rintro e w4 ⟨rfl, hb4⟩))
        go_ret
        have hB3 := hB.grown hl2.2 hB.size (fun k hk => by injection hk with hk; omega)
        exact ⟨rfl, below_then hB3 hB3.size hb4⟩
    · have hr0 : rest.length = 0 := by have := Hlen.out; omega
      obtain rfl : rest = [] := List.eq_nil_of_length_eq_zero hr0
      have hd : lb = done := by have := Hl.out; simpa using this
      subst hd
      have hR4 := Rd.of_own ho
      have ks3 := Rd.string (w := wr) (P := Try.prog) (dst := 9) Try.underlying23 Try.underlying5 Try.underlying9 hR4
      have ks4 := Rd.string (w := wr) (P := Try.prog) (dst := 9) Try.underlying23 Try.underlying5 Try.underlying9 (HB.below hB)
      clear hR4 hr0
      by_cases hk4 : k < 1000
      all_goals
        go_wp2_with (first
          | (go_at_call 51; refine hLeft.out.mono ?_; rintro e w2 ⟨rfl, rfl⟩)
          | (go_at_call 37; go_must (refine (one_any _).mono ?_); rintro e w4 ⟨rfl, hb4⟩))
        go_ret
        exact ⟨rfl, below_then hB hB.size hb4⟩
end Go.Proofs.Ytmiioehiffddeaa.Lay
