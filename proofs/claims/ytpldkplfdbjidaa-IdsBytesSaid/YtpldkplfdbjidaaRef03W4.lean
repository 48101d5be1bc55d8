/- The reference of ids, walked: Of, law03.Own. -/
import Derived.Test.YtpldkplfdbjidaaRef03W3
set_option linter.unusedVariables false
set_option linter.unusedSimpArgs false
namespace Go.Proofs.Ytpldkplfdbjidaa.Ids
open Go.RowKit Go.Proofs.Ytpldkplfdbjidaa.Wd Go.Proofs.Ytpldkplfdbjidaa.Use Go.Proofs.Ytpldkplfdbjidaa.Lay

theorem W32.take {l : List Id} (h : W32 l) (k : Nat) : W32 (l.take k) := fun i hi => h i (List.mem_of_mem_take hi)
theorem rof_take_w {l : List Id} (h : W32 l) (k : Nat) : W32 (rof (l.take k)) := rof_w _ _ W32.nil (h.take k)
theorem rof_take_len (l : List Id) (k : Nat) : (rof (l.take k)).length ≤ k := by
  have := rof_len (l.take k) []
  rw [List.length_take] at this
  simp only [List.length_nil, Nat.zero_add] at this
  unfold rof; omega
set_option maxRecDepth 100000 in
set_option maxHeartbeats 8000000 in
theorem rOf_any (l : List Id) (h32 : W32 l) (hn : l.length ≤ 100000) (v : Value) (w : World) (hv : Rd w 32 v l.length (ix l)) :
    Calls Try.prog 83 #[v] w fun r w' => ∃ v', r = .returned v' ∧ Rd w' 32 v' (rof l).length (ix (rof l)) ∧ Below w.heap.size w w' := by
  obtain ⟨A, c, rfl, hc1, hc2, -⟩ := hv.slice_
  unfold maxLen at hc2
  have Hv := Lib.hid hv
  have H32 := Lib.hid h32
  obtain ⟨n, hn'⟩ : ∃ n, n = l.length := ⟨_, rfl⟩
  rw [← hn'] at Hv hc1 hn ⊢
  have Hn := Lib.hid hn'
  clear hv h32 hn'
  go_enter Try.func83, Try.ntmps83
  go_wp2_with fail
  go_loopw [3, 4] (fun o_ i_ wr => ∃ (k m : Nat) (Ao : Option Addr) (co : Nat), k ≤ n ∧ i_ = .int .i64 (k : Int) ∧ o_ = .slice Ao m co ∧ m ≤ k ∧ Hid ((rof (l.take k)).length = m) ∧ Hid (Rd wr 32 (.slice Ao m co) m (ix (rof (l.take k)))) ∧ Below w.heap.size w wr) (fun _ i_ _ => n - (intOf i_).toNat)
  case atStart => exact ⟨0, 0, none, 0, Nat.zero_le _, rfl, rfl, Nat.le_refl _, Lib.hid (by simp [rof]), Lib.hid (by simp [rof, ix, bs]; exact Rd.nil _ _), Below.refl _ _⟩
  case round =>
    obtain ⟨k, m, Ao, co, hk, rfl, rfl, hmk, Hm, Hro, hB⟩ := hrel
    by_cases hkn : k < n
    rotate_left
    · obtain rfl : k = n := by omega
      have hd1 : decide ((k : Int) < (k : Int)) = false := decide_eq_false (by omega)
      have Hl := Lib.hid (show l.take k = l from List.take_of_length_le (by rw [← Hn.out]; exact Nat.le_refl _))
      go_wp2_with fail
      go_ret
      refine ⟨_, rfl, ?_, hB⟩
      have h := Hro.out
      have h2 := Hm.out
      rw [Hl.out] at h h2
      rw [h2]; exact h
    have hd1 : decide ((k : Int) < (n : Int)) = true := decide_eq_true (by omega)
    have i0 : (0 : Int) ≤ (k : Int) := by omega
    have i1 : (k : Int) < (n : Int) := by omega
    obtain ⟨b, off, rfl, hr⟩ := ix_at (Hv.out.below hB) H32.out Hn.out (by omega)
    have hr1 := hr k hkn
    have hyl := H32.out.get k (by have := Hn.out; omega)
    have hst := rof_take l k (by have := Hn.out; omega)
    have hw := fun y (hy : y.length = 32) => rWith_any (rof (l.take k)) y (rof_take_w H32.out k) hy (by have := Hm.out; omega) (.slice Ao m co) wr (by rw [Hm.out]; exact Hro.out)
    have hlen := rof_take_len l (k + 1)
    rw [hst] at hlen
    have hw1 := hw _ hyl
    rw [← hst] at hw1 hlen
    generalize l.getD k [] = y at hr1 hyl hw1
    obtain ⟨Y, hY⟩ : ∃ Y, Y = bs y := ⟨_, rfl⟩
    have Hiy := Lib.hid (show (Try.prog.info? 22).map (·.size) = some Y.length by rw [hY, bs_length, hyl]; rfl)
    rw [← hY] at hr1 hw1
    obtain ⟨m', hm'⟩ : ∃ m', m' = (rof (l.take (k + 1))).length := ⟨_, rfl⟩
    rw [← hm'] at hw1 hlen
    have Hw1 := Lib.hid hw1
    have Hm' := Lib.hid hm'.symm
    have Hr1 := Lib.hid hr1
    clear hr hY hyl hst hw hw1 hm' hr1
    go_wp2_with (first
      | (refine wpList_load_mid rfl 22 _ rfl b (off + k * 32) rfl Y _ Hr1.out Try.underlying22 rfl Hiy.out ?_)
      | (go_at_call 126; refine Hw1.out.mono ?_; rintro r w2 ⟨v2, rfl, hr2, hb2⟩; obtain ⟨A2, c2, rfl, -, -, -⟩ := hr2.slice_; have Hr2 := Lib.hid hr2; clear hr2))
    exact ⟨⟨k + 1, m', A2, c2, by omega, by go_num, rfl, hlen, Hm', Hr2, below_go hb2 hB⟩, by simp only [intOf]; omega⟩
set_option maxRecDepth 100000 in
set_option maxHeartbeats 8000000 in
theorem Own_any (l : List Id) (h32 : W32 l) (hn : l.length ≤ 100000) (v : Value) (w : World) (hv : Rd w 32 v l.length (ix l)) :
    Calls Try.prog 30 #[v] w fun r w' => ∃ v', r = .returned v' ∧ w'.ownsRow w.heap.size 22 32 v' l.length (ix l) ∧ Below w.heap.size w w' := by
  obtain ⟨A, c, rfl, hc1, hc2, -⟩ := hv.slice_
  unfold maxLen at hc2
  have Hv := Lib.hid hv
  have H32 := Lib.hid h32
  obtain ⟨n, hn'⟩ : ∃ n, n = l.length := ⟨_, rfl⟩
  rw [← hn'] at Hv hc1 hn ⊢
  have Hn := Lib.hid hn'
  clear hv h32 hn'
  go_enter Try.func30, Try.ntmps30
  go_wp2_with fail
  go_loopw [3, 4] (fun o_ i_ wr => ∃ (k : Nat) (Ao : Option Addr) (co : Nat), k ≤ n ∧ i_ = .int .i64 (k : Int) ∧ o_ = .slice Ao k co ∧ Hid (wr.ownsRow w.heap.size 22 32 (.slice Ao k co) k (ix (l.take k))) ∧ Below w.heap.size w wr) (fun _ i_ _ => n - (intOf i_).toNat)
  case atStart => exact ⟨0, none, 0, Nat.zero_le _, rfl, rfl, Lib.hid (by simp [ix, bs]; exact own_nil _ _ _ _), Below.refl _ _⟩
  case round =>
    obtain ⟨k, Ao, co, hk, rfl, rfl, Ho, hB⟩ := hrel
    by_cases hkn : k < n
    rotate_left
    · obtain rfl : k = n := by omega
      have hd1 : decide ((k : Int) < (k : Int)) = false := decide_eq_false (by omega)
      have Hl := Lib.hid (show l.take k = l from List.take_of_length_le (by rw [← Hn.out]; exact Nat.le_refl _))
      go_wp2_with fail
      go_ret
      refine ⟨_, rfl, ?_, hB⟩
      have h := Ho.out
      rw [Hl.out] at h
      exact h
    have hd1 : decide ((k : Int) < (n : Int)) = true := decide_eq_true (by omega)
    have i0 : (0 : Int) ≤ (k : Int) := by omega
    have i1 : (k : Int) < (n : Int) := by omega
    obtain ⟨b, off, rfl, hr⟩ := ix_at (Hv.out.below hB) H32.out Hn.out (by omega)
    have hr1 := hr k hkn
    have hyl := H32.out.get k (by have := Hn.out; omega)
    have hst : ix (l.take (k + 1)) = ix (l.take k) ++ bs (l.getD k []) := by
      rw [List.take_succ_eq_append_getElem (by have := Hn.out; omega), List.getD_eq_getElem?_getD, List.getElem?_eq_getElem (by have := Hn.out; omega), ix_app]; simp [ix]
    generalize l.getD k [] = y at hr1 hyl hst
    obtain ⟨Y, hY⟩ : ∃ Y, Y = bs y := ⟨_, rfl⟩
    have Hiy := Lib.hid (show (Try.prog.info? 23).map (·.size) = some Y.length by rw [hY, bs_length, hyl]; rfl)
    have HYl := Lib.hid (show Y.length = 32 by rw [hY, bs_length, hyl])
    have Hone := Lib.hid (show ∀ u ∈ Y, u.oneCell' = true by rw [hY]; exact bs_oneCell _)
    rw [← hY] at hr1 hst
    have Hr1 := Lib.hid hr1
    have Hst := Lib.hid hst
    clear hr hY hyl hr1 hst
    go_wp2_with (first
      | (refine wpList_load_mid rfl 23 _ rfl b (off + k * 32) rfl Y _ Hr1.out Try.underlying23 rfl Hiy.out ?_)
      | (refine wpList_plain rfl (fun K hK => wp_build_one elR (by decide) _ rfl Y rfl HYl.out (hK _ _ ?_)))
      | (refine wpList_plain rfl (fun K hK => Ord.wp_app_row elR (.tmp 11) (.tmp 16) rfl w.heap.size (.slice Ao k co) _ k 1 (ix (l.take k)) Y rfl rfl Hone.out (own_alloc Ho.out (.cells Y.toArray 22)) (Rd.lit wr 32 1 Y 22 (by rw [HYl.out]) (by simp [maxLen])) (by have := hB.size; rw [alloc_size]; omega) (by omega) (fun v1 w7 ho7 hg7 hat7 => hK _ _ ?_)); obtain ⟨A7, c7, rfl, -, -, -⟩ := (Rd.of_own ho7).slice_; have Ho7 := Lib.hid ho7; have hB7 := (hB.alloc hB.size (.cells Y.toArray 22)).grown hg7 (by have := hB.size; rw [alloc_size]; omega) (fun q hq => own_base Ho.out q hq); clear ho7 hg7 hat7))
    exact ⟨⟨k + 1, A7, c7, by omega, by go_num, rfl, Lib.hid (by rw [Hst.out]; exact Ho7.out), hB7⟩, by simp only [intOf]; omega⟩
end Go.Proofs.Ytpldkplfdbjidaa.Ids
