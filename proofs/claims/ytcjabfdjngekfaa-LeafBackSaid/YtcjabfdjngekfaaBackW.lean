/- Leaves that come back: together; Right, of whatever keys. -/
import Derived.Test.YtcjabfdjngekfaaBackPure
import Derived.Test.YtcjabfdjngekfaaTurnW6
set_option linter.unusedVariables false
set_option linter.unusedSimpArgs false
namespace Go.Proofs.Ytcjabfdjngekfaa.Leaf
open Go.RowKit Go.Proofs.Ytcjabfdjngekfaa.Wd Go.Proofs.Ytcjabfdjngekfaa.Use Go.Proofs.Ytcjabfdjngekfaa.Lay
open Go.Proofs.Ytcjabfdjngekfaa.Rel (env_cells)

theorem rising_keys {l : List L} (h : rising l = true) : ∀ e ∈ l, e.key.length ≤ 1000000 := by
  intro e he
  obtain ⟨j, hj, rfl⟩ := List.mem_iff_getElem.1 he
  have h1 := ((rising_iff l).1 h).1 j hj
  rw [List.getD_eq_getElem?_getD, List.getElem?_eq_getElem hj, Option.getD_some] at h1
  simp only [L.right, Bool.and_eq_true, decide_eq_true_eq] at h1
  omega
set_option maxRecDepth 100000 in
set_option maxHeartbeats 4000000 in
theorem Right_wide (l : List L) (v : Value) (w : World) (hv : Rd w 3 v l.length (ls l)) (hn : l.length ≤ 1000000) (hk : ∀ e ∈ l, e.key.length ≤ maxLen) :
    Calls Try.prog 19 #[v] w fun r w' => r = .returned (.bool (right l)) ∧ Below w.heap.size w w' := by
  cases hr : rising l with
  | true => exact Right_any l v w hv hn (rising_keys hr)
  | false =>
    have hri := rising_any l v w hv hk
    have hrt : right l = false := by rw [right, hr]; rfl
    rw [hrt]
    rw [hr] at hri
    obtain ⟨A, c, rfl, hc1, hc2, -⟩ := hv.slice_
    have Hri := Lib.hid hri
    clear hri hr hv hk hrt
    go_enter Try.func19, Try.ntmps19
    go_wp2_with (go_at_call 88; refine Hri.out.mono ?_; rintro r w2 ⟨rfl, hB⟩)
    go_ret
    exact ⟨rfl, hB⟩
set_option maxRecDepth 100000 in
set_option maxHeartbeats 8000000 in
theorem together_any (l : List L) (h : Nat) (v1 v2 v3 : Value) (w : World) (hT : Two l h) (hr : rising l = true) (hF : F l ≤ 300) (hn : l.length ≤ 1000) (h1 : Rd w 3 v1 (l.take h).length (ls (l.take h))) (h2 : Rd w 3 v2 (l.drop h).length (ls (l.drop h))) (h3 : Rd w 3 v3 l.length (ls l)) :
    Calls Try.prog 59 #[v1, v2, v3] w fun r w' => r = .returned (.bool true) ∧ Below w.heap.size w w' := by
  have hle0 := hT.le
  have hk := rising_keys hr
  have hkt : ∀ e ∈ l.take h, e.key.length ≤ 1000000 := fun e he => hk e (List.mem_of_mem_take he)
  have hkd : ∀ e ∈ l.drop h, e.key.length ≤ 1000000 := fun e he => hk e (List.mem_of_mem_drop he)
  have hlt : (l.take h).length = h := by rw [List.length_take]; have := hT.le; omega
  have hld : (l.drop h).length = l.length - h := List.length_drop
  have S1 := fun W (hb : Below w.heap.size w W) => Size_any (l.take h) v1 W (h1.below hb) (by omega) hkt
  have S2 := fun W (hb : Below w.heap.size w W) => Size_any (l.drop h) v2 W (h2.below hb) (by omega) hkd
  have S3 := fun W (hb : Below w.heap.size w W) => Size_any l v3 W (h3.below hb) (by omega) hk
  simp only [F_size] at S1 S2 S3
  obtain ⟨A1, c1, rfl, ha1, ha2, -⟩ := h1.slice_
  obtain ⟨A2, c2, rfl, hb1, hb2, -⟩ := h2.slice_
  obtain ⟨A3, c3, rfl, hc1, hc2, -⟩ := h3.slice_
  unfold maxLen at ha2 hb2 hc2
  have hpa := F_parts l h
  have hmo := hT.more
  have hla := hT.last
  have hfi := hT.fit
  have hpo := hT.pos
  have hle := hT.le
  have Hg1 := Lib.hid (fun i (hi : i < h) => getD_take l h i hi)
  have Hg2 := Lib.hid (fun i => getD_drop l h i)
  have Hky := Lib.hid (show ky l (h - 1) = (l.getD (h - 1) L.zero).key from rfl)
  rw [hlt] at h1 S1 ha1 ⊢
  rw [hld] at h2 S2 hb1 ⊢
  generalize F (l.take h) = fp at *
  generalize F (l.drop h) = fq at *
  generalize F l = fl at *
  generalize hkz : (ky l (h - 1)).length = kz at hla hfi
  have Hkz := Lib.hid hkz
  have T1 := Lib.hid S1
  have T2 := Lib.hid S2
  have T3 := Lib.hid S3
  have Hlt := Lib.hid hlt
  have Hld := Lib.hid hld
  have R1 := Lib.hid h1
  have R2 := Lib.hid h2
  have R3 := Lib.hid h3
  obtain ⟨n, hn'⟩ : ∃ n, n = l.length := ⟨_, rfl⟩
  have Hn := Lib.hid hn'
  rw [← hn'] at hle hn R3 hb1 hc1 R2 T2 T3 ⊢
  clear hle0 hk hkt hkd S1 S2 S3 hT hr h1 h2 h3 hlt hld hkz hn'
  have hd1 : ((h : Int) + ((n - h : Nat) : Int) != (n : Int)) = false := by rw [bne_eq_false_iff_eq]; omega
  have hd2 : decide (fp < fq) = false := decide_eq_false (by omega)
  go_enter Try.func59, Try.ntmps59
  go_wp2_with (first
    | (go_at_call 20; refine (T2.out _ hbB).mono ?_; rintro r w3 ⟨rfl, hb⟩; have hbC := below_go hb hbB; clear hb)
    | (go_at_call 20; refine (T1.out _ (Below.refl _ _)).mono ?_; rintro r w2 ⟨rfl, hbB⟩))
  go_loopw [7] (fun i_ wr => ∃ i : Nat, i ≤ n ∧ i_ = .int .i64 (i : Int) ∧ Below w.heap.size w wr) (fun i_ _ => n - (intOf i_).toNat)
  case atStart => exact ⟨0, Nat.zero_le _, rfl, hbC⟩
  case round =>
    clear hbC hbB
    obtain ⟨i, hin, rfl, hB⟩ := hrel
    by_cases hi : i < n
    rotate_left
    · obtain rfl : i = n := by omega
      have hd3 : decide ((i : Int) < (i : Int)) = false := decide_eq_false (by omega)
      obtain ⟨b1, o1, rfl, hcell⟩ := ents_at (R1.out.below hB) Hlt.out.symm hpo
      obtain ⟨d0, -, -⟩ := hcell (h - 1) (by omega)
      rw [Hg1.out (h - 1) (by omega), ← Hky.out] at d0
      have hkz := Hkz.out
      generalize ky l (h - 1) = kk at d0 hkz
      have hss := str_size kk
      have q1 : ((h : Int) - 1).toNat = h - 1 := by omega
      have q2 : IntKind.i64.wrap ((h : Int) - 1) = (h : Int) - 1 := by rw [IntKind.wrap_i64]; omega
      have q3 : (0 : Int) ≤ (h : Int) - 1 := by omega
      have q4 : (h : Int) - 1 < (h : Int) := by omega
      have q5 : decide ((0 : Int) < (h : Int)) = true := decide_eq_true (by omega)
      have q6 : 0 < h := hpo
      have q7 : 1 ≤ h := hpo
      have q8 : (1 : Int) ≤ (h : Int) := by omega
      go_upto_region 8 with fail
      (refine Ord.wp_region_ord [(false, 0), (false, 1), (false, 2), (false, 3), (false, 4), (false, 8), (false, 9), (false, 10), (false, 11), (false, 12), (false, 13), (false, 14), (false, 15), (false, 18), (true, 5), (false, 6), (false, 7), (false, 16), (false, 17), (true, 19), (false, 20), (false, 21), (false, 22), (false, 23)] (fun W => W.cell? ⟨b1, o1 + (h - 1) * 3, none⟩ = some (.string (str kk))) (by kernel_rfl) (by kernel_rfl) (by kernel_rfl) (by kernel_rfl) (by exact d0) ?_; simp only [Ord.ordOps, List.filterMap_cons, List.filterMap_nil, List.getElem?_toArray, List.getElem?_cons_succ, List.getElem?_cons_zero, Option.map_some]; repeat (first | (refine Ord.wpOrd_skip ?_ ?_; (focus (go_simp; (try (intro h; cases h)); done)); simp only [Act.put, List.setIfInBounds_toArray, List.set_cons_zero, List.set_cons_succ]) | (refine Ord.wpOrd_take (v := ?_) ?_ ?_ ?_; rotate_left; (focus (go_simp; done)); (focus (intro w' hSw; (try dsimp only at hSw); go_simp; (try with_reducible rfl); done)); simp only [Act.put, List.setIfInBounds_toArray, List.set_cons_zero, List.set_cons_succ])))
      (refine Ord.wpOrd_call ?_ (fun K hK => ?_); (focus (go_simp; done)); go_simp)
      go_at_call 20
      refine (T1.out _ hB.drew).mono ?_
      rintro r w5 ⟨rfl, hb5⟩
      have hb5' := below_go hb5 (Below.refl _ _).drew
      have w1 : IntKind.i64.wrap (1 + (fp : Int) - 1) = (fp : Int) := by rw [IntKind.wrap_i64]; omega
      have w1' : IntKind.i64.wrap (fp : Int) = (fp : Int) := by rw [IntKind.wrap_i64]; omega
      have w2 : IntKind.i64.wrap ((fp : Int) - 5) = (fp : Int) - 5 := by rw [IntKind.wrap_i64]; omega
      have w3 : IntKind.i64.wrap ((fp : Int) - 5 - (kz : Int)) = (fp : Int) - 5 - (kz : Int) := by rw [IntKind.wrap_i64]; omega
      have w4 : IntKind.i64.wrap (2 * ((fp : Int) - 5 - (kz : Int))) = 2 * ((fp : Int) - 5 - (kz : Int)) := by rw [IntKind.wrap_i64]; omega
      have w5' : IntKind.i64.wrap (1 + (fl : Int) - 1) = (fl : Int) := by rw [IntKind.wrap_i64]; omega
      have w6 : IntKind.i64.wrap (fl : Int) = (fl : Int) := by rw [IntKind.wrap_i64]; omega
      have w7 : decide (2 * ((fp : Int) - 5 - (kz : Int)) < (fl : Int)) = true := decide_eq_true (by omega)
      (refine hK _ _ (by exact cell_below hb5' d0) ?_; clear hK K; (try simp only [Act.put, List.setIfInBounds_toArray, List.set_cons_zero, List.set_cons_succ]); repeat (first | (refine Ord.wpOrd_skip ?_ ?_; (focus (go_simp; (try (intro h; cases h)); done)); simp only [Act.put, List.setIfInBounds_toArray, List.set_cons_zero, List.set_cons_succ]) | (refine Ord.wpOrd_take (v := ?_) ?_ ?_ ?_; rotate_left; (focus (go_simp; done)); (focus (intro w' hSw; (try dsimp only at hSw); go_simp; (try with_reducible rfl); done)); simp only [Act.put, List.setIfInBounds_toArray, List.set_cons_zero, List.set_cons_succ])))
      (refine Ord.wpOrd_call ?_ (fun K hK => ?_); (focus (go_simp; done)); go_simp)
      go_at_call 20
      refine (T3.out _ (below_go hb5' hB)).mono ?_
      rintro r w6 ⟨rfl, hb6⟩
      have hb6' := below_go hb6 hb5'
      (refine hK _ _ (by exact cell_below hb6' d0) ?_; clear hK K; (try simp only [Act.put, List.setIfInBounds_toArray, List.set_cons_zero, List.set_cons_succ]); repeat (first | (refine Ord.wpOrd_skip ?_ ?_; (focus (go_simp; (try (intro h; cases h)); done)); simp only [Act.put, List.setIfInBounds_toArray, List.set_cons_zero, List.set_cons_succ]) | (refine Ord.wpOrd_take (v := ?_) ?_ ?_ ?_; rotate_left; (focus (go_simp; done)); (focus (intro w' hSw; (try dsimp only at hSw); go_simp; (try with_reducible rfl); done)); simp only [Act.put, List.setIfInBounds_toArray, List.set_cons_zero, List.set_cons_succ])))
      refine Ord.wpOrd_nil ?_
      go_wp2_with fail
      go_ret
      exact ⟨rfl, below_go hb6' hB⟩
    have hd3 : decide ((i : Int) < (n : Int)) = true := decide_eq_true (by omega)
    obtain ⟨b3, o3, rfl, hcell3⟩ := ents_at (R3.out.below hB) Hn.out (by omega)
    obtain ⟨d0, d1, d2⟩ := hcell3 i (by omega)
    have q1 : (0 : Int) ≤ (i : Int) := by omega
    have q2 : (i : Int) < (n : Int) := by omega
    clear hcell3
    by_cases hih : i < h
    · have hd4 : decide ((i : Int) < (h : Int)) = true := decide_eq_true (by omega)
      have hd5 : decide ((h : Int) ≤ (i : Int)) = false := decide_eq_false (by omega)
      obtain ⟨b1, o1, rfl, hcell⟩ := ents_at (R1.out.below hB) Hlt.out.symm hpo
      obtain ⟨e0, e1, e2⟩ := hcell i (by omega)
      rw [Hg1.out i hih] at e0 e1 e2
      generalize l.getD i L.zero = e at d0 d1 d2 e0 e1 e2
      obtain ⟨ek, first, len⟩ := e
      simp only at d0 d1 d2 e0 e1 e2
      have q3 : (i : Int) < (h : Int) := by omega
      clear hcell
      go_upto_region 6 with fail
      (refine Ord.wp_region_ord [(false, 0), (false, 1), (false, 2), (false, 3), (false, 4), (false, 5), (false, 6), (false, 7), (false, 8), (false, 9), (false, 10), (false, 11), (false, 12), (false, 13), (false, 14), (false, 15), (false, 16), (false, 17), (false, 18), (false, 19), (false, 20), (false, 21), (false, 22), (false, 23), (false, 24), (false, 25), (false, 26), (false, 27), (false, 28), (false, 29), (false, 30), (false, 31), (false, 32), (false, 33), (false, 34)] (fun W => (W.cell? ⟨b1, o1 + i * 3, none⟩ = some (.string (str ek)) ∧ W.cell? ⟨b1, o1 + i * 3 + 1, none⟩ = some (.int .i64 first) ∧ W.cell? ⟨b1, o1 + i * 3 + 2, none⟩ = some (.int .i64 len)) ∧ (W.cell? ⟨b3, o3 + i * 3, none⟩ = some (.string (str ek)) ∧ W.cell? ⟨b3, o3 + i * 3 + 1, none⟩ = some (.int .i64 first) ∧ W.cell? ⟨b3, o3 + i * 3 + 2, none⟩ = some (.int .i64 len))) (by kernel_rfl) (by kernel_rfl) (by kernel_rfl) (by kernel_rfl) (by exact ⟨⟨e0, e1, e2⟩, d0, d1, d2⟩) ?_; simp only [Ord.ordOps, List.filterMap_cons, List.filterMap_nil, List.getElem?_toArray, List.getElem?_cons_succ, List.getElem?_cons_zero, Option.map_some]; repeat (first | (refine Ord.wpOrd_skip ?_ ?_; (focus (go_simp; (try (intro h; cases h)); done)); simp only [Act.put, List.setIfInBounds_toArray, List.set_cons_zero, List.set_cons_succ]) | (refine Ord.wpOrd_take (v := ?_) ?_ ?_ ?_; rotate_left; (focus (go_simp; done)); (focus (intro w' hSw; (try dsimp only at hSw); go_simp; (try with_reducible rfl); done)); simp only [Act.put, List.setIfInBounds_toArray, List.set_cons_zero, List.set_cons_succ])))
      refine Ord.wpOrd_nil ?_
      go_wp2_with fail
      exact ⟨⟨i + 1, by omega, by go_num, hB.drew⟩, by simp only [intOf]; omega⟩
    · have hd4 : decide ((i : Int) < (h : Int)) = false := decide_eq_false (by omega)
      have hd5 : decide ((h : Int) ≤ (i : Int)) = true := decide_eq_true (by omega)
      obtain ⟨b2, o2, rfl, hcell⟩ := ents_at (R2.out.below hB) (by rw [Hld.out, Hn.out]) (by omega)
      obtain ⟨e0, e1, e2⟩ := hcell (i - h) (by omega)
      rw [Hg2.out (i - h), show h + (i - h) = i by omega] at e0 e1 e2
      generalize l.getD i L.zero = e at d0 d1 d2 e0 e1 e2
      obtain ⟨ek, first, len⟩ := e
      simp only at d0 d1 d2 e0 e1 e2
      have q3 : IntKind.i64.wrap ((i : Int) - (h : Int)) = (i : Int) - (h : Int) := by rw [IntKind.wrap_i64]; omega
      have q4 : ((i : Int) - (h : Int)).toNat = i - h := by omega
      have q5 : (0 : Int) ≤ (i : Int) - (h : Int) := by omega
      have q6 : (h : Int) ≤ (i : Int) := by omega
      have q7 : h ≤ i := by omega
      have q8 : (i : Int) - (h : Int) < ((n - h : Nat) : Int) := by omega
      clear hcell
      go_upto_region 6 with fail
      (refine Ord.wp_region_ord [(false, 0), (false, 1), (false, 2), (false, 3), (false, 4), (false, 5), (false, 6), (false, 7), (false, 8), (false, 9), (false, 10), (false, 11), (false, 12), (false, 13), (false, 14), (false, 15), (false, 16), (false, 17), (false, 18), (false, 19), (false, 20), (false, 21), (false, 22), (false, 23), (false, 24), (false, 25), (false, 26), (false, 27), (false, 28), (false, 29), (false, 30), (false, 31), (false, 32), (false, 33), (false, 34)] (fun W => (W.cell? ⟨b2, o2 + (i - h) * 3, none⟩ = some (.string (str ek)) ∧ W.cell? ⟨b2, o2 + (i - h) * 3 + 1, none⟩ = some (.int .i64 first) ∧ W.cell? ⟨b2, o2 + (i - h) * 3 + 2, none⟩ = some (.int .i64 len)) ∧ (W.cell? ⟨b3, o3 + i * 3, none⟩ = some (.string (str ek)) ∧ W.cell? ⟨b3, o3 + i * 3 + 1, none⟩ = some (.int .i64 first) ∧ W.cell? ⟨b3, o3 + i * 3 + 2, none⟩ = some (.int .i64 len))) (by kernel_rfl) (by kernel_rfl) (by kernel_rfl) (by kernel_rfl) (by exact ⟨⟨e0, e1, e2⟩, d0, d1, d2⟩) ?_; simp only [Ord.ordOps, List.filterMap_cons, List.filterMap_nil, List.getElem?_toArray, List.getElem?_cons_succ, List.getElem?_cons_zero, Option.map_some]; repeat (first | (refine Ord.wpOrd_skip ?_ ?_; (focus (go_simp; (try (intro h; cases h)); done)); simp only [Act.put, List.setIfInBounds_toArray, List.set_cons_zero, List.set_cons_succ]) | (refine Ord.wpOrd_take (v := ?_) ?_ ?_ ?_; rotate_left; (focus (go_simp; done)); (focus (intro w' hSw; (try dsimp only at hSw); go_simp; (try with_reducible rfl); done)); simp only [Act.put, List.setIfInBounds_toArray, List.set_cons_zero, List.set_cons_succ])))
      refine Ord.wpOrd_nil ?_
      go_wp2_with fail
      exact ⟨⟨i + 1, by omega, by go_num, hB.drew⟩, by simp only [intOf]; omega⟩
end Go.Proofs.Ytcjabfdjngekfaa.Leaf
