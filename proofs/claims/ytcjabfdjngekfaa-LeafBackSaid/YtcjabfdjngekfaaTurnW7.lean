/- Leaves that turn: the reference without a key, and its halves. -/
import Derived.Test.YtcjabfdjngekfaaTurnW6
import Derived.Test.YtcjabfdjngekfaaLeafW6
import Derived.Test.YtcjabfdjngekfaaTurnW4
set_option linter.unusedVariables false
set_option linter.unusedSimpArgs false
namespace Go.Proofs.Ytcjabfdjngekfaa.Leaf
open Go.RowKit Go.Proofs.Ytcjabfdjngekfaa.Wd Go.Proofs.Ytcjabfdjngekfaa.Use Go.Proofs.Ytcjabfdjngekfaa.Lay
open Go.Proofs.Ytcjabfdjngekfaa.Rel (env_cells)

set_option maxRecDepth 100000 in
set_option maxHeartbeats 8000000 in
theorem rWithout_any (l : List L) (key : List UInt8) (v : Value) (w : World) (hv : Rd w 3 v l.length (ls l)) (hn : l.length ≤ 1000000) :
    Calls Try.prog 58 #[v, .string (str key)] w fun r w' => ∃ v', r = .returned v' ∧ Rd w' 3 v' (without l key).length (ls (without l key)) ∧ Below w.heap.size w w' := by
  obtain ⟨A, c, rfl, hc1, hc2, -⟩ := hv.slice_
  unfold maxLen at hc2
  have Hv := Lib.hid hv
  have Hlen := Lib.hid (fun j => without_le l key j)
  clear hv
  go_enter Try.func58, Try.ntmps58
  go_wp2_with fail
  go_loopw [5, 6] (fun v i wr => ∃ k : Nat, k ≤ l.length ∧ i = .int .i64 (k : Int) ∧ Hid (wr.ownsRow w.heap.size 87 3 v (without (l.take k) key).length (ls (without (l.take k) key))) ∧ Below w.heap.size w wr) (fun _ i _ => l.length - (intOf i).toNat)
  case atStart => exact ⟨0, Nat.zero_le _, rfl, Lib.hid (own_nil _ _ _ _), Below.refl _ _⟩
  case round =>
    obtain ⟨k, hkl, rfl, Ho, hB⟩ := hrel
    by_cases hkn : k < l.length
    rotate_left
    · obtain rfl : k = l.length := by omega
      have hd1 : decide ((l.length : Int) < (l.length : Int)) = false := decide_eq_false (by omega)
      go_wp2_with fail
      go_ret
      have h := Ho.out
      rw [List.take_of_length_le (Nat.le_refl _)] at h
      exact ⟨_, rfl, Rd.of_own h, hB⟩
    obtain ⟨b, off, rfl, hcell⟩ := ents_at (Hv.out.below hB) rfl (by omega)
    obtain ⟨c0, c1, c2⟩ := hcell k hkn
    have Hst := Lib.hid (without_step l key k hkn)
    have hwl := Hlen.out k
    generalize without (l.take k) key = wk at Ho Hst hwl
    generalize l.getD k L.zero = e at c0 c1 c2 Hst
    obtain ⟨ek, first, len⟩ := e
    simp only at c0 c1 c2 Hst
    have hd1 : decide ((k : Int) < (l.length : Int)) = true := decide_eq_true (by omega)
    have hj2 : (k : Int) < (l.length : Int) := by omega
    clear hcell
    cases hk : (ek == key) with
    | true =>
      have Hn := Lib.hid (show without (l.take (k + 1)) key = wk by rw [Hst.out, hk]; simp)
      go_wp2_with fail
      exact ⟨⟨k + 1, by omega, by go_num, by rw [Hn.out]; exact Ho, hB⟩, by simp only [intOf]; omega⟩
    | false =>
      have Hn := Lib.hid (show without (l.take (k + 1)) key = wk ++ [⟨ek, first, len⟩] by rw [Hst.out, hk]; simp)
      go_wp2_with (at_builtin; go_must (refine app1 elRef rfl (.tmp 20) (.tmp 25) rfl w.heap.size _ wk.length (ls wk) (L.cs ⟨ek, first, len⟩) rfl rfl rfl (by intro u hu; simp [L.cs] at hu; rcases hu with rfl | rfl | rfl <;> rfl) Ho.out hB hB.size (by omega) ?_); intro v1 w1 ho1 hB2 hg1 hat1; clear hg1 hat1)
      exact ⟨⟨k + 1, by omega, by go_num, Lib.hid (by rw [Hn.out, List.length_append, ls_append]; exact ho1), hB2⟩, by simp only [intOf]; omega⟩
set_option maxRecDepth 100000 in
set_option maxHeartbeats 8000000 in
theorem rHalves_any (l : List L) (v : Value) (w : World) (hv : Rd w 3 v l.length (ls l)) (hn : l.length ≤ 1000000) (hk : ∀ e ∈ l, e.key.length ≤ 1000000) :
    Calls Try.prog 53 #[v] w fun r w' => Below w.heap.size w w' ∧ ((rising l = false ∧ r = .returned (.tuple #[.slice none 0 0, .slice none 0 0])) ∨ (rising l = true ∧ ∃ h v1 v2, Cut l h ∧ r = .returned (.tuple #[v1, v2]) ∧ Rd w' 3 v1 (l.take h).length (ls (l.take h)) ∧ Rd w' 3 v2 (l.drop h).length (ls (l.drop h)))) := by
  have hri := Rising_any l v w hv (fun e he => by have := hk e he; unfold maxLen; omega)
  have Hsi := Lib.hid (fun W (h : Below w.heap.size w W) => rSize_any l v W (hv.below h) hn hk)
  have hkm : ∀ k, k < l.length → (l.getD k L.zero).key.length ≤ 1000000 := fun k hkl => hk _ (by rw [List.getD_eq_getElem?_getD, List.getElem?_eq_getElem hkl]; exact List.getElem_mem hkl)
  have Hle := Lib.hid (sizeTo_le l hkm)
  have Hpos := Lib.hid (sizeTo_pos l)
  obtain ⟨A, c, rfl, hc1, hc2, -⟩ := hv.slice_
  unfold maxLen at hc2
  have Hsk := Lib.hid (fun W (h : Below w.heap.size w W) k (hkl : k ≤ l.length) => (rSize_any (l.take k) (.slice A k c) W (Rd_take3 (hv.below h) rfl k hkl) (by rw [List.length_take]; omega) (fun e he => hk e (List.mem_of_mem_take he))).mono (R' := fun r w' => r = .returned (.int .i64 (sizeTo l k : Int)) ∧ Below W.heap.size W w') (by
    rintro r w' ⟨h1, h2⟩
    refine ⟨?_, h2⟩
    rw [h1, List.length_take, Nat.min_eq_left hkl, sizeTo_of_take l k hkl k (Nat.le_refl _)]))
  have Hv := Lib.hid hv
  clear hv hk hkm
  cases hr : rising l with
  | false =>
    rw [hr] at hri
    have Hri := Lib.hid hri
    clear hri
    go_enter Try.func53, Try.ntmps53
    go_wp2_with (go_at_call 87; refine Hri.out.mono ?_; rintro r w2 ⟨rfl, hb2⟩)
    go_ret2
    exact ⟨hb2, .inl ⟨trivial, rfl⟩⟩
  | true =>
    rw [hr] at hri
    have Hri := Lib.hid hri
    clear hri hr
    obtain ⟨al, hal⟩ : ∃ a, sizeTo l l.length = a + 1 := ⟨sizeTo l l.length - 1, by have := Hpos.out l.length; omega⟩
    have hall := Hle.out l.length (Nat.le_refl _)
    have Hcut := Lib.hid (fun k (h1 : k ≤ l.length) (h2 : ∀ j, j < k → 2 * (sizeTo l j - 1) < al) (h3 : k = l.length ∨ ¬ 2 * (sizeTo l k - 1) < al) => (show Cut l k from ⟨h1, by rw [hal]; exact h2, by rw [hal]; exact h3⟩))
    rw [hal] at Hsi hall
    clear hal
    go_enter Try.func53, Try.ntmps53
    go_wp2_with (go_at_call 87; refine Hri.out.mono ?_; rintro r w2 ⟨rfl, hb2⟩)
    go_loopw [4] (fun i_ wr => ∃ k : Nat, k ≤ l.length ∧ i_ = .int .i64 (k : Int) ∧ Hid (∀ j, j < k → 2 * (sizeTo l j - 1) < al) ∧ Below w.heap.size w wr) (fun i_ _ => l.length - (intOf i_).toNat)
    case atStart => exact ⟨0, Nat.zero_le _, rfl, Lib.hid (fun j hj => by omega), hb2⟩
    case round =>
      clear hb2
      obtain ⟨k, hkl, rfl, Hlo, hB⟩ := hrel
      obtain ⟨a, ha⟩ : ∃ a, sizeTo l k = a + 1 := ⟨sizeTo l k - 1, by have := Hpos.out k; omega⟩
      have hak := Hle.out k hkl
      have hsk := fun W h => Hsk.out W h k hkl
      rw [ha] at hak hsk
      have Ha := Lib.hid ha
      have Hsk2 := Lib.hid hsk
      have i0 : (0 : Int) ≤ (k : Int) := by omega
      have i1 : (k : Int) ≤ (l.length : Int) := by omega
      have i2 : (k : Int) ≤ (c : Int) := by omega
      have i3 : k ≤ l.length := by omega
      have i4 : k ≤ c := by omega
      clear ha hsk
      by_cases hgo : k < l.length ∧ 2 * a < al
      · obtain ⟨hkn, h2⟩ := hgo
        have hd1 : decide ((k : Int) < (l.length : Int)) = true := decide_eq_true (by omega)
        have hd2 : decide (2 * (a : Int) < (al : Int)) = true := decide_eq_true (by omega)
        have Hlo2 := Lib.hid (show ∀ j, j < k + 1 → 2 * (sizeTo l j - 1) < al from fun j hj => by
          rcases Nat.lt_or_ge j k with h | h
          · exact Hlo.out j h
          · obtain rfl : j = k := by omega
            rw [Ha.out]; omega)
        go_wp2_with (first
          | (go_at_call 21; refine (Hsi.out _ hB3).mono ?_; rintro r w4 ⟨rfl, hb4⟩; have hB4 := below_go hb4 hB3)
          | (go_at_call 21; refine (Hsk2.out _ hB).mono ?_; rintro r w3 ⟨rfl, hb3⟩; have hB3 := below_go hb3 hB))
        exact ⟨⟨k + 1, by omega, by go_num, Hlo2, hB4⟩, by simp only [intOf]; omega⟩
      · have Hct := Lib.hid (show Cut l k from Hcut.out k hkl Hlo.out (by
          by_cases hkn : k < l.length
          · right; rw [Ha.out]; omega
          · left; omega))
        have HA := Lib.hid (show k < l.length → ∀ b o, A = some ⟨b, o, none⟩ → (if c = k then A else Option.map (fun x => x.add (k * 3)) A) = some ⟨b, o + k * 3, none⟩ from fun h b o e => by rw [if_neg (by omega), e]; simp [add_plain])
        have Ht := Lib.hid (fun W (h : Below w.heap.size w W) => Rd_take3 (Hv.out.below h) rfl k hkl)
        have Hd := Lib.hid (fun W (h : Below w.heap.size w W) => Rd_drop3 (A' := if c = k then A else Option.map (fun x => x.add (k * 3)) A) (Hv.out.below h) rfl k hkl HA.out)
        have Hgo := Lib.hid hgo
        by_cases hkn : k < l.length
        · have hd1 : decide ((k : Int) < (l.length : Int)) = true := decide_eq_true (by omega)
          have hd2 : decide (2 * (a : Int) < (al : Int)) = false := decide_eq_false (by have := Hgo.out; omega)
          clear hgo
          go_upto_region 6 with (first
            | (go_at_call 21; refine (Hsi.out _ hB3).mono ?_; rintro r w4 ⟨rfl, hb4⟩; have hB4 := below_go hb4 hB3)
            | (go_at_call 21; refine (Hsk2.out _ hB).mono ?_; rintro r w3 ⟨rfl, hb3⟩; have hB3 := below_go hb3 hB))
          (refine Ord.wp_region_ord [(false, 0), (false, 1), (false, 2), (false, 3), (false, 4), (false, 5), (false, 6), (false, 7)] (fun W => True) (by kernel_rfl) (by kernel_rfl) (by kernel_rfl) (by kernel_rfl) (by trivial) ?_; simp only [Ord.ordOps, List.filterMap_cons, List.filterMap_nil, List.getElem?_toArray, List.getElem?_cons_succ, List.getElem?_cons_zero, Option.map_some]; repeat (first | (refine Ord.wpOrd_skip ?_ ?_; (focus (go_simp; (try (intro h; cases h)); done)); simp only [Act.put, List.setIfInBounds_toArray, List.set_cons_zero, List.set_cons_succ]) | (refine Ord.wpOrd_take (v := ?_) ?_ ?_ ?_; rotate_left; (focus (go_simp; done)); (focus (intro w' hSw; (try dsimp only at hSw); go_simp; (try with_reducible rfl); done)); simp only [Act.put, List.setIfInBounds_toArray, List.set_cons_zero, List.set_cons_succ])))
          refine Ord.wpOrd_nil ?_
          have h1 := Ht.out _ hB4.drew
          have h2 := Hd.out _ hB4.drew
          obtain ⟨A', hA'⟩ : ∃ A', A' = (if c = k then A else Option.map (fun x => x.add (k * 3)) A) := ⟨_, rfl⟩
          rw [← hA'] at h2 ⊢
          have H1 := Lib.hid h1
          have H2 := Lib.hid h2
          have hB5 := hB4.drew
          clear h1 h2 hA' HA Hd Ht
          go_wp2_with fail
          go_ret2
          exact ⟨hB5, .inr ⟨trivial, k, _, _, Hct.out, rfl, H1.out, H2.out⟩⟩
        · have hd1 : decide ((k : Int) < (l.length : Int)) = false := decide_eq_false (by omega)
          clear hgo
          go_upto_region 6 with fail
          (refine Ord.wp_region_ord [(false, 0), (false, 1), (false, 2), (false, 3), (false, 4), (false, 5), (false, 6), (false, 7)] (fun W => True) (by kernel_rfl) (by kernel_rfl) (by kernel_rfl) (by kernel_rfl) (by trivial) ?_; simp only [Ord.ordOps, List.filterMap_cons, List.filterMap_nil, List.getElem?_toArray, List.getElem?_cons_succ, List.getElem?_cons_zero, Option.map_some]; repeat (first | (refine Ord.wpOrd_skip ?_ ?_; (focus (go_simp; (try (intro h; cases h)); done)); simp only [Act.put, List.setIfInBounds_toArray, List.set_cons_zero, List.set_cons_succ]) | (refine Ord.wpOrd_take (v := ?_) ?_ ?_ ?_; rotate_left; (focus (go_simp; done)); (focus (intro w' hSw; (try dsimp only at hSw); go_simp; (try with_reducible rfl); done)); simp only [Act.put, List.setIfInBounds_toArray, List.set_cons_zero, List.set_cons_succ])))
          refine Ord.wpOrd_nil ?_
          have h1 := Ht.out _ hB.drew
          have h2 := Hd.out _ hB.drew
          obtain ⟨A', hA'⟩ : ∃ A', A' = (if c = k then A else Option.map (fun x => x.add (k * 3)) A) := ⟨_, rfl⟩
          rw [← hA'] at h2 ⊢
          have H1 := Lib.hid h1
          have H2 := Lib.hid h2
          have hB5 := hB.drew
          clear h1 h2 hA' HA Hd Ht
          go_wp2_with fail
          go_ret2
          exact ⟨hB5, .inr ⟨trivial, k, _, _, Hct.out, rfl, H1.out, H2.out⟩⟩
end Go.Proofs.Ytcjabfdjngekfaa.Leaf
