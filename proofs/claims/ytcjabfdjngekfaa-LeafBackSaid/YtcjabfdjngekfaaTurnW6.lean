/- Leaves that turn: halves. -/
import Derived.Test.YtcjabfdjngekfaaTurnW
import Derived.Test.YtcjabfdjngekfaaLeafW5
set_option linter.unusedVariables false
set_option linter.unusedSimpArgs false
namespace Go.Proofs.Ytcjabfdjngekfaa.Leaf
open Go.RowKit Go.Proofs.Ytcjabfdjngekfaa.Wd Go.Proofs.Ytcjabfdjngekfaa.Use Go.Proofs.Ytcjabfdjngekfaa.Lay
open Go.Proofs.Ytcjabfdjngekfaa.Rel (env_cells)

theorem sizeTo_le (l : List L) (hk : ∀ k, k < l.length → (l.getD k L.zero).key.length ≤ 1000000) : ∀ k, k ≤ l.length → sizeTo l k ≤ 1 + k * 1000005 := by
  intro k
  induction k with
  | zero => intro _; simp [sizeTo]
  | succ k ih => intro h; have := ih (by omega); have := hk k (by omega); rw [sizeTo]; omega
theorem Rd_take3 {w : World} {A : Option Addr} {c n : Nat} {l : List L} (h : Rd w 3 (.slice A n c) n (ls l)) (hn : n = l.length) (m : Nat) (hm : m ≤ n) : Rd w 3 (.slice A m c) (l.take m).length (ls (l.take m)) := by
  have h2 := Rd_take h m hm
  have e : ls (l.take m) = (ls l).take (m * 3) := by
    clear h h2 hm hn
    induction l generalizing m with
    | nil => simp [ls]
    | cons e l ih =>
      cases m with
      | zero => simp [ls]
      | succ i => rw [List.take_succ_cons, show (i + 1) * 3 = i * 3 + 3 by omega]; show e.cs ++ ls (l.take i) = _; rw [ih]; rfl
  rw [e, List.length_take, Nat.min_eq_left (by omega)]; exact h2
theorem ls_drop' (l : List L) (i : Nat) : ls (l.drop i) = (ls l).drop (i * 3) := by
  induction l generalizing i with
  | nil => simp [ls]
  | cons e l ih =>
    cases i with
    | zero => simp [ls]
    | succ i => rw [List.drop_succ_cons, show (i + 1) * 3 = i * 3 + 3 by omega, ih]; rfl
theorem Rd_drop3 {w : World} {A A' : Option Addr} {c n : Nat} {l : List L} (h : Rd w 3 (.slice A n c) n (ls l)) (hn : n = l.length) (m : Nat) (hm : m ≤ n) (ha : m < n → ∀ b o, A = some ⟨b, o, none⟩ → A' = some ⟨b, o + m * 3, none⟩) : Rd w 3 (.slice A' (n - m) (c - m)) (l.drop m).length (ls (l.drop m)) := by
  obtain ⟨hl, A1, c1, hA, h1, h2, h3⟩ := h
  injection hA with hA1 _ hA3
  subst hA1 hA3
  rw [List.length_drop, ← hn]
  refine ⟨by rw [ls_length, List.length_drop, ← hn], _, _, rfl, by omega, by omega, fun h0 => ?_⟩
  obtain ⟨b, off, rfl, hc⟩ := h3 (by omega)
  refine ⟨b, off + m * 3, ha (by omega) b off rfl, fun i hi => ?_⟩
  rw [Nat.add_assoc, hc (m * 3 + i) (by rw [Nat.sub_mul] at hi; omega), ls_drop', List.getElem?_drop]
set_option maxRecDepth 100000 in
set_option maxHeartbeats 8000000 in
theorem Halves_any (l : List L) (v : Value) (w : World) (hv : Rd w 3 v l.length (ls l)) (hn : l.length ≤ 1000000) (hk : ∀ e ∈ l, e.key.length ≤ 1000000) :
    Calls Try.prog 52 #[v] w fun r w' => Below w.heap.size w w' ∧ ((rising l = false ∧ r = .returned (.tuple #[.slice none 0 0, .slice none 0 0])) ∨ (rising l = true ∧ ∃ h v1 v2, Cut l h ∧ r = .returned (.tuple #[v1, v2]) ∧ Rd w' 3 v1 (l.take h).length (ls (l.take h)) ∧ Rd w' 3 v2 (l.drop h).length (ls (l.drop h)))) := by
  have hri := rising_any l v w hv (fun e he => by have := hk e he; unfold maxLen; omega)
  have Hsi := Lib.hid (fun W (h : Below w.heap.size w W) => Size_any l v W (hv.below h) hn hk)
  have hkm : ∀ k, k < l.length → (l.getD k L.zero).key.length ≤ 1000000 := fun k hkl => hk _ (by rw [List.getD_eq_getElem?_getD, List.getElem?_eq_getElem hkl]; exact List.getElem_mem hkl)
  have Hle := Lib.hid (sizeTo_le l hkm)
  have Hpos := Lib.hid (sizeTo_pos l)
  have Hkm := Lib.hid hkm
  obtain ⟨A, c, rfl, hc1, hc2, -⟩ := hv.slice_
  unfold maxLen at hc2
  have Hv := Lib.hid hv
  clear hv hk hkm
  cases hr : rising l with
  | false =>
    rw [hr] at hri
    have Hri := Lib.hid hri
    clear hri
    go_enter Try.func52, Try.ntmps52
    go_wp2_with (go_at_call 88; refine Hri.out.mono ?_; rintro r w2 ⟨rfl, hb2⟩)
    go_ret2
    exact ⟨hb2, .inl ⟨trivial, rfl⟩⟩
  | true =>
    rw [hr] at hri
    have Hri := Lib.hid hri
    clear hri hr
    obtain ⟨al, hal⟩ : ∃ a, sizeTo l l.length = a + 1 := ⟨sizeTo l l.length - 1, by have := Hpos.out l.length; omega⟩
    have hall := Hle.out l.length (Nat.le_refl _)
    have Hcut := Lib.hid (fun k (h1 : k ≤ l.length) (h2 : ∀ j, j < k → 2 * (sizeTo l j - 1) < al) (h3 : k = l.length ∨ ¬ 2 * (sizeTo l k - 1) < al) => (show Cut l k from ⟨h1, by rw [hal]; exact h2, by rw [hal]; exact h3⟩))
    rw [hal] at Hsi hall
    clear hal
    go_enter Try.func52, Try.ntmps52
    go_wp2_with (first
      | (go_at_call 88; refine Hri.out.mono ?_; rintro r w2 ⟨rfl, hb2⟩)
      | (go_at_call 20; refine (Hsi.out _ hb2).mono ?_; rintro r w3 ⟨rfl, hb3⟩; have hB3 := below_go hb3 hb2))
    go_loopw [4, 6] (fun i_ h_ wr => ∃ k a : Nat, k ≤ l.length ∧ i_ = .int .i64 (k : Int) ∧ h_ = .int .i64 (a : Int) ∧ Hid (sizeTo l k = a + 1) ∧ Hid (∀ j, j < k → 2 * (sizeTo l j - 1) < al) ∧ Below w.heap.size w wr) (fun i_ _ _ => l.length - (intOf i_).toNat)
    case atStart => exact ⟨0, 0, Nat.zero_le _, rfl, rfl, Lib.hid rfl, Lib.hid (fun j hj => by omega), hB3⟩
    case round =>
      clear hB3 hb2 hb3
      obtain ⟨k, a, hkl, rfl, rfl, Ha, Hlo, hB⟩ := hrel
      have ha := Ha.out
      have hak := Hle.out k hkl
      rw [ha] at hak
      clear ha
      by_cases hgo : k < l.length ∧ 2 * a < al
      · obtain ⟨hkn, h2⟩ := hgo
        have hd1 : decide ((k : Int) < (l.length : Int)) = true := decide_eq_true (by omega)
        have hd2 : decide (2 * (a : Int) < (al : Int)) = true := decide_eq_true (by omega)
        obtain ⟨b, off, rfl, hcell⟩ := ents_at (Hv.out.below hB) rfl (by omega)
        obtain ⟨c0, -, -⟩ := hcell k hkn
        have hkk := Hkm.out k hkn
        have Hsu := Lib.hid (show sizeTo l (k + 1) = a + (5 + (l.getD k L.zero).key.length) + 1 by rw [sizeTo, Ha.out]; omega)
        have Hlo2 := Lib.hid (show ∀ j, j < k + 1 → 2 * (sizeTo l j - 1) < al from fun j hj => by
          rcases Nat.lt_or_ge j k with h | h
          · exact Hlo.out j h
          · obtain rfl : j = k := by omega
            rw [Ha.out]; omega)
        generalize (l.getD k L.zero).key = key at c0 hkk Hsu
        have hss := str_size key
        have hj2 : (k : Int) < (l.length : Int) := by omega
        clear hcell
        go_wp2_with fail
        exact ⟨⟨k + 1, a + (5 + key.length), by omega, by go_num, by go_num, Hsu, Hlo2, hB⟩, by simp only [intOf]; omega⟩
      · have Hct := Lib.hid (show Cut l k from Hcut.out k hkl Hlo.out (by
          by_cases hkn : k < l.length
          · right; rw [Ha.out]; omega
          · left; omega))
        have hv2 := Hv.out.below hB
        have Ht := Lib.hid (fun W (h : Below wr.heap.size wr W) => Clone_any (l.take k) _ W (Rd_take3 (hv2.below h) rfl k hkl) (by rw [List.length_take]; omega))
        have Hd := Lib.hid (fun W (A' : Option Addr) (h : Below wr.heap.size wr W) (ha : k < l.length → ∀ b o, A = some ⟨b, o, none⟩ → A' = some ⟨b, o + k * 3, none⟩) => Clone_any (l.drop k) _ W (Rd_drop3 (hv2.below h) rfl k hkl ha) (by rw [List.length_drop]; omega))
        clear hv2
        have Hgo := Lib.hid hgo
        by_cases hkn : k < l.length
        · have hd1 : decide ((k : Int) < (l.length : Int)) = true := decide_eq_true (by omega)
          have hd2 : decide (2 * (a : Int) < (al : Int)) = false := decide_eq_false (by have := Hgo.out; omega)
          clear hgo
          go_upto_region 8 with fail
          have i0 : (0 : Int) ≤ (k : Int) := by omega
          have i1 : (k : Int) ≤ (l.length : Int) := by omega
          have i2 : (k : Int) ≤ (c : Int) := by omega
          have i3 : k ≤ l.length := by omega
          have i4 : k ≤ c := by omega
          have HA := Lib.hid (show k < l.length → ∀ b o, A = some ⟨b, o, none⟩ → (if c = k then A else Option.map (fun x => x.add (k * 3)) A) = some ⟨b, o + k * 3, none⟩ from fun h b o e => by rw [if_neg (by omega), e]; simp [add_plain])
          (refine Ord.wp_region_ord [(false, 0), (false, 1), (false, 2), (false, 4), (false, 5), (false, 6), (true, 3), (true, 7), (false, 8), (false, 9)] (fun W => True) (by kernel_rfl) (by kernel_rfl) (by kernel_rfl) (by kernel_rfl) (by trivial) ?_; simp only [Ord.ordOps, List.filterMap_cons, List.filterMap_nil, List.getElem?_toArray, List.getElem?_cons_succ, List.getElem?_cons_zero, Option.map_some]; repeat (first | (refine Ord.wpOrd_skip ?_ ?_; (focus (go_simp; (try (intro h; cases h)); done)); simp only [Act.put, List.setIfInBounds_toArray, List.set_cons_zero, List.set_cons_succ]) | (refine Ord.wpOrd_take (v := ?_) ?_ ?_ ?_; rotate_left; (focus (go_simp; done)); (focus (intro w' hSw; (try dsimp only at hSw); go_simp; (try with_reducible rfl); done)); simp only [Act.put, List.setIfInBounds_toArray, List.set_cons_zero, List.set_cons_succ])))
          (refine Ord.wpOrd_call ?_ (fun K hK => ?_); (focus (go_simp; done)); go_simp)
          go_at_call 117
          refine (Ht.out _ (Below.refl _ _).drew).mono ?_
          rintro r w5 ⟨v1, rfl, ho1, hb5⟩
          have hb5' := below_go hb5 (Below.refl _ _).drew
          have Hr1 := Lib.hid (Rd.of_own ho1)
          clear ho1 hb5
          (refine hK _ _ (by trivial) ?_; clear hK K; (try simp only [Act.put, List.setIfInBounds_toArray, List.set_cons_zero, List.set_cons_succ]); repeat (first | (refine Ord.wpOrd_skip ?_ ?_; (focus (go_simp; (try (intro h; cases h)); done)); simp only [Act.put, List.setIfInBounds_toArray, List.set_cons_zero, List.set_cons_succ]) | (refine Ord.wpOrd_take (v := ?_) ?_ ?_ ?_; rotate_left; (focus (go_simp; done)); (focus (intro w' hSw; (try dsimp only at hSw); go_simp; (try with_reducible rfl); done)); simp only [Act.put, List.setIfInBounds_toArray, List.set_cons_zero, List.set_cons_succ])))
          (refine Ord.wpOrd_call ?_ (fun K hK => ?_); (focus (go_simp; done)); go_simp)
          go_at_call 117
          refine (Hd.out _ _ hb5' HA.out).mono ?_
          rintro r w6 ⟨v2, rfl, ho2, hb6⟩
          have Hr2 := Lib.hid (Rd.of_own ho2)
          have Hr1' := Lib.hid (Hr1.out.below hb6)
          have hB6 := below_go (below_go hb6 hb5') hB
          clear ho2 hb6 hb5' Hr1
          (refine hK _ _ (by trivial) ?_; clear hK K; (try simp only [Act.put, List.setIfInBounds_toArray, List.set_cons_zero, List.set_cons_succ]); repeat (first | (refine Ord.wpOrd_skip ?_ ?_; (focus (go_simp; (try (intro h; cases h)); done)); simp only [Act.put, List.setIfInBounds_toArray, List.set_cons_zero, List.set_cons_succ]) | (refine Ord.wpOrd_take (v := ?_) ?_ ?_ ?_; rotate_left; (focus (go_simp; done)); (focus (intro w' hSw; (try dsimp only at hSw); go_simp; (try with_reducible rfl); done)); simp only [Act.put, List.setIfInBounds_toArray, List.set_cons_zero, List.set_cons_succ])))
          refine Ord.wpOrd_nil ?_
          go_wp2_with fail
          all_goals (go_ret2; exact ⟨hB6, k, Hct.out, v1, v2, rfl, by simpa using Hr1'.out, by simpa using Hr2.out⟩)
        · have hd1 : decide ((k : Int) < (l.length : Int)) = false := decide_eq_false (by omega)
          clear hgo
          go_upto_region 8 with fail
          have i0 : (0 : Int) ≤ (k : Int) := by omega
          have i1 : (k : Int) ≤ (l.length : Int) := by omega
          have i2 : (k : Int) ≤ (c : Int) := by omega
          have i3 : k ≤ l.length := by omega
          have i4 : k ≤ c := by omega
          have HA := Lib.hid (show k < l.length → ∀ b o, A = some ⟨b, o, none⟩ → (if c = k then A else Option.map (fun x => x.add (k * 3)) A) = some ⟨b, o + k * 3, none⟩ from fun h b o e => by rw [if_neg (by omega), e]; simp [add_plain])
          (refine Ord.wp_region_ord [(false, 0), (false, 1), (false, 2), (false, 4), (false, 5), (false, 6), (true, 3), (true, 7), (false, 8), (false, 9)] (fun W => True) (by kernel_rfl) (by kernel_rfl) (by kernel_rfl) (by kernel_rfl) (by trivial) ?_; simp only [Ord.ordOps, List.filterMap_cons, List.filterMap_nil, List.getElem?_toArray, List.getElem?_cons_succ, List.getElem?_cons_zero, Option.map_some]; repeat (first | (refine Ord.wpOrd_skip ?_ ?_; (focus (go_simp; (try (intro h; cases h)); done)); simp only [Act.put, List.setIfInBounds_toArray, List.set_cons_zero, List.set_cons_succ]) | (refine Ord.wpOrd_take (v := ?_) ?_ ?_ ?_; rotate_left; (focus (go_simp; done)); (focus (intro w' hSw; (try dsimp only at hSw); go_simp; (try with_reducible rfl); done)); simp only [Act.put, List.setIfInBounds_toArray, List.set_cons_zero, List.set_cons_succ])))
          (refine Ord.wpOrd_call ?_ (fun K hK => ?_); (focus (go_simp; done)); go_simp)
          go_at_call 117
          refine (Ht.out _ (Below.refl _ _).drew).mono ?_
          rintro r w5 ⟨v1, rfl, ho1, hb5⟩
          have hb5' := below_go hb5 (Below.refl _ _).drew
          have Hr1 := Lib.hid (Rd.of_own ho1)
          clear ho1 hb5
          (refine hK _ _ (by trivial) ?_; clear hK K; (try simp only [Act.put, List.setIfInBounds_toArray, List.set_cons_zero, List.set_cons_succ]); repeat (first | (refine Ord.wpOrd_skip ?_ ?_; (focus (go_simp; (try (intro h; cases h)); done)); simp only [Act.put, List.setIfInBounds_toArray, List.set_cons_zero, List.set_cons_succ]) | (refine Ord.wpOrd_take (v := ?_) ?_ ?_ ?_; rotate_left; (focus (go_simp; done)); (focus (intro w' hSw; (try dsimp only at hSw); go_simp; (try with_reducible rfl); done)); simp only [Act.put, List.setIfInBounds_toArray, List.set_cons_zero, List.set_cons_succ])))
          (refine Ord.wpOrd_call ?_ (fun K hK => ?_); (focus (go_simp; done)); go_simp)
          go_at_call 117
          refine (Hd.out _ _ hb5' HA.out).mono ?_
          rintro r w6 ⟨v2, rfl, ho2, hb6⟩
          have Hr2 := Lib.hid (Rd.of_own ho2)
          have Hr1' := Lib.hid (Hr1.out.below hb6)
          have hB6 := below_go (below_go hb6 hb5') hB
          clear ho2 hb6 hb5' Hr1
          (refine hK _ _ (by trivial) ?_; clear hK K; (try simp only [Act.put, List.setIfInBounds_toArray, List.set_cons_zero, List.set_cons_succ]); repeat (first | (refine Ord.wpOrd_skip ?_ ?_; (focus (go_simp; (try (intro h; cases h)); done)); simp only [Act.put, List.setIfInBounds_toArray, List.set_cons_zero, List.set_cons_succ]) | (refine Ord.wpOrd_take (v := ?_) ?_ ?_ ?_; rotate_left; (focus (go_simp; done)); (focus (intro w' hSw; (try dsimp only at hSw); go_simp; (try with_reducible rfl); done)); simp only [Act.put, List.setIfInBounds_toArray, List.set_cons_zero, List.set_cons_succ])))
          refine Ord.wpOrd_nil ?_
          go_wp2_with fail
          all_goals (go_ret2; exact ⟨hB6, k, Hct.out, v1, v2, rfl, by simpa using Hr1'.out, by simpa using Hr2.out⟩)
end Go.Proofs.Ytcjabfdjngekfaa.Leaf
