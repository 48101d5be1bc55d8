/- The law LeafTurns, walked. -/
import Derived.Test.YtcjabfdjngekfaaTurnW5
import Derived.Test.YtcjabfdjngekfaaTurnW8
import Derived.Test.YtcjabfdjngekfaaLeafBytes
set_option linter.unusedVariables false
set_option linter.unusedSimpArgs false
namespace Go.Proofs.Ytcjabfdjngekfaa.Leaf
open Go.RowKit Go.Proofs.Ytcjabfdjngekfaa.Wd Go.Proofs.Ytcjabfdjngekfaa.Use Go.Proofs.Ytcjabfdjngekfaa.Lay
open Go.Proofs.Ytcjabfdjngekfaa.Rel (env_cells)

theorem cnt_le (l : List L) (key : List UInt8) (n : Nat) : cnt l key n ≤ n := by
  induction n with
  | zero => exact Nat.le_refl _
  | succ n ih => rw [cnt]; split <;> omega
/-- two halves, or none -/
def HalfOf (l a b : List L) : Prop := (rising l = false ∧ a = [] ∧ b = []) ∨ (rising l = true ∧ ∃ h, Cut l h ∧ a = l.take h ∧ b = l.drop h)
theorem HalfOf.one {l a b a' b' : List L} (h : HalfOf l a b) (h' : HalfOf l a' b') : a' = a ∧ b' = b := by
  rcases h with ⟨h1, rfl, rfl⟩ | ⟨h1, k, h2, rfl, rfl⟩ <;> rcases h' with ⟨g1, rfl, rfl⟩ | ⟨g1, k', g2, rfl, rfl⟩
  · exact ⟨rfl, rfl⟩
  · rw [h1] at g1; cases g1
  · rw [h1] at g1; cases g1
  · rw [h2.one g2]; exact ⟨rfl, rfl⟩
theorem HalfOf.le {l a b : List L} (h : HalfOf l a b) : a.length ≤ l.length ∧ b.length ≤ l.length := by
  rcases h with ⟨-, rfl, rfl⟩ | ⟨-, k, -, rfl, rfl⟩
  · simp
  · simp only [List.length_take, List.length_drop]; omega
/-- the law's Own of one entry -/
theorem own_one (e : L) (v : Value) (w : World) (hv : Rd w 3 v 1 e.cs) : Calls Try.prog 16 #[v] w fun r w' => ∃ b o c, r = .returned (.slice (some ⟨b, o, none⟩) 1 c) ∧ (w'.cell? ⟨b, o, none⟩ = some (.string (str e.key)) ∧ w'.cell? ⟨b, o + 1, none⟩ = some (.int .i64 e.first) ∧ w'.cell? ⟨b, o + 2, none⟩ = some (.int .i64 e.len)) ∧ Below w.heap.size w w' := by
  refine (Own_any [e] v w hv (by simp)).mono ?_
  rintro r w' ⟨v', rfl, ho, hb⟩
  obtain ⟨A, c, rfl, -, -, -⟩ := (Rd.of_own ho).slice_
  obtain ⟨b, o, rfl, hcell⟩ := ents_at (Rd.of_own ho) rfl (by simp)
  have h := hcell 0 (by simp)
  rw [Nat.zero_mul, Nat.add_zero] at h
  exact ⟨b, o, c, rfl, h, hb⟩
theorem halves_own (l : List L) (v : Value) (w : World) (hv : Rd w 3 v l.length (ls l)) (hn : l.length ≤ 1000000) (hk : ∀ e ∈ l, e.key.length ≤ 1000000) :
    Calls Try.prog 52 #[v] w fun r w' => ∃ a b v1 v2, HalfOf l a b ∧ r = .returned (.tuple #[v1, v2]) ∧ Rd w' 3 v1 a.length (ls a) ∧ Rd w' 3 v2 b.length (ls b) ∧ Below w.heap.size w w' := by
  refine (Halves_any l v w hv hn hk).mono ?_
  rintro r w' ⟨h1, ⟨h2, rfl⟩ | ⟨h2, h, v1, v2, h3, rfl, h4, h5⟩⟩
  · exact ⟨[], [], _, _, .inl ⟨h2, rfl, rfl⟩, rfl, Rd.nil _ _, Rd.nil _ _, h1⟩
  · exact ⟨_, _, v1, v2, .inr ⟨h2, h, h3, rfl, rfl⟩, rfl, h4, h5, h1⟩
theorem halves_ref (l a b : List L) (hh : HalfOf l a b) (v : Value) (w : World) (hv : Rd w 3 v l.length (ls l)) (hn : l.length ≤ 1000000) (hk : ∀ e ∈ l, e.key.length ≤ 1000000) :
    Calls Try.prog 53 #[v] w fun r w' => ∃ v1 v2, r = .returned (.tuple #[v1, v2]) ∧ Rd w' 3 v1 a.length (ls a) ∧ Rd w' 3 v2 b.length (ls b) ∧ Below w.heap.size w w' := by
  refine (rHalves_any l v w hv hn hk).mono ?_
  rintro r w' ⟨h1, ⟨h2, rfl⟩ | ⟨h2, h, v1, v2, h3, rfl, h4, h5⟩⟩
  · obtain ⟨rfl, rfl⟩ := HalfOf.one (l := l) (a := [] ) (b := []) (.inl ⟨h2, rfl, rfl⟩) hh
    exact ⟨_, _, rfl, Rd.nil _ _, Rd.nil _ _, h1⟩
  · obtain ⟨rfl, rfl⟩ := HalfOf.one (.inr ⟨h2, h, h3, rfl, rfl⟩) hh
    exact ⟨v1, v2, rfl, h4, h5, h1⟩
set_option maxRecDepth 100000 in
set_option maxHeartbeats 16000000 in
theorem LeafTurns_any (v : Value) (l : List L) (e : L) (w : World) (hv : Rd w 3 v l.length (ls l)) (hk : ∀ e ∈ l, e.key.length ≤ maxLen) (hke : e.key.length ≤ maxLen) :
    Calls Try.prog 9 #[v, .agg #[.string (str e.key), .int .i64 e.first, .int .i64 e.len]] w fun r w' => r = .returned (.bool true) ∧ Below w.heap.size w w' := by
  have hB1 := below_one w (.cells #[.string (str e.key), .int .i64 e.first, .int .i64 e.len] 77)
  have hblk := heap_alloc_new w (.cells #[.string (str e.key), .int .i64 e.first, .int .i64 e.len] 77)
  obtain ⟨W1, hW1⟩ : ∃ W, W = w.alloc (.cells #[.string (str e.key), .int .i64 e.first, .int .i64 e.len] 77) := ⟨_, rfl⟩
  rw [← hW1] at hB1 hblk
  have hv1 := hv.below hB1
  have Hfair := Lib.hid (fair_any l v W1 hv1 hk)
  obtain ⟨A, c, rfl, hc1, hc2, -⟩ := hv.slice_
  unfold maxLen at hc2
  have HW1 := Lib.hid hW1
  obtain ⟨g0, hg0⟩ : ∃ g, g = w.heap.size := ⟨_, rfl⟩
  rw [← hg0] at hblk
  have Hbox := Lib.hid (fun W (h : Below W1.heap.size W1 W) => (show W.cell? ⟨g0, 0, none⟩ = some (.string (str e.key)) ∧ W.cell? ⟨g0, 1, none⟩ = some (.int .i64 e.first) ∧ W.cell? ⟨g0, 2, none⟩ = some (.int .i64 e.len) from env_cells (blk_below hblk h)))
  have hg0l : g0 < W1.heap.size := blk_lt hblk
  have hcb := fun (f : Bool) => Hbox.out
  have hsk := str_size e.key
  have Hv := Lib.hid hv1
  have Hg0 := Lib.hid hg0
  clear hv hv1 hblk hcb hW1 hk
  go_enter Try.func9, Try.ntmps9
  go_upto_region 1 with fail
  rw [← HW1.out, ← Hg0.out]
  clear hg0
  by_cases h200 : e.key.length ≤ 200
  rotate_left
  · have hd : decide ((200 : Int) < (e.key.length : Int)) = true := decide_eq_true (by omega)
    go_wp2_with (go_at_call 15; refine Hfair.out.mono ?_; rintro r w2 ⟨f, rfl, -, hb2⟩; obtain ⟨c0, c1, c2⟩ := Hbox.out _ hb2; cases f)
    all_goals (go_ret; exact ⟨rfl, below_go hb2 hB1⟩)
  have hd : decide ((200 : Int) < (e.key.length : Int)) = false := decide_eq_false (by omega)
  go_upto_region 3 with (go_at_call 15; refine Hfair.out.mono ?_; rintro r w2 ⟨f, rfl, hf, hb2⟩; obtain ⟨c0, c1, c2⟩ := Hbox.out _ hb2; cases f)
  · go_ret
    exact ⟨rfl, below_go hb2 hB1⟩
  obtain ⟨h60, h200l⟩ := hf trivial
  have hkm : ∀ e ∈ l, e.key.length ≤ 1000000 := fun e he => by
    obtain ⟨j, hj, rfl⟩ := List.mem_iff_getElem.1 he
    have := h200l j hj
    rw [List.getD_eq_getElem?_getD, List.getElem?_eq_getElem hj] at this
    exact Nat.le_trans this (by decide)
  have hln : l.length ≤ 1000000 := by omega
  have Hown := Lib.hid (fun W (h : Below W1.heap.size W1 W) => Own_any l _ W (Hv.out.below h) hln)
  have Hfind := Lib.hid (fun W (h : Below W1.heap.size W1 W) => Find_any l _ e.key W (Hv.out.below h) hln hkm)
  have Hhal := Lib.hid (fun W (h : Below W1.heap.size W1 W) => halves_own l _ W (Hv.out.below h) hln hkm)
  have HrR := Lib.hid (fun v5 W (h : Rd W 3 v5 l.length (ls l)) => rRight_any l v5 W h hln hkm)
  have Hrhal := Lib.hid (fun a b (hh : HalfOf l a b) v5 W (h : Rd W 3 v5 l.length (ls l)) => halves_ref l a b hh v5 W h hln hkm)
  have Hwith := Lib.hid (fun W (h : Below W1.heap.size W1 W) => With_any l e _ W (Hv.out.below h) hln hkm)
  have Hwout := Lib.hid (fun W (h : Below W1.heap.size W1 W) => Without_any l e.key _ W (Hv.out.below h) hln hkm)
  have HrW := Lib.hid (fun v5 W (h : Rd W 3 v5 l.length (ls l)) => rWith_any l e v5 W h hln hkm (by omega))
  have HrO := Lib.hid (fun v5 W (h : Rd W 3 v5 l.length (ls l)) => rWithout_any l e.key v5 W h hln)
  have HownX := Lib.hid (fun a vx W (h : Rd W 3 vx a.length (ls a)) (hl : a.length ≤ 1000000) => Own_any a vx W h hl)
  have Hsame := Lib.hid (fun a v1 v2 W (h1 : Rd W 3 v1 a.length (ls a)) (h2 : Rd W 3 v2 a.length (ls a)) => Same_any a v1 v2 W h1 h2)
  have Hone := Lib.hid (fun W => one_any W)
  have Hh2 := Lib.hid h200l
  clear hkm h200l hf Hfair
  go_upto_region 6 with (first
    | (go_at_call 16; refine (Hown.out _ hb2).mono ?_; rintro r w3 ⟨v5, rfl, ho3, hb3⟩; obtain ⟨A5, c5, rfl, hq1, hq2, -⟩ := (Rd.of_own ho3).slice_; have Hr5 := Lib.hid (Rd.of_own ho3); have hB3 := below_go hb3 hb2; obtain ⟨d0, d1, d2⟩ := Hbox.out _ hB3; clear ho3)
    | (go_at_call 51; refine ((Hfind.out _ hB3).mono (R' := fun r w' => ∃ (i : Int) (is : Bool), r = .returned (.tuple #[.int .i64 i, .bool is]) ∧ Hid ((right l = false ∧ i = 0 ∧ is = false) ∨ (right l = true ∧ ∃ p : Nat, Place l e.key p ∧ i = (p : Int) ∧ is = had l e.key l.length)) ∧ Below w3.heap.size w3 w') (by
        rintro r w' ⟨h1, ⟨h2, rfl⟩ | ⟨h2, p, h3, rfl⟩⟩
        · exact ⟨_, _, rfl, Lib.hid (.inl ⟨h2, rfl, rfl⟩), h1⟩
        · exact ⟨_, _, rfl, Lib.hid (.inr ⟨h2, p, h3, rfl, rfl⟩), h1⟩)).mono ?_; rintro r w4 ⟨i, is, rfl, Hi, hb4⟩; have hB4 := below_go hb4 hB3; have Hr5' := Lib.hid (Hr5.out.below hb4)))
  clear c0 c1 c2 d0 d1 d2 Hr5 Hown Hfind
  go_upto_if 59 with (first
    | (go_at_call 52; refine (Hhal.out _ hB4).mono ?_; rintro r w5 ⟨la, lb, v9, v10, hhf, rfl, h9, h10, hb5⟩; have Hhf := Lib.hid hhf; have H9 := Lib.hid h9; have H10 := Lib.hid h10; have hB5 := below_go hb5 hB4; have Hr6 := Lib.hid (Hr5'.out.below hb5); clear hhf h9 h10)
    | (go_at_call 53; refine (Hrhal.out _ _ Hhf.out _ _ Hr6.out).mono ?_; rintro r w6 ⟨v11, v12, rfl, h11, h12, hb6⟩; have H11 := Lib.hid h11; have H12 := Lib.hid h12; have hB6 := below_go hb6 hB5; clear h11 h12)
    | (go_at_call 16; refine (HownX.out _ _ _ (H10.out.below (below_go hb8 hb6)) (by have := Hhf.out.le; omega)).mono ?_; rintro r w9 ⟨x9, rfl, ho9, hb9⟩; have HO9 := Lib.hid (Rd.of_own ho9); have hb9' := below_go hb9 hb8; clear ho9)
    | (go_at_call 16; refine (HownX.out _ _ _ (H9.out.below hb6) (by have := Hhf.out.le; omega)).mono ?_; rintro r w7 ⟨x7, rfl, ho7, hb7⟩; have HO7 := Lib.hid (Rd.of_own ho7); clear ho7)
    | (go_at_call 26; refine (Hsame.out _ _ _ _ HO9.out (H12.out.below hb9')).mono ?_; rintro r w10 ⟨rfl, hb10⟩; have hb10' := below_go hb10 hb9'; have Hr11 := Lib.hid (Hr6.out.below (below_go hb10' hb6)))
    | (go_at_call 26; refine (Hsame.out _ _ _ _ HO7.out (H11.out.below hb7)).mono ?_; rintro r w8 ⟨rfl, hb8'⟩; have hb8 := below_go hb8' hb7; clear hb8')
    | (go_at_call 17; refine (HrR.out _ _ Hr11.out).mono ?_; rintro r w11 ⟨rfl, hb11⟩; have hB11 := below_go (below_go hb11 hb10') hB6; have Hr12 := Lib.hid (Hr11.out.below hb11)))
  clear Hhal Hrhal HrR H9 H10 H11 H12 HO7 HO9 Hr6 Hr5' Hr11 hb4 hb5 hb6 hb7 hb8 hb9 hb9' hb10 hb10' hb11 hB3 hB4 hB5 hB6
  have hi := Hi.out
  cases hr : right l with
  | false =>
    obtain ⟨rfl, rfl⟩ : i = 0 ∧ is = false := by
      rcases hi with ⟨-, h1, h2⟩ | ⟨h1, -⟩
      · exact ⟨h1, h2⟩
      · rw [hr] at h1; cases h1
    have Hw0 := Lib.hid (fun W h => (Hwith.out W h).mono (R' := fun r w' => r = .returned (.slice none 0 0) ∧ Below W.heap.size W w') (by
      rintro r w' ⟨h1, ⟨-, h2⟩ | ⟨h2, -⟩⟩
      · exact ⟨h2, h1⟩
      · rw [hr] at h2; cases h2))
    have Ho0 := Lib.hid (fun W h => (Hwout.out W h).mono (R' := fun r w' => r = .returned (.slice none 0 0) ∧ Below W.heap.size W w') (by
      rintro r w' ⟨h1, ⟨-, h2⟩ | ⟨h2, -⟩⟩
      · exact ⟨h2, h1⟩
      · rw [hr] at h2; cases h2))
    have hw00 : IntKind.i64.wrap 0 = 0 := by decide
    clear Hwith Hwout hi Hi
    go_upto_region 11 with fail
    (refine Ord.wp_region_ord [(false, 0), (false, 1), (false, 2), (false, 3), (false, 4), (false, 5), (false, 6), (false, 7), (false, 8), (false, 11), (false, 12), (false, 13), (true, 9), (false, 10), (true, 14), (false, 15), (false, 16), (false, 17), (false, 18), (false, 19), (true, 20), (false, 21), (false, 22)] (fun W => (W.cell? ⟨g0, 0, none⟩ = some (.string (str e.key)) ∧ W.cell? ⟨g0, 1, none⟩ = some (.int .i64 e.first) ∧ W.cell? ⟨g0, 2, none⟩ = some (.int .i64 e.len))) (by kernel_rfl) (by kernel_rfl) (by kernel_rfl) (by kernel_rfl) (by exact Hbox.out _ hB11.drew) ?_; simp only [Ord.ordOps, List.filterMap_cons, List.filterMap_nil, List.getElem?_toArray, List.getElem?_cons_succ, List.getElem?_cons_zero, Option.map_some]; repeat (first | (refine Ord.wpOrd_skip ?_ ?_; (focus (go_simp; (try (intro h; cases h)); done)); simp only [Act.put, List.setIfInBounds_toArray, List.set_cons_zero, List.set_cons_succ]) | (refine Ord.wpOrd_take (v := ?_) ?_ ?_ ?_; rotate_left; (focus (go_simp; done)); (focus (intro w' hSw; (try dsimp only at hSw); go_simp; (try with_reducible rfl); done)); simp only [Act.put, List.setIfInBounds_toArray, List.set_cons_zero, List.set_cons_succ])))
    (refine Ord.wpOrd_call ?_ (fun K hK => ?_); (focus (go_simp; done)); go_simp)
    go_at_call 54
    refine (Hw0.out _ hB11.drew).mono ?_
    rintro r w12 ⟨rfl, hb12⟩
    have hB12 := below_go hb12 hB11.drew
    (refine hK _ _ (by exact Hbox.out _ hB12) ?_; clear hK K; (try simp only [Act.put, List.setIfInBounds_toArray, List.set_cons_zero, List.set_cons_succ]); repeat (first | (refine Ord.wpOrd_skip ?_ ?_; (focus (go_simp; (try (intro h; cases h)); done)); simp only [Act.put, List.setIfInBounds_toArray, List.set_cons_zero, List.set_cons_succ]) | (refine Ord.wpOrd_take (v := ?_) ?_ ?_ ?_; rotate_left; (focus (go_simp; done)); (focus (intro w' hSw; (try dsimp only at hSw); go_simp; (try with_reducible rfl); done)); simp only [Act.put, List.setIfInBounds_toArray, List.set_cons_zero, List.set_cons_succ])))
    (refine Ord.wpOrd_call ?_ (fun K hK => ?_); (focus (go_simp; done)); go_simp)
    go_at_call 55
    refine (Ho0.out _ hB12).mono ?_
    rintro r w13 ⟨rfl, hb13⟩
    have hB13 := below_go hb13 hB12
    (refine hK _ _ (by exact Hbox.out _ hB13) ?_; clear hK K; (try simp only [Act.put, List.setIfInBounds_toArray, List.set_cons_zero, List.set_cons_succ]); repeat (first | (refine Ord.wpOrd_skip ?_ ?_; (focus (go_simp; (try (intro h; cases h)); done)); simp only [Act.put, List.setIfInBounds_toArray, List.set_cons_zero, List.set_cons_succ]) | (refine Ord.wpOrd_take (v := ?_) ?_ ?_ ?_; rotate_left; (focus (go_simp; done)); (focus (intro w' hSw; (try dsimp only at hSw); go_simp; (try with_reducible rfl); done)); simp only [Act.put, List.setIfInBounds_toArray, List.set_cons_zero, List.set_cons_succ])))
    (refine Ord.wpOrd_call ?_ (fun K hK => ?_); (focus (go_simp; done)); go_simp)
    go_at_call 24
    refine (Hone.out _).mono ?_
    rintro r w14 ⟨rfl, hb14⟩
    have hB14 := below_go hb14 hB13
    (refine hK _ _ (by exact Hbox.out _ hB14) ?_; clear hK K; (try simp only [Act.put, List.setIfInBounds_toArray, List.set_cons_zero, List.set_cons_succ]); repeat (first | (refine Ord.wpOrd_skip ?_ ?_; (focus (go_simp; (try (intro h; cases h)); done)); simp only [Act.put, List.setIfInBounds_toArray, List.set_cons_zero, List.set_cons_succ]) | (refine Ord.wpOrd_take (v := ?_) ?_ ?_ ?_; rotate_left; (focus (go_simp; done)); (focus (intro w' hSw; (try dsimp only at hSw); go_simp; (try with_reducible rfl); done)); simp only [Act.put, List.setIfInBounds_toArray, List.set_cons_zero, List.set_cons_succ])))
    refine Ord.wpOrd_nil ?_
    go_wp2_with fail
    go_ret
    exact ⟨rfl, below_go hB14 hB1⟩
  | true =>
    obtain ⟨p, hpl, rfl, rfl⟩ : ∃ p : Nat, Place l e.key p ∧ i = (p : Int) ∧ is = had l e.key l.length := by
      rcases hi with ⟨h1, -⟩ | ⟨-, h2⟩
      · rw [hr] at h1; cases h1
      · exact h2
    have hup := rising_up (l := l) (by simp only [right, Bool.and_eq_true] at hr; exact hr.1)
    have Hpw := Lib.hid (place_without hup hpl)
    have Hcn := Lib.hid (cnt_hi hpl l.length hpl.le (Nat.le_refl _))
    have Hwi := Lib.hid (fun W h => (Hwith.out W h).mono (R' := fun r w' => ∃ v', r = .returned v' ∧ Rd w' 3 v' (withAt l e p (had l e.key l.length)).length (ls (withAt l e p (had l e.key l.length))) ∧ Below W.heap.size W w') (by
      rintro r w' ⟨h1, ⟨h2, -⟩ | ⟨-, p', v', h2, h3, h4⟩⟩
      · rw [hr] at h2; cases h2
      · obtain rfl := h2.one hpl
        exact ⟨v', h3, h4, h1⟩))
    have Hwo := Lib.hid (fun W h => (Hwout.out W h).mono (R' := fun r w' => ∃ v', r = .returned v' ∧ Rd w' 3 v' (without l e.key).length (ls (without l e.key)) ∧ Below W.heap.size W w') (by
      rintro r w' ⟨h1, ⟨h2, -⟩ | ⟨-, v', h2, h3⟩⟩
      · rw [hr] at h2; cases h2
      · exact ⟨v', h2, h3, h1⟩))
    have HrW2 := Lib.hid (fun v5 W h => (HrW.out v5 W h).mono (R' := fun r w' => ∃ v', r = .returned v' ∧ Rd w' 3 v' (withAt l e p (had l e.key l.length)).length (ls (withAt l e p (had l e.key l.length))) ∧ Below W.heap.size W w') (by
      rintro r w' ⟨k, v', h1, h2, h3, h4, h5, h6⟩
      have hP := Hpw.out.1
      have hk : k = p := by
        rcases Nat.lt_trichotomy k p with g | g | g
        · rcases h3 with h3 | h3
          · have := hP.le; omega
          · rw [hP.lo k g] at h3; cases h3
        · exact g
        · have := h2 p g; rw [hP.hi p (Nat.le_refl _) (by omega)] at this; cases this
      subst hk
      rw [Hpw.out.2 e] at h5
      exact ⟨v', h4, h5, h6⟩))
    have hwl : (withAt l e p (had l e.key l.length)).length ≤ 1000 := by
      rw [withAt, List.length_append, List.length_cons, List.length_take, List.length_drop]; omega
    have hol : (without l e.key).length ≤ 1000 := by
      have : (without l e.key).length ≤ l.length := List.length_filter_le _ _
      omega
    clear Hwith Hwout HrW hi Hi hup hpl Hpw hr
    rw [Bool.not_true]
    go_wp2_with fail
    go_loopw [13, 14, 15] (fun k_ h_ n_ wr => ∃ n : Nat, n ≤ l.length ∧ n_ = .int .i64 (n : Int) ∧ k_ = .int .i64 (cnt l e.key n : Int) ∧ h_ = .bool (had l e.key n) ∧ Below w11.heap.size w11 wr) (fun _ _ n_ _ => l.length - (intOf n_).toNat)
    case atStart => exact ⟨0, Nat.zero_le _, rfl, rfl, rfl, Below.refl _ _⟩
    case round =>
      obtain ⟨n, hnl, rfl, rfl, rfl, hB⟩ := hrel
      by_cases hnn : n < l.length
      rotate_left
      · obtain rfl : n = l.length := by omega
        have hd1 : decide ((l.length : Int) < (l.length : Int)) = false := decide_eq_false (by omega)
        rw [Hcn.out]
        have hw0 := hB.drew
        have HownE := Lib.hid (fun vx W (h : Rd W 3 vx 1 e.cs) => own_one e vx W h)
        obtain ⟨wa, hwa⟩ : ∃ x, x = withAt l e p (had l e.key l.length) := ⟨_, rfl⟩
        obtain ⟨wo, hwo⟩ : ∃ x, x = without l e.key := ⟨_, rfl⟩
        rw [← hwa] at Hwi HrW2 hwl
        rw [← hwo] at Hwo HrO hol
        generalize had l e.key l.length = hq
        have hqq : (hq == hq) = true := beq_self_eq_true hq
        clear hwa hwo
        go_upto_region 19 with fail
        (refine Ord.wp_region_tree (Ord.OT.of [(false, 0), (false, 1), (false, 2), (false, 3), (false, 4), (false, 5), (false, 6), (false, 7), (false, 8), (false, 9), (false, 10), (false, 13), (false, 14)] (Ord.OT.two 11 (Ord.OT.of [] (Ord.OT.two 12 (Ord.OT.of [(true, 15), (true, 16), (false, 17), (true, 18), (true, 19), (true, 20), (false, 21), (false, 22), (false, 23), (false, 24), (false, 25), (false, 28), (false, 29), (false, 30), (true, 26), (true, 27), (true, 31), (true, 32), (false, 33), (false, 34), (false, 35), (false, 37), (true, 36), (true, 38), (false, 39), (false, 40), (true, 41), (false, 42), (false, 43)] Ord.OT.nil) 15 (Ord.OT.of [(true, 12), (true, 16), (false, 17), (true, 18), (true, 19), (true, 20), (false, 21), (false, 22), (false, 23), (false, 24), (false, 25), (false, 28), (false, 29), (false, 30), (true, 26), (true, 27), (true, 31), (true, 32), (false, 33), (false, 34), (false, 35), (false, 37), (true, 36), (true, 38), (false, 39), (false, 40), (true, 41), (false, 42), (false, 43)] Ord.OT.nil))) 15 (Ord.OT.of [(true, 11), (true, 12), (true, 16), (false, 17), (true, 18), (true, 19), (true, 20), (false, 21), (false, 22), (false, 23), (false, 24), (false, 25), (false, 28), (false, 29), (false, 30), (true, 26), (true, 27), (true, 31), (true, 32), (false, 33), (false, 34), (false, 35), (false, 37), (true, 36), (true, 38), (false, 39), (false, 40), (true, 41), (false, 42), (false, 43)] Ord.OT.nil))) (fun W => (W.cell? ⟨g0, 0, none⟩ = some (.string (str e.key)) ∧ W.cell? ⟨g0, 1, none⟩ = some (.int .i64 e.first) ∧ W.cell? ⟨g0, 2, none⟩ = some (.int .i64 e.len))) (by kernel_rfl) (by kernel_rfl) (by kernel_rfl) (by kernel_rfl) (by exact Hbox.out _ (below_go hw0 hB11)) ?_; simp only [Ord.OT.of, Ord.OT.opers, List.getElem?_toArray, List.getElem?_cons_succ, List.getElem?_cons_zero]; repeat (first | (refine Ord.wpT_skip ?_ ?_; (focus (go_simp; (try (intro h; cases h)); done)); simp only [Act.put, List.setIfInBounds_toArray, List.set_cons_zero, List.set_cons_succ]) | (refine Ord.wpT_take (v := ?_) ?_ ?_ ?_; rotate_left; (focus (go_simp; done)); (focus (intro w' hSw; (try dsimp only at hSw); go_simp; (try with_reducible rfl); done)); simp only [Act.put, List.setIfInBounds_toArray, List.set_cons_zero, List.set_cons_succ])))
        refine Ord.wpT_two ?_ ?_
        · (refine Ord.wpT_call ?_ (fun K hK => ?_); (focus (go_simp; done)); go_simp)
          go_at_call 54
          refine (Hwi.out _ (below_go hw0 hB11)).mono ?_
          rintro r y1 ⟨va, rfl, ha, hb⟩
          have hw1 := below_go hb hw0
          have Ha := Lib.hid ha
          clear ha hb
          (refine hK _ _ (by exact Hbox.out _ (below_go hw1 hB11)) ?_; clear hK K; (try simp only [Act.put, List.setIfInBounds_toArray, List.set_cons_zero, List.set_cons_succ]); repeat (first | (refine Ord.wpT_skip ?_ ?_; (focus (go_simp; (try (intro h; cases h)); done)); simp only [Act.put, List.setIfInBounds_toArray, List.set_cons_zero, List.set_cons_succ]) | (refine Ord.wpT_take (v := ?_) ?_ ?_ ?_; rotate_left; (focus (go_simp; done)); (focus (intro w' hSw; (try dsimp only at hSw); go_simp; (try with_reducible rfl); done)); simp only [Act.put, List.setIfInBounds_toArray, List.set_cons_zero, List.set_cons_succ])))
          refine Ord.wpT_two ?_ ?_
          · (refine Ord.wpT_call ?_ (fun K hK => ?_); (focus (go_simp; done)); go_simp)
            go_at_call 16
            refine (HownX.out _ _ _ Ha.out (by omega)).mono ?_
            rintro r y2 ⟨xa, rfl, ho, hb⟩
            have hw2 := below_go hb hw1
            have Hxa := Lib.hid (Rd.of_own ho)
            clear ho hb
            (refine hK _ _ (by exact Hbox.out _ (below_go hw2 hB11)) ?_; clear hK K; (try simp only [Act.put, List.setIfInBounds_toArray, List.set_cons_zero, List.set_cons_succ]); repeat (first | (refine Ord.wpT_skip ?_ ?_; (focus (go_simp; (try (intro h; cases h)); done)); simp only [Act.put, List.setIfInBounds_toArray, List.set_cons_zero, List.set_cons_succ]) | (refine Ord.wpT_take (v := ?_) ?_ ?_ ?_; rotate_left; (focus (go_simp; done)); (focus (intro w' hSw; (try dsimp only at hSw); go_simp; (try with_reducible rfl); done)); simp only [Act.put, List.setIfInBounds_toArray, List.set_cons_zero, List.set_cons_succ])))
            (refine Ord.wpT_call ?_ (fun K hK => ?_); (focus (go_simp; done)); go_simp)
            have hw3 := below_go (below_one y2 (.cells e.cs.toArray 77)) hw2
            have Hx3 := Lib.hid (Hxa.out.below (below_one y2 (.cells e.cs.toArray 77)))
            have Hl := Lib.hid (Rd.lit y2 3 1 e.cs 77 rfl (by simp [maxLen]))
            (refine hK _ _ (by exact Hbox.out _ (below_go hw3 hB11)) ?_; clear hK K; (try simp only [Act.put, List.setIfInBounds_toArray, List.set_cons_zero, List.set_cons_succ]); repeat (first | (refine Ord.wpT_skip ?_ ?_; (focus (go_simp; (try (intro h; cases h)); done)); simp only [Act.put, List.setIfInBounds_toArray, List.set_cons_zero, List.set_cons_succ]) | (refine Ord.wpT_take (v := ?_) ?_ ?_ ?_; rotate_left; (focus (go_simp; done)); (focus (intro w' hSw; (try dsimp only at hSw); go_simp; (try with_reducible rfl); done)); simp only [Act.put, List.setIfInBounds_toArray, List.set_cons_zero, List.set_cons_succ])))
            (refine Ord.wpT_call ?_ (fun K hK => ?_); (focus (go_simp; done)); go_simp)
            go_at_call 16
            refine (HownE.out _ _ Hl.out).mono ?_
            rintro r y4 ⟨be, oe, ce, rfl, ⟨z0, z1, z2⟩, hb⟩
            have hw4 := below_go hb hw3
            have Hx4 := Lib.hid (Hx3.out.below hb)
            clear hb
            (refine hK _ _ (by exact Hbox.out _ (below_go hw4 hB11)) ?_; clear hK K; (try simp only [Act.put, List.setIfInBounds_toArray, List.set_cons_zero, List.set_cons_succ]); repeat (first | (refine Ord.wpT_skip ?_ ?_; (focus (go_simp; (try (intro h; cases h)); done)); simp only [Act.put, List.setIfInBounds_toArray, List.set_cons_zero, List.set_cons_succ]) | (refine Ord.wpT_take (v := ?_) ?_ ?_ ?_; rotate_left; (focus (go_simp; done)); (focus (intro w' hSw; (try dsimp only at hSw); go_simp; (try with_reducible rfl); done)); simp only [Act.put, List.setIfInBounds_toArray, List.set_cons_zero, List.set_cons_succ])))
            (refine Ord.wpT_call ?_ (fun K hK => ?_); (focus (go_simp; done)); go_simp)
            (refine hK _ _ (by exact Hbox.out _ (below_go hw4 hB11)) ?_; clear hK K; (try simp only [Act.put, List.setIfInBounds_toArray, List.set_cons_zero, List.set_cons_succ]); repeat (first | (refine Ord.wpT_skip ?_ ?_; (focus (go_simp; (try (intro h; cases h)); done)); simp only [Act.put, List.setIfInBounds_toArray, List.set_cons_zero, List.set_cons_succ]) | (refine Ord.wpT_take (v := ?_) ?_ ?_ ?_; rotate_left; (focus (go_simp; done)); (focus (intro w' hSw; (try dsimp only at hSw); go_simp; (try with_reducible rfl); done)); simp only [Act.put, List.setIfInBounds_toArray, List.set_cons_zero, List.set_cons_succ])))
            (refine Ord.wpT_call ?_ (fun K hK => ?_); (focus (go_simp; done)); go_simp)
            go_at_call 57
            refine (HrW2.out _ _ (Hr12.out.below hw4)).mono ?_
            rintro r y5 ⟨vr, rfl, hr5, hb⟩
            have hw5 := below_go hb hw4
            have Hx5 := Lib.hid (Hx4.out.below hb)
            have Hr5 := Lib.hid hr5
            clear hb hr5 z0 z1 z2
            (refine hK _ _ (by exact Hbox.out _ (below_go hw5 hB11)) ?_; clear hK K; (try simp only [Act.put, List.setIfInBounds_toArray, List.set_cons_zero, List.set_cons_succ]); repeat (first | (refine Ord.wpT_skip ?_ ?_; (focus (go_simp; (try (intro h; cases h)); done)); simp only [Act.put, List.setIfInBounds_toArray, List.set_cons_zero, List.set_cons_succ]) | (refine Ord.wpT_take (v := ?_) ?_ ?_ ?_; rotate_left; (focus (go_simp; done)); (focus (intro w' hSw; (try dsimp only at hSw); go_simp; (try with_reducible rfl); done)); simp only [Act.put, List.setIfInBounds_toArray, List.set_cons_zero, List.set_cons_succ])))
            (refine Ord.wpT_call ?_ (fun K hK => ?_); (focus (go_simp; done)); go_simp)
            go_at_call 26
            refine (Hsame.out _ _ _ _ Hx5.out Hr5.out).mono ?_
            rintro r y6 ⟨rfl, hb⟩
            have hw6 := below_go hb hw5
            clear hb
            (refine hK _ _ (by exact Hbox.out _ (below_go hw6 hB11)) ?_; clear hK K; (try simp only [Act.put, List.setIfInBounds_toArray, List.set_cons_zero, List.set_cons_succ]); repeat (first | (refine Ord.wpT_skip ?_ ?_; (focus (go_simp; (try (intro h; cases h)); done)); simp only [Act.put, List.setIfInBounds_toArray, List.set_cons_zero, List.set_cons_succ]) | (refine Ord.wpT_take (v := ?_) ?_ ?_ ?_; rotate_left; (focus (go_simp; done)); (focus (intro w' hSw; (try dsimp only at hSw); go_simp; (try with_reducible rfl); done)); simp only [Act.put, List.setIfInBounds_toArray, List.set_cons_zero, List.set_cons_succ])))
            (refine Ord.wpT_call ?_ (fun K hK => ?_); (focus (go_simp; done)); go_simp)
            go_at_call 55
            refine (Hwo.out _ (below_go hw6 hB11)).mono ?_
            rintro r y7 ⟨vo, rfl, hvo, hb⟩
            have hw7 := below_go hb hw6
            have Hvo := Lib.hid hvo
            clear hb hvo
            (refine hK _ _ (by exact Hbox.out _ (below_go hw7 hB11)) ?_; clear hK K; (try simp only [Act.put, List.setIfInBounds_toArray, List.set_cons_zero, List.set_cons_succ]); repeat (first | (refine Ord.wpT_skip ?_ ?_; (focus (go_simp; (try (intro h; cases h)); done)); simp only [Act.put, List.setIfInBounds_toArray, List.set_cons_zero, List.set_cons_succ]) | (refine Ord.wpT_take (v := ?_) ?_ ?_ ?_; rotate_left; (focus (go_simp; done)); (focus (intro w' hSw; (try dsimp only at hSw); go_simp; (try with_reducible rfl); done)); simp only [Act.put, List.setIfInBounds_toArray, List.set_cons_zero, List.set_cons_succ])))
            (refine Ord.wpT_call ?_ (fun K hK => ?_); (focus (go_simp; done)); go_simp)
            go_at_call 16
            refine (HownX.out _ _ _ Hvo.out (by omega)).mono ?_
            rintro r y8 ⟨xo, rfl, ho, hb⟩
            have hw8 := below_go hb hw7
            have Hxo := Lib.hid (Rd.of_own ho)
            clear ho hb
            (refine hK _ _ (by exact Hbox.out _ (below_go hw8 hB11)) ?_; clear hK K; (try simp only [Act.put, List.setIfInBounds_toArray, List.set_cons_zero, List.set_cons_succ]); repeat (first | (refine Ord.wpT_skip ?_ ?_; (focus (go_simp; (try (intro h; cases h)); done)); simp only [Act.put, List.setIfInBounds_toArray, List.set_cons_zero, List.set_cons_succ]) | (refine Ord.wpT_take (v := ?_) ?_ ?_ ?_; rotate_left; (focus (go_simp; done)); (focus (intro w' hSw; (try dsimp only at hSw); go_simp; (try with_reducible rfl); done)); simp only [Act.put, List.setIfInBounds_toArray, List.set_cons_zero, List.set_cons_succ])))
            (refine Ord.wpT_call ?_ (fun K hK => ?_); (focus (go_simp; done)); go_simp)
            go_at_call 58
            refine (HrO.out _ _ (Hr12.out.below hw8)).mono ?_
            rintro r y9 ⟨vq, rfl, hvq, hb⟩
            have hw9 := below_go hb hw8
            have Hvq := Lib.hid hvq
            have Hxo9 := Lib.hid (Hxo.out.below hb)
            clear hvq hb
            (refine hK _ _ (by exact Hbox.out _ (below_go hw9 hB11)) ?_; clear hK K; (try simp only [Act.put, List.setIfInBounds_toArray, List.set_cons_zero, List.set_cons_succ]); repeat (first | (refine Ord.wpT_skip ?_ ?_; (focus (go_simp; (try (intro h; cases h)); done)); simp only [Act.put, List.setIfInBounds_toArray, List.set_cons_zero, List.set_cons_succ]) | (refine Ord.wpT_take (v := ?_) ?_ ?_ ?_; rotate_left; (focus (go_simp; done)); (focus (intro w' hSw; (try dsimp only at hSw); go_simp; (try with_reducible rfl); done)); simp only [Act.put, List.setIfInBounds_toArray, List.set_cons_zero, List.set_cons_succ])))
            (refine Ord.wpT_call ?_ (fun K hK => ?_); (focus (go_simp; done)); go_simp)
            go_at_call 26
            refine (Hsame.out _ _ _ _ Hxo9.out Hvq.out).mono ?_
            rintro r y10 ⟨rfl, hb⟩
            have hw10 := below_go hb hw9
            clear hb
            (refine hK _ _ (by exact Hbox.out _ (below_go hw10 hB11)) ?_; clear hK K; (try simp only [Act.put, List.setIfInBounds_toArray, List.set_cons_zero, List.set_cons_succ]); repeat (first | (refine Ord.wpT_skip ?_ ?_; (focus (go_simp; (try (intro h; cases h)); done)); simp only [Act.put, List.setIfInBounds_toArray, List.set_cons_zero, List.set_cons_succ]) | (refine Ord.wpT_take (v := ?_) ?_ ?_ ?_; rotate_left; (focus (go_simp; done)); (focus (intro w' hSw; (try dsimp only at hSw); go_simp; (try with_reducible rfl); done)); simp only [Act.put, List.setIfInBounds_toArray, List.set_cons_zero, List.set_cons_succ])))
            (refine Ord.wpT_call ?_ (fun K hK => ?_); (focus (go_simp; done)); go_simp)
            go_at_call 16
            refine (HownX.out _ _ _ (Hv.out.below (below_go hw10 hB11)) (by omega)).mono ?_
            rintro r y11 ⟨xl, rfl, ho, hb⟩
            have hw11 := below_go hb hw10
            have Hxl := Lib.hid (Rd.of_own ho)
            clear ho hb
            (refine hK _ _ (by exact Hbox.out _ (below_go hw11 hB11)) ?_; clear hK K; (try simp only [Act.put, List.setIfInBounds_toArray, List.set_cons_zero, List.set_cons_succ]); repeat (first | (refine Ord.wpT_skip ?_ ?_; (focus (go_simp; (try (intro h; cases h)); done)); simp only [Act.put, List.setIfInBounds_toArray, List.set_cons_zero, List.set_cons_succ]) | (refine Ord.wpT_take (v := ?_) ?_ ?_ ?_; rotate_left; (focus (go_simp; done)); (focus (intro w' hSw; (try dsimp only at hSw); go_simp; (try with_reducible rfl); done)); simp only [Act.put, List.setIfInBounds_toArray, List.set_cons_zero, List.set_cons_succ])))
            (refine Ord.wpT_call ?_ (fun K hK => ?_); (focus (go_simp; done)); go_simp)
            go_at_call 26
            refine (Hsame.out _ _ _ _ Hxl.out (Hr12.out.below hw11)).mono ?_
            rintro r y12 ⟨rfl, hb⟩
            have hw12 := below_go hb hw11
            clear hb
            (refine hK _ _ (by exact Hbox.out _ (below_go hw12 hB11)) ?_; clear hK K; (try simp only [Act.put, List.setIfInBounds_toArray, List.set_cons_zero, List.set_cons_succ]); repeat (first | (refine Ord.wpT_skip ?_ ?_; (focus (go_simp; (try (intro h; cases h)); done)); simp only [Act.put, List.setIfInBounds_toArray, List.set_cons_zero, List.set_cons_succ]) | (refine Ord.wpT_take (v := ?_) ?_ ?_ ?_; rotate_left; (focus (go_simp; done)); (focus (intro w' hSw; (try dsimp only at hSw); go_simp; (try with_reducible rfl); done)); simp only [Act.put, List.setIfInBounds_toArray, List.set_cons_zero, List.set_cons_succ])))
            (refine Ord.wpT_call ?_ (fun K hK => ?_); (focus (go_simp; done)); go_simp)
            go_at_call 24
            refine (Hone.out _).mono ?_
            rintro r y13 ⟨rfl, hb⟩
            have hw13 := below_go hb hw12
            clear hb
            (refine hK _ _ (by exact Hbox.out _ (below_go hw13 hB11)) ?_; clear hK K; (try simp only [Act.put, List.setIfInBounds_toArray, List.set_cons_zero, List.set_cons_succ]); repeat (first | (refine Ord.wpT_skip ?_ ?_; (focus (go_simp; (try (intro h; cases h)); done)); simp only [Act.put, List.setIfInBounds_toArray, List.set_cons_zero, List.set_cons_succ]) | (refine Ord.wpT_take (v := ?_) ?_ ?_ ?_; rotate_left; (focus (go_simp; done)); (focus (intro w' hSw; (try dsimp only at hSw); go_simp; (try with_reducible rfl); done)); simp only [Act.put, List.setIfInBounds_toArray, List.set_cons_zero, List.set_cons_succ])))
            refine Ord.wpT_nil ?_
            go_wp2_with fail
            go_ret
            exact ⟨rfl, below_go (below_go hw13 hB11) hB1⟩
          · (refine Ord.wpT_call ?_ (fun K hK => ?_); (focus (go_simp; done)); go_simp)
            have hwb := below_go (below_one y1 (.cells e.cs.toArray 77)) hw1
            have Ha2 := Lib.hid (Ha.out.below (below_one y1 (.cells e.cs.toArray 77)))
            have Hlb := Lib.hid (Rd.lit y1 3 1 e.cs 77 rfl (by simp [maxLen]))
            (refine hK _ _ (by exact Hbox.out _ (below_go hwb hB11)) ?_; clear hK K; (try simp only [Act.put, List.setIfInBounds_toArray, List.set_cons_zero, List.set_cons_succ]); repeat (first | (refine Ord.wpT_skip ?_ ?_; (focus (go_simp; (try (intro h; cases h)); done)); simp only [Act.put, List.setIfInBounds_toArray, List.set_cons_zero, List.set_cons_succ]) | (refine Ord.wpT_take (v := ?_) ?_ ?_ ?_; rotate_left; (focus (go_simp; done)); (focus (intro w' hSw; (try dsimp only at hSw); go_simp; (try with_reducible rfl); done)); simp only [Act.put, List.setIfInBounds_toArray, List.set_cons_zero, List.set_cons_succ])))
            (refine Ord.wpT_call ?_ (fun K hK => ?_); (focus (go_simp; done)); go_simp)
            go_at_call 16
            refine (HownX.out _ _ _ Ha2.out (by omega)).mono ?_
            rintro r y2 ⟨xa, rfl, ho, hb⟩
            have hw2 := below_go hb hwb
            have Hxa := Lib.hid (Rd.of_own ho)
            have Hl := Lib.hid (Hlb.out.below hb)
            clear ho hb
            (refine hK _ _ (by exact Hbox.out _ (below_go hw2 hB11)) ?_; clear hK K; (try simp only [Act.put, List.setIfInBounds_toArray, List.set_cons_zero, List.set_cons_succ]); repeat (first | (refine Ord.wpT_skip ?_ ?_; (focus (go_simp; (try (intro h; cases h)); done)); simp only [Act.put, List.setIfInBounds_toArray, List.set_cons_zero, List.set_cons_succ]) | (refine Ord.wpT_take (v := ?_) ?_ ?_ ?_; rotate_left; (focus (go_simp; done)); (focus (intro w' hSw; (try dsimp only at hSw); go_simp; (try with_reducible rfl); done)); simp only [Act.put, List.setIfInBounds_toArray, List.set_cons_zero, List.set_cons_succ])))
            have hw3 := hw2
            have Hx3 := Hxa
            (refine Ord.wpT_call ?_ (fun K hK => ?_); (focus (go_simp; done)); go_simp)
            go_at_call 16
            refine (HownE.out _ _ Hl.out).mono ?_
            rintro r y4 ⟨be, oe, ce, rfl, ⟨z0, z1, z2⟩, hb⟩
            have hw4 := below_go hb hw3
            have Hx4 := Lib.hid (Hx3.out.below hb)
            clear hb
            (refine hK _ _ (by exact Hbox.out _ (below_go hw4 hB11)) ?_; clear hK K; (try simp only [Act.put, List.setIfInBounds_toArray, List.set_cons_zero, List.set_cons_succ]); repeat (first | (refine Ord.wpT_skip ?_ ?_; (focus (go_simp; (try (intro h; cases h)); done)); simp only [Act.put, List.setIfInBounds_toArray, List.set_cons_zero, List.set_cons_succ]) | (refine Ord.wpT_take (v := ?_) ?_ ?_ ?_; rotate_left; (focus (go_simp; done)); (focus (intro w' hSw; (try dsimp only at hSw); go_simp; (try with_reducible rfl); done)); simp only [Act.put, List.setIfInBounds_toArray, List.set_cons_zero, List.set_cons_succ])))
            (refine Ord.wpT_call ?_ (fun K hK => ?_); (focus (go_simp; done)); go_simp)
            (refine hK _ _ (by exact Hbox.out _ (below_go hw4 hB11)) ?_; clear hK K; (try simp only [Act.put, List.setIfInBounds_toArray, List.set_cons_zero, List.set_cons_succ]); repeat (first | (refine Ord.wpT_skip ?_ ?_; (focus (go_simp; (try (intro h; cases h)); done)); simp only [Act.put, List.setIfInBounds_toArray, List.set_cons_zero, List.set_cons_succ]) | (refine Ord.wpT_take (v := ?_) ?_ ?_ ?_; rotate_left; (focus (go_simp; done)); (focus (intro w' hSw; (try dsimp only at hSw); go_simp; (try with_reducible rfl); done)); simp only [Act.put, List.setIfInBounds_toArray, List.set_cons_zero, List.set_cons_succ])))
            (refine Ord.wpT_call ?_ (fun K hK => ?_); (focus (go_simp; done)); go_simp)
            go_at_call 57
            refine (HrW2.out _ _ (Hr12.out.below hw4)).mono ?_
            rintro r y5 ⟨vr, rfl, hr5, hb⟩
            have hw5 := below_go hb hw4
            have Hx5 := Lib.hid (Hx4.out.below hb)
            have Hr5 := Lib.hid hr5
            clear hb hr5 z0 z1 z2
            (refine hK _ _ (by exact Hbox.out _ (below_go hw5 hB11)) ?_; clear hK K; (try simp only [Act.put, List.setIfInBounds_toArray, List.set_cons_zero, List.set_cons_succ]); repeat (first | (refine Ord.wpT_skip ?_ ?_; (focus (go_simp; (try (intro h; cases h)); done)); simp only [Act.put, List.setIfInBounds_toArray, List.set_cons_zero, List.set_cons_succ]) | (refine Ord.wpT_take (v := ?_) ?_ ?_ ?_; rotate_left; (focus (go_simp; done)); (focus (intro w' hSw; (try dsimp only at hSw); go_simp; (try with_reducible rfl); done)); simp only [Act.put, List.setIfInBounds_toArray, List.set_cons_zero, List.set_cons_succ])))
            (refine Ord.wpT_call ?_ (fun K hK => ?_); (focus (go_simp; done)); go_simp)
            go_at_call 26
            refine (Hsame.out _ _ _ _ Hx5.out Hr5.out).mono ?_
            rintro r y6 ⟨rfl, hb⟩
            have hw6 := below_go hb hw5
            clear hb
            (refine hK _ _ (by exact Hbox.out _ (below_go hw6 hB11)) ?_; clear hK K; (try simp only [Act.put, List.setIfInBounds_toArray, List.set_cons_zero, List.set_cons_succ]); repeat (first | (refine Ord.wpT_skip ?_ ?_; (focus (go_simp; (try (intro h; cases h)); done)); simp only [Act.put, List.setIfInBounds_toArray, List.set_cons_zero, List.set_cons_succ]) | (refine Ord.wpT_take (v := ?_) ?_ ?_ ?_; rotate_left; (focus (go_simp; done)); (focus (intro w' hSw; (try dsimp only at hSw); go_simp; (try with_reducible rfl); done)); simp only [Act.put, List.setIfInBounds_toArray, List.set_cons_zero, List.set_cons_succ])))
            (refine Ord.wpT_call ?_ (fun K hK => ?_); (focus (go_simp; done)); go_simp)
            go_at_call 55
            refine (Hwo.out _ (below_go hw6 hB11)).mono ?_
            rintro r y7 ⟨vo, rfl, hvo, hb⟩
            have hw7 := below_go hb hw6
            have Hvo := Lib.hid hvo
            clear hb hvo
            (refine hK _ _ (by exact Hbox.out _ (below_go hw7 hB11)) ?_; clear hK K; (try simp only [Act.put, List.setIfInBounds_toArray, List.set_cons_zero, List.set_cons_succ]); repeat (first | (refine Ord.wpT_skip ?_ ?_; (focus (go_simp; (try (intro h; cases h)); done)); simp only [Act.put, List.setIfInBounds_toArray, List.set_cons_zero, List.set_cons_succ]) | (refine Ord.wpT_take (v := ?_) ?_ ?_ ?_; rotate_left; (focus (go_simp; done)); (focus (intro w' hSw; (try dsimp only at hSw); go_simp; (try with_reducible rfl); done)); simp only [Act.put, List.setIfInBounds_toArray, List.set_cons_zero, List.set_cons_succ])))
            (refine Ord.wpT_call ?_ (fun K hK => ?_); (focus (go_simp; done)); go_simp)
            go_at_call 16
            refine (HownX.out _ _ _ Hvo.out (by omega)).mono ?_
            rintro r y8 ⟨xo, rfl, ho, hb⟩
            have hw8 := below_go hb hw7
            have Hxo := Lib.hid (Rd.of_own ho)
            clear ho hb
            (refine hK _ _ (by exact Hbox.out _ (below_go hw8 hB11)) ?_; clear hK K; (try simp only [Act.put, List.setIfInBounds_toArray, List.set_cons_zero, List.set_cons_succ]); repeat (first | (refine Ord.wpT_skip ?_ ?_; (focus (go_simp; (try (intro h; cases h)); done)); simp only [Act.put, List.setIfInBounds_toArray, List.set_cons_zero, List.set_cons_succ]) | (refine Ord.wpT_take (v := ?_) ?_ ?_ ?_; rotate_left; (focus (go_simp; done)); (focus (intro w' hSw; (try dsimp only at hSw); go_simp; (try with_reducible rfl); done)); simp only [Act.put, List.setIfInBounds_toArray, List.set_cons_zero, List.set_cons_succ])))
            (refine Ord.wpT_call ?_ (fun K hK => ?_); (focus (go_simp; done)); go_simp)
            go_at_call 58
            refine (HrO.out _ _ (Hr12.out.below hw8)).mono ?_
            rintro r y9 ⟨vq, rfl, hvq, hb⟩
            have hw9 := below_go hb hw8
            have Hvq := Lib.hid hvq
            have Hxo9 := Lib.hid (Hxo.out.below hb)
            clear hvq hb
            (refine hK _ _ (by exact Hbox.out _ (below_go hw9 hB11)) ?_; clear hK K; (try simp only [Act.put, List.setIfInBounds_toArray, List.set_cons_zero, List.set_cons_succ]); repeat (first | (refine Ord.wpT_skip ?_ ?_; (focus (go_simp; (try (intro h; cases h)); done)); simp only [Act.put, List.setIfInBounds_toArray, List.set_cons_zero, List.set_cons_succ]) | (refine Ord.wpT_take (v := ?_) ?_ ?_ ?_; rotate_left; (focus (go_simp; done)); (focus (intro w' hSw; (try dsimp only at hSw); go_simp; (try with_reducible rfl); done)); simp only [Act.put, List.setIfInBounds_toArray, List.set_cons_zero, List.set_cons_succ])))
            (refine Ord.wpT_call ?_ (fun K hK => ?_); (focus (go_simp; done)); go_simp)
            go_at_call 26
            refine (Hsame.out _ _ _ _ Hxo9.out Hvq.out).mono ?_
            rintro r y10 ⟨rfl, hb⟩
            have hw10 := below_go hb hw9
            clear hb
            (refine hK _ _ (by exact Hbox.out _ (below_go hw10 hB11)) ?_; clear hK K; (try simp only [Act.put, List.setIfInBounds_toArray, List.set_cons_zero, List.set_cons_succ]); repeat (first | (refine Ord.wpT_skip ?_ ?_; (focus (go_simp; (try (intro h; cases h)); done)); simp only [Act.put, List.setIfInBounds_toArray, List.set_cons_zero, List.set_cons_succ]) | (refine Ord.wpT_take (v := ?_) ?_ ?_ ?_; rotate_left; (focus (go_simp; done)); (focus (intro w' hSw; (try dsimp only at hSw); go_simp; (try with_reducible rfl); done)); simp only [Act.put, List.setIfInBounds_toArray, List.set_cons_zero, List.set_cons_succ])))
            (refine Ord.wpT_call ?_ (fun K hK => ?_); (focus (go_simp; done)); go_simp)
            go_at_call 16
            refine (HownX.out _ _ _ (Hv.out.below (below_go hw10 hB11)) (by omega)).mono ?_
            rintro r y11 ⟨xl, rfl, ho, hb⟩
            have hw11 := below_go hb hw10
            have Hxl := Lib.hid (Rd.of_own ho)
            clear ho hb
            (refine hK _ _ (by exact Hbox.out _ (below_go hw11 hB11)) ?_; clear hK K; (try simp only [Act.put, List.setIfInBounds_toArray, List.set_cons_zero, List.set_cons_succ]); repeat (first | (refine Ord.wpT_skip ?_ ?_; (focus (go_simp; (try (intro h; cases h)); done)); simp only [Act.put, List.setIfInBounds_toArray, List.set_cons_zero, List.set_cons_succ]) | (refine Ord.wpT_take (v := ?_) ?_ ?_ ?_; rotate_left; (focus (go_simp; done)); (focus (intro w' hSw; (try dsimp only at hSw); go_simp; (try with_reducible rfl); done)); simp only [Act.put, List.setIfInBounds_toArray, List.set_cons_zero, List.set_cons_succ])))
            (refine Ord.wpT_call ?_ (fun K hK => ?_); (focus (go_simp; done)); go_simp)
            go_at_call 26
            refine (Hsame.out _ _ _ _ Hxl.out (Hr12.out.below hw11)).mono ?_
            rintro r y12 ⟨rfl, hb⟩
            have hw12 := below_go hb hw11
            clear hb
            (refine hK _ _ (by exact Hbox.out _ (below_go hw12 hB11)) ?_; clear hK K; (try simp only [Act.put, List.setIfInBounds_toArray, List.set_cons_zero, List.set_cons_succ]); repeat (first | (refine Ord.wpT_skip ?_ ?_; (focus (go_simp; (try (intro h; cases h)); done)); simp only [Act.put, List.setIfInBounds_toArray, List.set_cons_zero, List.set_cons_succ]) | (refine Ord.wpT_take (v := ?_) ?_ ?_ ?_; rotate_left; (focus (go_simp; done)); (focus (intro w' hSw; (try dsimp only at hSw); go_simp; (try with_reducible rfl); done)); simp only [Act.put, List.setIfInBounds_toArray, List.set_cons_zero, List.set_cons_succ])))
            (refine Ord.wpT_call ?_ (fun K hK => ?_); (focus (go_simp; done)); go_simp)
            go_at_call 24
            refine (Hone.out _).mono ?_
            rintro r y13 ⟨rfl, hb⟩
            have hw13 := below_go hb hw12
            clear hb
            (refine hK _ _ (by exact Hbox.out _ (below_go hw13 hB11)) ?_; clear hK K; (try simp only [Act.put, List.setIfInBounds_toArray, List.set_cons_zero, List.set_cons_succ]); repeat (first | (refine Ord.wpT_skip ?_ ?_; (focus (go_simp; (try (intro h; cases h)); done)); simp only [Act.put, List.setIfInBounds_toArray, List.set_cons_zero, List.set_cons_succ]) | (refine Ord.wpT_take (v := ?_) ?_ ?_ ?_; rotate_left; (focus (go_simp; done)); (focus (intro w' hSw; (try dsimp only at hSw); go_simp; (try with_reducible rfl); done)); simp only [Act.put, List.setIfInBounds_toArray, List.set_cons_zero, List.set_cons_succ])))
            refine Ord.wpT_nil ?_
            go_wp2_with fail
            go_ret
            exact ⟨rfl, below_go (below_go hw13 hB11) hB1⟩
        · (refine Ord.wpT_call ?_ (fun K hK => ?_); (focus (go_simp; done)); go_simp)
          have hwb : Below w11.heap.size w11 (wr.alloc (.cells e.cs.toArray 77)).drew := (hB.alloc hB.size _).drew
          have Hlb := Lib.hid (show Rd (wr.alloc (.cells e.cs.toArray 77)).drew 3 (.slice (some ⟨wr.heap.size, 0, none⟩) 1 1) 1 e.cs from (Rd.lit wr 3 1 e.cs 77 rfl (by simp [maxLen])).below (Below.refl _ _).drew)
          (refine hK _ _ (by exact Hbox.out _ (below_go hwb hB11)) ?_; clear hK K; (try simp only [Act.put, List.setIfInBounds_toArray, List.set_cons_zero, List.set_cons_succ]); repeat (first | (refine Ord.wpT_skip ?_ ?_; (focus (go_simp; (try (intro h; cases h)); done)); simp only [Act.put, List.setIfInBounds_toArray, List.set_cons_zero, List.set_cons_succ]) | (refine Ord.wpT_take (v := ?_) ?_ ?_ ?_; rotate_left; (focus (go_simp; done)); (focus (intro w' hSw; (try dsimp only at hSw); go_simp; (try with_reducible rfl); done)); simp only [Act.put, List.setIfInBounds_toArray, List.set_cons_zero, List.set_cons_succ])))
          (refine Ord.wpT_call ?_ (fun K hK => ?_); (focus (go_simp; done)); go_simp)
          go_at_call 54
          refine (Hwi.out _ (below_go hwb hB11)).mono ?_
          rintro r y1 ⟨va, rfl, ha, hb⟩
          have hw1 := below_go hb hwb
          have Ha := Lib.hid ha
          have Hlc := Lib.hid (Hlb.out.below hb)
          clear ha hb
          (refine hK _ _ (by exact Hbox.out _ (below_go hw1 hB11)) ?_; clear hK K; (try simp only [Act.put, List.setIfInBounds_toArray, List.set_cons_zero, List.set_cons_succ]); repeat (first | (refine Ord.wpT_skip ?_ ?_; (focus (go_simp; (try (intro h; cases h)); done)); simp only [Act.put, List.setIfInBounds_toArray, List.set_cons_zero, List.set_cons_succ]) | (refine Ord.wpT_take (v := ?_) ?_ ?_ ?_; rotate_left; (focus (go_simp; done)); (focus (intro w' hSw; (try dsimp only at hSw); go_simp; (try with_reducible rfl); done)); simp only [Act.put, List.setIfInBounds_toArray, List.set_cons_zero, List.set_cons_succ])))
          (refine Ord.wpT_call ?_ (fun K hK => ?_); (focus (go_simp; done)); go_simp)
          go_at_call 16
          refine (HownX.out _ _ _ Ha.out (by omega)).mono ?_
          rintro r y2 ⟨xa, rfl, ho, hb⟩
          have hw2 := below_go hb hw1
          have Hxa := Lib.hid (Rd.of_own ho)
          have Hl := Lib.hid (Hlc.out.below hb)
          clear ho hb
          (refine hK _ _ (by exact Hbox.out _ (below_go hw2 hB11)) ?_; clear hK K; (try simp only [Act.put, List.setIfInBounds_toArray, List.set_cons_zero, List.set_cons_succ]); repeat (first | (refine Ord.wpT_skip ?_ ?_; (focus (go_simp; (try (intro h; cases h)); done)); simp only [Act.put, List.setIfInBounds_toArray, List.set_cons_zero, List.set_cons_succ]) | (refine Ord.wpT_take (v := ?_) ?_ ?_ ?_; rotate_left; (focus (go_simp; done)); (focus (intro w' hSw; (try dsimp only at hSw); go_simp; (try with_reducible rfl); done)); simp only [Act.put, List.setIfInBounds_toArray, List.set_cons_zero, List.set_cons_succ])))
          have hw3 := hw2
          have Hx3 := Hxa
          (refine Ord.wpT_call ?_ (fun K hK => ?_); (focus (go_simp; done)); go_simp)
          go_at_call 16
          refine (HownE.out _ _ Hl.out).mono ?_
          rintro r y4 ⟨be, oe, ce, rfl, ⟨z0, z1, z2⟩, hb⟩
          have hw4 := below_go hb hw3
          have Hx4 := Lib.hid (Hx3.out.below hb)
          clear hb
          (refine hK _ _ (by exact Hbox.out _ (below_go hw4 hB11)) ?_; clear hK K; (try simp only [Act.put, List.setIfInBounds_toArray, List.set_cons_zero, List.set_cons_succ]); repeat (first | (refine Ord.wpT_skip ?_ ?_; (focus (go_simp; (try (intro h; cases h)); done)); simp only [Act.put, List.setIfInBounds_toArray, List.set_cons_zero, List.set_cons_succ]) | (refine Ord.wpT_take (v := ?_) ?_ ?_ ?_; rotate_left; (focus (go_simp; done)); (focus (intro w' hSw; (try dsimp only at hSw); go_simp; (try with_reducible rfl); done)); simp only [Act.put, List.setIfInBounds_toArray, List.set_cons_zero, List.set_cons_succ])))
          (refine Ord.wpT_call ?_ (fun K hK => ?_); (focus (go_simp; done)); go_simp)
          (refine hK _ _ (by exact Hbox.out _ (below_go hw4 hB11)) ?_; clear hK K; (try simp only [Act.put, List.setIfInBounds_toArray, List.set_cons_zero, List.set_cons_succ]); repeat (first | (refine Ord.wpT_skip ?_ ?_; (focus (go_simp; (try (intro h; cases h)); done)); simp only [Act.put, List.setIfInBounds_toArray, List.set_cons_zero, List.set_cons_succ]) | (refine Ord.wpT_take (v := ?_) ?_ ?_ ?_; rotate_left; (focus (go_simp; done)); (focus (intro w' hSw; (try dsimp only at hSw); go_simp; (try with_reducible rfl); done)); simp only [Act.put, List.setIfInBounds_toArray, List.set_cons_zero, List.set_cons_succ])))
          (refine Ord.wpT_call ?_ (fun K hK => ?_); (focus (go_simp; done)); go_simp)
          go_at_call 57
          refine (HrW2.out _ _ (Hr12.out.below hw4)).mono ?_
          rintro r y5 ⟨vr, rfl, hr5, hb⟩
          have hw5 := below_go hb hw4
          have Hx5 := Lib.hid (Hx4.out.below hb)
          have Hr5 := Lib.hid hr5
          clear hb hr5 z0 z1 z2
          (refine hK _ _ (by exact Hbox.out _ (below_go hw5 hB11)) ?_; clear hK K; (try simp only [Act.put, List.setIfInBounds_toArray, List.set_cons_zero, List.set_cons_succ]); repeat (first | (refine Ord.wpT_skip ?_ ?_; (focus (go_simp; (try (intro h; cases h)); done)); simp only [Act.put, List.setIfInBounds_toArray, List.set_cons_zero, List.set_cons_succ]) | (refine Ord.wpT_take (v := ?_) ?_ ?_ ?_; rotate_left; (focus (go_simp; done)); (focus (intro w' hSw; (try dsimp only at hSw); go_simp; (try with_reducible rfl); done)); simp only [Act.put, List.setIfInBounds_toArray, List.set_cons_zero, List.set_cons_succ])))
          (refine Ord.wpT_call ?_ (fun K hK => ?_); (focus (go_simp; done)); go_simp)
          go_at_call 26
          refine (Hsame.out _ _ _ _ Hx5.out Hr5.out).mono ?_
          rintro r y6 ⟨rfl, hb⟩
          have hw6 := below_go hb hw5
          clear hb
          (refine hK _ _ (by exact Hbox.out _ (below_go hw6 hB11)) ?_; clear hK K; (try simp only [Act.put, List.setIfInBounds_toArray, List.set_cons_zero, List.set_cons_succ]); repeat (first | (refine Ord.wpT_skip ?_ ?_; (focus (go_simp; (try (intro h; cases h)); done)); simp only [Act.put, List.setIfInBounds_toArray, List.set_cons_zero, List.set_cons_succ]) | (refine Ord.wpT_take (v := ?_) ?_ ?_ ?_; rotate_left; (focus (go_simp; done)); (focus (intro w' hSw; (try dsimp only at hSw); go_simp; (try with_reducible rfl); done)); simp only [Act.put, List.setIfInBounds_toArray, List.set_cons_zero, List.set_cons_succ])))
          (refine Ord.wpT_call ?_ (fun K hK => ?_); (focus (go_simp; done)); go_simp)
          go_at_call 55
          refine (Hwo.out _ (below_go hw6 hB11)).mono ?_
          rintro r y7 ⟨vo, rfl, hvo, hb⟩
          have hw7 := below_go hb hw6
          have Hvo := Lib.hid hvo
          clear hb hvo
          (refine hK _ _ (by exact Hbox.out _ (below_go hw7 hB11)) ?_; clear hK K; (try simp only [Act.put, List.setIfInBounds_toArray, List.set_cons_zero, List.set_cons_succ]); repeat (first | (refine Ord.wpT_skip ?_ ?_; (focus (go_simp; (try (intro h; cases h)); done)); simp only [Act.put, List.setIfInBounds_toArray, List.set_cons_zero, List.set_cons_succ]) | (refine Ord.wpT_take (v := ?_) ?_ ?_ ?_; rotate_left; (focus (go_simp; done)); (focus (intro w' hSw; (try dsimp only at hSw); go_simp; (try with_reducible rfl); done)); simp only [Act.put, List.setIfInBounds_toArray, List.set_cons_zero, List.set_cons_succ])))
          (refine Ord.wpT_call ?_ (fun K hK => ?_); (focus (go_simp; done)); go_simp)
          go_at_call 16
          refine (HownX.out _ _ _ Hvo.out (by omega)).mono ?_
          rintro r y8 ⟨xo, rfl, ho, hb⟩
          have hw8 := below_go hb hw7
          have Hxo := Lib.hid (Rd.of_own ho)
          clear ho hb
          (refine hK _ _ (by exact Hbox.out _ (below_go hw8 hB11)) ?_; clear hK K; (try simp only [Act.put, List.setIfInBounds_toArray, List.set_cons_zero, List.set_cons_succ]); repeat (first | (refine Ord.wpT_skip ?_ ?_; (focus (go_simp; (try (intro h; cases h)); done)); simp only [Act.put, List.setIfInBounds_toArray, List.set_cons_zero, List.set_cons_succ]) | (refine Ord.wpT_take (v := ?_) ?_ ?_ ?_; rotate_left; (focus (go_simp; done)); (focus (intro w' hSw; (try dsimp only at hSw); go_simp; (try with_reducible rfl); done)); simp only [Act.put, List.setIfInBounds_toArray, List.set_cons_zero, List.set_cons_succ])))
          (refine Ord.wpT_call ?_ (fun K hK => ?_); (focus (go_simp; done)); go_simp)
          go_at_call 58
          refine (HrO.out _ _ (Hr12.out.below hw8)).mono ?_
          rintro r y9 ⟨vq, rfl, hvq, hb⟩
          have hw9 := below_go hb hw8
          have Hvq := Lib.hid hvq
          have Hxo9 := Lib.hid (Hxo.out.below hb)
          clear hvq hb
          (refine hK _ _ (by exact Hbox.out _ (below_go hw9 hB11)) ?_; clear hK K; (try simp only [Act.put, List.setIfInBounds_toArray, List.set_cons_zero, List.set_cons_succ]); repeat (first | (refine Ord.wpT_skip ?_ ?_; (focus (go_simp; (try (intro h; cases h)); done)); simp only [Act.put, List.setIfInBounds_toArray, List.set_cons_zero, List.set_cons_succ]) | (refine Ord.wpT_take (v := ?_) ?_ ?_ ?_; rotate_left; (focus (go_simp; done)); (focus (intro w' hSw; (try dsimp only at hSw); go_simp; (try with_reducible rfl); done)); simp only [Act.put, List.setIfInBounds_toArray, List.set_cons_zero, List.set_cons_succ])))
          (refine Ord.wpT_call ?_ (fun K hK => ?_); (focus (go_simp; done)); go_simp)
          go_at_call 26
          refine (Hsame.out _ _ _ _ Hxo9.out Hvq.out).mono ?_
          rintro r y10 ⟨rfl, hb⟩
          have hw10 := below_go hb hw9
          clear hb
          (refine hK _ _ (by exact Hbox.out _ (below_go hw10 hB11)) ?_; clear hK K; (try simp only [Act.put, List.setIfInBounds_toArray, List.set_cons_zero, List.set_cons_succ]); repeat (first | (refine Ord.wpT_skip ?_ ?_; (focus (go_simp; (try (intro h; cases h)); done)); simp only [Act.put, List.setIfInBounds_toArray, List.set_cons_zero, List.set_cons_succ]) | (refine Ord.wpT_take (v := ?_) ?_ ?_ ?_; rotate_left; (focus (go_simp; done)); (focus (intro w' hSw; (try dsimp only at hSw); go_simp; (try with_reducible rfl); done)); simp only [Act.put, List.setIfInBounds_toArray, List.set_cons_zero, List.set_cons_succ])))
          (refine Ord.wpT_call ?_ (fun K hK => ?_); (focus (go_simp; done)); go_simp)
          go_at_call 16
          refine (HownX.out _ _ _ (Hv.out.below (below_go hw10 hB11)) (by omega)).mono ?_
          rintro r y11 ⟨xl, rfl, ho, hb⟩
          have hw11 := below_go hb hw10
          have Hxl := Lib.hid (Rd.of_own ho)
          clear ho hb
          (refine hK _ _ (by exact Hbox.out _ (below_go hw11 hB11)) ?_; clear hK K; (try simp only [Act.put, List.setIfInBounds_toArray, List.set_cons_zero, List.set_cons_succ]); repeat (first | (refine Ord.wpT_skip ?_ ?_; (focus (go_simp; (try (intro h; cases h)); done)); simp only [Act.put, List.setIfInBounds_toArray, List.set_cons_zero, List.set_cons_succ]) | (refine Ord.wpT_take (v := ?_) ?_ ?_ ?_; rotate_left; (focus (go_simp; done)); (focus (intro w' hSw; (try dsimp only at hSw); go_simp; (try with_reducible rfl); done)); simp only [Act.put, List.setIfInBounds_toArray, List.set_cons_zero, List.set_cons_succ])))
          (refine Ord.wpT_call ?_ (fun K hK => ?_); (focus (go_simp; done)); go_simp)
          go_at_call 26
          refine (Hsame.out _ _ _ _ Hxl.out (Hr12.out.below hw11)).mono ?_
          rintro r y12 ⟨rfl, hb⟩
          have hw12 := below_go hb hw11
          clear hb
          (refine hK _ _ (by exact Hbox.out _ (below_go hw12 hB11)) ?_; clear hK K; (try simp only [Act.put, List.setIfInBounds_toArray, List.set_cons_zero, List.set_cons_succ]); repeat (first | (refine Ord.wpT_skip ?_ ?_; (focus (go_simp; (try (intro h; cases h)); done)); simp only [Act.put, List.setIfInBounds_toArray, List.set_cons_zero, List.set_cons_succ]) | (refine Ord.wpT_take (v := ?_) ?_ ?_ ?_; rotate_left; (focus (go_simp; done)); (focus (intro w' hSw; (try dsimp only at hSw); go_simp; (try with_reducible rfl); done)); simp only [Act.put, List.setIfInBounds_toArray, List.set_cons_zero, List.set_cons_succ])))
          (refine Ord.wpT_call ?_ (fun K hK => ?_); (focus (go_simp; done)); go_simp)
          go_at_call 24
          refine (Hone.out _).mono ?_
          rintro r y13 ⟨rfl, hb⟩
          have hw13 := below_go hb hw12
          clear hb
          (refine hK _ _ (by exact Hbox.out _ (below_go hw13 hB11)) ?_; clear hK K; (try simp only [Act.put, List.setIfInBounds_toArray, List.set_cons_zero, List.set_cons_succ]); repeat (first | (refine Ord.wpT_skip ?_ ?_; (focus (go_simp; (try (intro h; cases h)); done)); simp only [Act.put, List.setIfInBounds_toArray, List.set_cons_zero, List.set_cons_succ]) | (refine Ord.wpT_take (v := ?_) ?_ ?_ ?_; rotate_left; (focus (go_simp; done)); (focus (intro w' hSw; (try dsimp only at hSw); go_simp; (try with_reducible rfl); done)); simp only [Act.put, List.setIfInBounds_toArray, List.set_cons_zero, List.set_cons_succ])))
          refine Ord.wpT_nil ?_
          go_wp2_with fail
          go_ret
          exact ⟨rfl, below_go (below_go hw13 hB11) hB1⟩
      have hd1 : decide ((n : Int) < (l.length : Int)) = true := decide_eq_true (by omega)
      obtain ⟨b, off, rfl, hcell⟩ := ents_at (Hr12.out.below hB) rfl (by omega)
      obtain ⟨d0, -, -⟩ := hcell n hnn
      have hkl := Hh2.out n hnn
      have hbx := fun W h => Hbox.out W (below_go (below_go h hB) hB11)
      have hcl := cnt_le l e.key n
      have Hc1 := Lib.hid (show cnt l e.key (n + 1) = cnt l e.key n + (if Op.bytesLess (l.getD n L.zero).key e.key then 1 else 0) from rfl)
      have Hh1 := Lib.hid (show had l e.key (n + 1) = (had l e.key n || (l.getD n L.zero).key == e.key) from rfl)
      have hle := fun W => Less_any (l.getD n L.zero).key e.key W (by unfold maxLen; omega) (by unfold maxLen; omega)
      generalize (l.getD n L.zero).key = kk at d0 Hc1 Hh1 hle
      have hcw := fun W (h : Below wr.heap.size wr W) => (show (W.cell? ⟨g0, 0, none⟩ = some (.string (str e.key)) ∧ W.cell? ⟨g0, 1, none⟩ = some (.int .i64 e.first) ∧ W.cell? ⟨g0, 2, none⟩ = some (.int .i64 e.len)) ∧ W.cell? ⟨b, off + n * 3, none⟩ = some (.string (str kk)) from ⟨hbx W h, cell_below h d0⟩)
      have Hcw := Lib.hid hcw
      generalize cnt l e.key n = cn at Hc1 hcl ⊢
      generalize had l e.key n = hd0 at Hh1 ⊢
      have i0 : (0 : Int) ≤ (n : Int) := by omega
      have i1 : (n : Int) < (l.length : Int) := by omega
      have hw1 : IntKind.i64.wrap ((cn : Int) + 1) = (cn : Int) + 1 := by rw [IntKind.wrap_i64]; omega
      clear hcell hkl hbx d0 hcw
      cases hlt : Op.bytesLess kk e.key with
      | true =>
        rw [hlt] at hle
        have Hle := Lib.hid hle
        have Hcn1 := Lib.hid (show cnt l e.key (n + 1) = cn + 1 by rw [Hc1.out, hlt]; rfl)
        clear hle hlt Hc1
        cases hd0 with
        | true =>
          have Hhd1 := Lib.hid (show had l e.key (n + 1) = true by rw [Hh1.out]; rfl)
          go_upto_region 16 with fail
          (refine Ord.wp_region_ord [(false, 0), (false, 1), (false, 2), (false, 3), (false, 4), (false, 5), (false, 6), (true, 7)] (fun W => (W.cell? ⟨g0, 0, none⟩ = some (.string (str e.key)) ∧ W.cell? ⟨g0, 1, none⟩ = some (.int .i64 e.first) ∧ W.cell? ⟨g0, 2, none⟩ = some (.int .i64 e.len)) ∧ W.cell? ⟨b, off + n * 3, none⟩ = some (.string (str kk))) (by kernel_rfl) (by kernel_rfl) (by kernel_rfl) (by kernel_rfl) (by exact Hcw.out _ (Below.refl _ _).drew) ?_; simp only [Ord.ordOps, List.filterMap_cons, List.filterMap_nil, List.getElem?_toArray, List.getElem?_cons_succ, List.getElem?_cons_zero, Option.map_some]; repeat (first | (refine Ord.wpOrd_skip ?_ ?_; (focus (go_simp; (try (intro h; cases h)); done)); simp only [Act.put, List.setIfInBounds_toArray, List.set_cons_zero, List.set_cons_succ]) | (refine Ord.wpOrd_take (v := ?_) ?_ ?_ ?_; rotate_left; (focus (go_simp; done)); (focus (intro w' hSw; (try dsimp only at hSw); go_simp; (try with_reducible rfl); done)); simp only [Act.put, List.setIfInBounds_toArray, List.set_cons_zero, List.set_cons_succ])))
          (refine Ord.wpOrd_call ?_ (fun K hK => ?_); (focus (go_simp; done)); go_simp)
          go_at_call 56
          refine (Hle.out _).mono ?_
          rintro r w12 ⟨rfl, hb12⟩
          have hb12' := below_go hb12 (Below.refl _ _).drew
          (refine hK _ _ (by exact Hcw.out _ hb12') ?_; clear hK K; (try simp only [Act.put, List.setIfInBounds_toArray, List.set_cons_zero, List.set_cons_succ]); repeat (first | (refine Ord.wpOrd_skip ?_ ?_; (focus (go_simp; (try (intro h; cases h)); done)); simp only [Act.put, List.setIfInBounds_toArray, List.set_cons_zero, List.set_cons_succ]) | (refine Ord.wpOrd_take (v := ?_) ?_ ?_ ?_; rotate_left; (focus (go_simp; done)); (focus (intro w' hSw; (try dsimp only at hSw); go_simp; (try with_reducible rfl); done)); simp only [Act.put, List.setIfInBounds_toArray, List.set_cons_zero, List.set_cons_succ])))
          refine Ord.wpOrd_nil ?_
          go_upto_region 18 with fail
          (refine Ord.wp_region_ord [(false, 0), (false, 1), (false, 2), (false, 3), (false, 4), (false, 5), (false, 6), (false, 7), (false, 8), (false, 9), (false, 10), (false, 11)] (fun W => (W.cell? ⟨g0, 0, none⟩ = some (.string (str e.key)) ∧ W.cell? ⟨g0, 1, none⟩ = some (.int .i64 e.first) ∧ W.cell? ⟨g0, 2, none⟩ = some (.int .i64 e.len)) ∧ W.cell? ⟨b, off + n * 3, none⟩ = some (.string (str kk))) (by kernel_rfl) (by kernel_rfl) (by kernel_rfl) (by kernel_rfl) (by exact Hcw.out _ hb12'.drew) ?_; simp only [Ord.ordOps, List.filterMap_cons, List.filterMap_nil, List.getElem?_toArray, List.getElem?_cons_succ, List.getElem?_cons_zero, Option.map_some]; repeat (first | (refine Ord.wpOrd_skip ?_ ?_; (focus (go_simp; (try (intro h; cases h)); done)); simp only [Act.put, List.setIfInBounds_toArray, List.set_cons_zero, List.set_cons_succ]) | (refine Ord.wpOrd_take (v := ?_) ?_ ?_ ?_; rotate_left; (focus (go_simp; done)); (focus (intro w' hSw; (try dsimp only at hSw); go_simp; (try with_reducible rfl); done)); simp only [Act.put, List.setIfInBounds_toArray, List.set_cons_zero, List.set_cons_succ])))
          refine Ord.wpOrd_nil ?_
          go_wp2_with fail
          exact ⟨⟨n + 1, by omega, by go_num, by rw [Hcn1.out] <;> go_num, by rw [Hhd1.out], below_go hb12'.drew hB⟩, by simp only [intOf]; omega⟩
        | false =>
          cases hkq : (kk == e.key) with
          | true =>
            have Hhd1 := Lib.hid (show had l e.key (n + 1) = true by rw [Hh1.out, hkq]; rfl)
            go_upto_region 16 with fail
            (refine Ord.wp_region_ord [(false, 0), (false, 1), (false, 2), (false, 3), (false, 4), (false, 5), (false, 6), (true, 7)] (fun W => (W.cell? ⟨g0, 0, none⟩ = some (.string (str e.key)) ∧ W.cell? ⟨g0, 1, none⟩ = some (.int .i64 e.first) ∧ W.cell? ⟨g0, 2, none⟩ = some (.int .i64 e.len)) ∧ W.cell? ⟨b, off + n * 3, none⟩ = some (.string (str kk))) (by kernel_rfl) (by kernel_rfl) (by kernel_rfl) (by kernel_rfl) (by exact Hcw.out _ (Below.refl _ _).drew) ?_; simp only [Ord.ordOps, List.filterMap_cons, List.filterMap_nil, List.getElem?_toArray, List.getElem?_cons_succ, List.getElem?_cons_zero, Option.map_some]; repeat (first | (refine Ord.wpOrd_skip ?_ ?_; (focus (go_simp; (try (intro h; cases h)); done)); simp only [Act.put, List.setIfInBounds_toArray, List.set_cons_zero, List.set_cons_succ]) | (refine Ord.wpOrd_take (v := ?_) ?_ ?_ ?_; rotate_left; (focus (go_simp; done)); (focus (intro w' hSw; (try dsimp only at hSw); go_simp; (try with_reducible rfl); done)); simp only [Act.put, List.setIfInBounds_toArray, List.set_cons_zero, List.set_cons_succ])))
            (refine Ord.wpOrd_call ?_ (fun K hK => ?_); (focus (go_simp; done)); go_simp)
            go_at_call 56
            refine (Hle.out _).mono ?_
            rintro r w12 ⟨rfl, hb12⟩
            have hb12' := below_go hb12 (Below.refl _ _).drew
            (refine hK _ _ (by exact Hcw.out _ hb12') ?_; clear hK K; (try simp only [Act.put, List.setIfInBounds_toArray, List.set_cons_zero, List.set_cons_succ]); repeat (first | (refine Ord.wpOrd_skip ?_ ?_; (focus (go_simp; (try (intro h; cases h)); done)); simp only [Act.put, List.setIfInBounds_toArray, List.set_cons_zero, List.set_cons_succ]) | (refine Ord.wpOrd_take (v := ?_) ?_ ?_ ?_; rotate_left; (focus (go_simp; done)); (focus (intro w' hSw; (try dsimp only at hSw); go_simp; (try with_reducible rfl); done)); simp only [Act.put, List.setIfInBounds_toArray, List.set_cons_zero, List.set_cons_succ])))
            refine Ord.wpOrd_nil ?_
            go_upto_region 18 with fail
            (refine Ord.wp_region_ord [(false, 0), (false, 1), (false, 2), (false, 3), (false, 4), (false, 5), (false, 6), (false, 7), (false, 8), (false, 9), (false, 10), (false, 11)] (fun W => (W.cell? ⟨g0, 0, none⟩ = some (.string (str e.key)) ∧ W.cell? ⟨g0, 1, none⟩ = some (.int .i64 e.first) ∧ W.cell? ⟨g0, 2, none⟩ = some (.int .i64 e.len)) ∧ W.cell? ⟨b, off + n * 3, none⟩ = some (.string (str kk))) (by kernel_rfl) (by kernel_rfl) (by kernel_rfl) (by kernel_rfl) (by exact Hcw.out _ hb12'.drew) ?_; simp only [Ord.ordOps, List.filterMap_cons, List.filterMap_nil, List.getElem?_toArray, List.getElem?_cons_succ, List.getElem?_cons_zero, Option.map_some]; repeat (first | (refine Ord.wpOrd_skip ?_ ?_; (focus (go_simp; (try (intro h; cases h)); done)); simp only [Act.put, List.setIfInBounds_toArray, List.set_cons_zero, List.set_cons_succ]) | (refine Ord.wpOrd_take (v := ?_) ?_ ?_ ?_; rotate_left; (focus (go_simp; done)); (focus (intro w' hSw; (try dsimp only at hSw); go_simp; (try with_reducible rfl); done)); simp only [Act.put, List.setIfInBounds_toArray, List.set_cons_zero, List.set_cons_succ])))
            refine Ord.wpOrd_nil ?_
            go_wp2_with fail
            exact ⟨⟨n + 1, by omega, by go_num, by rw [Hcn1.out] <;> go_num, by rw [Hhd1.out], below_go hb12'.drew hB⟩, by simp only [intOf]; omega⟩
          | false =>
            have Hhd1 := Lib.hid (show had l e.key (n + 1) = false by rw [Hh1.out, hkq]; rfl)
            go_upto_region 16 with fail
            (refine Ord.wp_region_ord [(false, 0), (false, 1), (false, 2), (false, 3), (false, 4), (false, 5), (false, 6), (true, 7)] (fun W => (W.cell? ⟨g0, 0, none⟩ = some (.string (str e.key)) ∧ W.cell? ⟨g0, 1, none⟩ = some (.int .i64 e.first) ∧ W.cell? ⟨g0, 2, none⟩ = some (.int .i64 e.len)) ∧ W.cell? ⟨b, off + n * 3, none⟩ = some (.string (str kk))) (by kernel_rfl) (by kernel_rfl) (by kernel_rfl) (by kernel_rfl) (by exact Hcw.out _ (Below.refl _ _).drew) ?_; simp only [Ord.ordOps, List.filterMap_cons, List.filterMap_nil, List.getElem?_toArray, List.getElem?_cons_succ, List.getElem?_cons_zero, Option.map_some]; repeat (first | (refine Ord.wpOrd_skip ?_ ?_; (focus (go_simp; (try (intro h; cases h)); done)); simp only [Act.put, List.setIfInBounds_toArray, List.set_cons_zero, List.set_cons_succ]) | (refine Ord.wpOrd_take (v := ?_) ?_ ?_ ?_; rotate_left; (focus (go_simp; done)); (focus (intro w' hSw; (try dsimp only at hSw); go_simp; (try with_reducible rfl); done)); simp only [Act.put, List.setIfInBounds_toArray, List.set_cons_zero, List.set_cons_succ])))
            (refine Ord.wpOrd_call ?_ (fun K hK => ?_); (focus (go_simp; done)); go_simp)
            go_at_call 56
            refine (Hle.out _).mono ?_
            rintro r w12 ⟨rfl, hb12⟩
            have hb12' := below_go hb12 (Below.refl _ _).drew
            (refine hK _ _ (by exact Hcw.out _ hb12') ?_; clear hK K; (try simp only [Act.put, List.setIfInBounds_toArray, List.set_cons_zero, List.set_cons_succ]); repeat (first | (refine Ord.wpOrd_skip ?_ ?_; (focus (go_simp; (try (intro h; cases h)); done)); simp only [Act.put, List.setIfInBounds_toArray, List.set_cons_zero, List.set_cons_succ]) | (refine Ord.wpOrd_take (v := ?_) ?_ ?_ ?_; rotate_left; (focus (go_simp; done)); (focus (intro w' hSw; (try dsimp only at hSw); go_simp; (try with_reducible rfl); done)); simp only [Act.put, List.setIfInBounds_toArray, List.set_cons_zero, List.set_cons_succ])))
            refine Ord.wpOrd_nil ?_
            go_upto_region 18 with fail
            (refine Ord.wp_region_ord [(false, 0), (false, 1), (false, 2), (false, 3), (false, 4), (false, 5), (false, 6), (false, 7), (false, 8), (false, 9), (false, 10), (false, 11)] (fun W => (W.cell? ⟨g0, 0, none⟩ = some (.string (str e.key)) ∧ W.cell? ⟨g0, 1, none⟩ = some (.int .i64 e.first) ∧ W.cell? ⟨g0, 2, none⟩ = some (.int .i64 e.len)) ∧ W.cell? ⟨b, off + n * 3, none⟩ = some (.string (str kk))) (by kernel_rfl) (by kernel_rfl) (by kernel_rfl) (by kernel_rfl) (by exact Hcw.out _ hb12'.drew) ?_; simp only [Ord.ordOps, List.filterMap_cons, List.filterMap_nil, List.getElem?_toArray, List.getElem?_cons_succ, List.getElem?_cons_zero, Option.map_some]; repeat (first | (refine Ord.wpOrd_skip ?_ ?_; (focus (go_simp; (try (intro h; cases h)); done)); simp only [Act.put, List.setIfInBounds_toArray, List.set_cons_zero, List.set_cons_succ]) | (refine Ord.wpOrd_take (v := ?_) ?_ ?_ ?_; rotate_left; (focus (go_simp; done)); (focus (intro w' hSw; (try dsimp only at hSw); go_simp; (try with_reducible rfl); done)); simp only [Act.put, List.setIfInBounds_toArray, List.set_cons_zero, List.set_cons_succ])))
            refine Ord.wpOrd_nil ?_
            go_wp2_with fail
            exact ⟨⟨n + 1, by omega, by go_num, by rw [Hcn1.out] <;> go_num, by rw [Hhd1.out], below_go hb12'.drew hB⟩, by simp only [intOf]; omega⟩
      | false =>
        rw [hlt] at hle
        have Hle := Lib.hid hle
        have Hcn1 := Lib.hid (show cnt l e.key (n + 1) = cn by rw [Hc1.out, hlt]; rfl)
        clear hle hlt Hc1
        cases hd0 with
        | true =>
          have Hhd1 := Lib.hid (show had l e.key (n + 1) = true by rw [Hh1.out]; rfl)
          go_upto_region 16 with fail
          (refine Ord.wp_region_ord [(false, 0), (false, 1), (false, 2), (false, 3), (false, 4), (false, 5), (false, 6), (true, 7)] (fun W => (W.cell? ⟨g0, 0, none⟩ = some (.string (str e.key)) ∧ W.cell? ⟨g0, 1, none⟩ = some (.int .i64 e.first) ∧ W.cell? ⟨g0, 2, none⟩ = some (.int .i64 e.len)) ∧ W.cell? ⟨b, off + n * 3, none⟩ = some (.string (str kk))) (by kernel_rfl) (by kernel_rfl) (by kernel_rfl) (by kernel_rfl) (by exact Hcw.out _ (Below.refl _ _).drew) ?_; simp only [Ord.ordOps, List.filterMap_cons, List.filterMap_nil, List.getElem?_toArray, List.getElem?_cons_succ, List.getElem?_cons_zero, Option.map_some]; repeat (first | (refine Ord.wpOrd_skip ?_ ?_; (focus (go_simp; (try (intro h; cases h)); done)); simp only [Act.put, List.setIfInBounds_toArray, List.set_cons_zero, List.set_cons_succ]) | (refine Ord.wpOrd_take (v := ?_) ?_ ?_ ?_; rotate_left; (focus (go_simp; done)); (focus (intro w' hSw; (try dsimp only at hSw); go_simp; (try with_reducible rfl); done)); simp only [Act.put, List.setIfInBounds_toArray, List.set_cons_zero, List.set_cons_succ])))
          (refine Ord.wpOrd_call ?_ (fun K hK => ?_); (focus (go_simp; done)); go_simp)
          go_at_call 56
          refine (Hle.out _).mono ?_
          rintro r w12 ⟨rfl, hb12⟩
          have hb12' := below_go hb12 (Below.refl _ _).drew
          (refine hK _ _ (by exact Hcw.out _ hb12') ?_; clear hK K; (try simp only [Act.put, List.setIfInBounds_toArray, List.set_cons_zero, List.set_cons_succ]); repeat (first | (refine Ord.wpOrd_skip ?_ ?_; (focus (go_simp; (try (intro h; cases h)); done)); simp only [Act.put, List.setIfInBounds_toArray, List.set_cons_zero, List.set_cons_succ]) | (refine Ord.wpOrd_take (v := ?_) ?_ ?_ ?_; rotate_left; (focus (go_simp; done)); (focus (intro w' hSw; (try dsimp only at hSw); go_simp; (try with_reducible rfl); done)); simp only [Act.put, List.setIfInBounds_toArray, List.set_cons_zero, List.set_cons_succ])))
          refine Ord.wpOrd_nil ?_
          go_upto_region 18 with fail
          (refine Ord.wp_region_ord [(false, 0), (false, 1), (false, 2), (false, 3), (false, 4), (false, 5), (false, 6), (false, 7), (false, 8), (false, 9), (false, 10), (false, 11)] (fun W => (W.cell? ⟨g0, 0, none⟩ = some (.string (str e.key)) ∧ W.cell? ⟨g0, 1, none⟩ = some (.int .i64 e.first) ∧ W.cell? ⟨g0, 2, none⟩ = some (.int .i64 e.len)) ∧ W.cell? ⟨b, off + n * 3, none⟩ = some (.string (str kk))) (by kernel_rfl) (by kernel_rfl) (by kernel_rfl) (by kernel_rfl) (by exact Hcw.out _ hb12'.drew) ?_; simp only [Ord.ordOps, List.filterMap_cons, List.filterMap_nil, List.getElem?_toArray, List.getElem?_cons_succ, List.getElem?_cons_zero, Option.map_some]; repeat (first | (refine Ord.wpOrd_skip ?_ ?_; (focus (go_simp; (try (intro h; cases h)); done)); simp only [Act.put, List.setIfInBounds_toArray, List.set_cons_zero, List.set_cons_succ]) | (refine Ord.wpOrd_take (v := ?_) ?_ ?_ ?_; rotate_left; (focus (go_simp; done)); (focus (intro w' hSw; (try dsimp only at hSw); go_simp; (try with_reducible rfl); done)); simp only [Act.put, List.setIfInBounds_toArray, List.set_cons_zero, List.set_cons_succ])))
          refine Ord.wpOrd_nil ?_
          go_wp2_with fail
          exact ⟨⟨n + 1, by omega, by go_num, by rw [Hcn1.out] <;> go_num, by rw [Hhd1.out], below_go hb12'.drew hB⟩, by simp only [intOf]; omega⟩
        | false =>
          cases hkq : (kk == e.key) with
          | true =>
            have Hhd1 := Lib.hid (show had l e.key (n + 1) = true by rw [Hh1.out, hkq]; rfl)
            go_upto_region 16 with fail
            (refine Ord.wp_region_ord [(false, 0), (false, 1), (false, 2), (false, 3), (false, 4), (false, 5), (false, 6), (true, 7)] (fun W => (W.cell? ⟨g0, 0, none⟩ = some (.string (str e.key)) ∧ W.cell? ⟨g0, 1, none⟩ = some (.int .i64 e.first) ∧ W.cell? ⟨g0, 2, none⟩ = some (.int .i64 e.len)) ∧ W.cell? ⟨b, off + n * 3, none⟩ = some (.string (str kk))) (by kernel_rfl) (by kernel_rfl) (by kernel_rfl) (by kernel_rfl) (by exact Hcw.out _ (Below.refl _ _).drew) ?_; simp only [Ord.ordOps, List.filterMap_cons, List.filterMap_nil, List.getElem?_toArray, List.getElem?_cons_succ, List.getElem?_cons_zero, Option.map_some]; repeat (first | (refine Ord.wpOrd_skip ?_ ?_; (focus (go_simp; (try (intro h; cases h)); done)); simp only [Act.put, List.setIfInBounds_toArray, List.set_cons_zero, List.set_cons_succ]) | (refine Ord.wpOrd_take (v := ?_) ?_ ?_ ?_; rotate_left; (focus (go_simp; done)); (focus (intro w' hSw; (try dsimp only at hSw); go_simp; (try with_reducible rfl); done)); simp only [Act.put, List.setIfInBounds_toArray, List.set_cons_zero, List.set_cons_succ])))
            (refine Ord.wpOrd_call ?_ (fun K hK => ?_); (focus (go_simp; done)); go_simp)
            go_at_call 56
            refine (Hle.out _).mono ?_
            rintro r w12 ⟨rfl, hb12⟩
            have hb12' := below_go hb12 (Below.refl _ _).drew
            (refine hK _ _ (by exact Hcw.out _ hb12') ?_; clear hK K; (try simp only [Act.put, List.setIfInBounds_toArray, List.set_cons_zero, List.set_cons_succ]); repeat (first | (refine Ord.wpOrd_skip ?_ ?_; (focus (go_simp; (try (intro h; cases h)); done)); simp only [Act.put, List.setIfInBounds_toArray, List.set_cons_zero, List.set_cons_succ]) | (refine Ord.wpOrd_take (v := ?_) ?_ ?_ ?_; rotate_left; (focus (go_simp; done)); (focus (intro w' hSw; (try dsimp only at hSw); go_simp; (try with_reducible rfl); done)); simp only [Act.put, List.setIfInBounds_toArray, List.set_cons_zero, List.set_cons_succ])))
            refine Ord.wpOrd_nil ?_
            go_upto_region 18 with fail
            (refine Ord.wp_region_ord [(false, 0), (false, 1), (false, 2), (false, 3), (false, 4), (false, 5), (false, 6), (false, 7), (false, 8), (false, 9), (false, 10), (false, 11)] (fun W => (W.cell? ⟨g0, 0, none⟩ = some (.string (str e.key)) ∧ W.cell? ⟨g0, 1, none⟩ = some (.int .i64 e.first) ∧ W.cell? ⟨g0, 2, none⟩ = some (.int .i64 e.len)) ∧ W.cell? ⟨b, off + n * 3, none⟩ = some (.string (str kk))) (by kernel_rfl) (by kernel_rfl) (by kernel_rfl) (by kernel_rfl) (by exact Hcw.out _ hb12'.drew) ?_; simp only [Ord.ordOps, List.filterMap_cons, List.filterMap_nil, List.getElem?_toArray, List.getElem?_cons_succ, List.getElem?_cons_zero, Option.map_some]; repeat (first | (refine Ord.wpOrd_skip ?_ ?_; (focus (go_simp; (try (intro h; cases h)); done)); simp only [Act.put, List.setIfInBounds_toArray, List.set_cons_zero, List.set_cons_succ]) | (refine Ord.wpOrd_take (v := ?_) ?_ ?_ ?_; rotate_left; (focus (go_simp; done)); (focus (intro w' hSw; (try dsimp only at hSw); go_simp; (try with_reducible rfl); done)); simp only [Act.put, List.setIfInBounds_toArray, List.set_cons_zero, List.set_cons_succ])))
            refine Ord.wpOrd_nil ?_
            go_wp2_with fail
            exact ⟨⟨n + 1, by omega, by go_num, by rw [Hcn1.out] <;> go_num, by rw [Hhd1.out], below_go hb12'.drew hB⟩, by simp only [intOf]; omega⟩
          | false =>
            have Hhd1 := Lib.hid (show had l e.key (n + 1) = false by rw [Hh1.out, hkq]; rfl)
            go_upto_region 16 with fail
            (refine Ord.wp_region_ord [(false, 0), (false, 1), (false, 2), (false, 3), (false, 4), (false, 5), (false, 6), (true, 7)] (fun W => (W.cell? ⟨g0, 0, none⟩ = some (.string (str e.key)) ∧ W.cell? ⟨g0, 1, none⟩ = some (.int .i64 e.first) ∧ W.cell? ⟨g0, 2, none⟩ = some (.int .i64 e.len)) ∧ W.cell? ⟨b, off + n * 3, none⟩ = some (.string (str kk))) (by kernel_rfl) (by kernel_rfl) (by kernel_rfl) (by kernel_rfl) (by exact Hcw.out _ (Below.refl _ _).drew) ?_; simp only [Ord.ordOps, List.filterMap_cons, List.filterMap_nil, List.getElem?_toArray, List.getElem?_cons_succ, List.getElem?_cons_zero, Option.map_some]; repeat (first | (refine Ord.wpOrd_skip ?_ ?_; (focus (go_simp; (try (intro h; cases h)); done)); simp only [Act.put, List.setIfInBounds_toArray, List.set_cons_zero, List.set_cons_succ]) | (refine Ord.wpOrd_take (v := ?_) ?_ ?_ ?_; rotate_left; (focus (go_simp; done)); (focus (intro w' hSw; (try dsimp only at hSw); go_simp; (try with_reducible rfl); done)); simp only [Act.put, List.setIfInBounds_toArray, List.set_cons_zero, List.set_cons_succ])))
            (refine Ord.wpOrd_call ?_ (fun K hK => ?_); (focus (go_simp; done)); go_simp)
            go_at_call 56
            refine (Hle.out _).mono ?_
            rintro r w12 ⟨rfl, hb12⟩
            have hb12' := below_go hb12 (Below.refl _ _).drew
            (refine hK _ _ (by exact Hcw.out _ hb12') ?_; clear hK K; (try simp only [Act.put, List.setIfInBounds_toArray, List.set_cons_zero, List.set_cons_succ]); repeat (first | (refine Ord.wpOrd_skip ?_ ?_; (focus (go_simp; (try (intro h; cases h)); done)); simp only [Act.put, List.setIfInBounds_toArray, List.set_cons_zero, List.set_cons_succ]) | (refine Ord.wpOrd_take (v := ?_) ?_ ?_ ?_; rotate_left; (focus (go_simp; done)); (focus (intro w' hSw; (try dsimp only at hSw); go_simp; (try with_reducible rfl); done)); simp only [Act.put, List.setIfInBounds_toArray, List.set_cons_zero, List.set_cons_succ])))
            refine Ord.wpOrd_nil ?_
            go_upto_region 18 with fail
            (refine Ord.wp_region_ord [(false, 0), (false, 1), (false, 2), (false, 3), (false, 4), (false, 5), (false, 6), (false, 7), (false, 8), (false, 9), (false, 10), (false, 11)] (fun W => (W.cell? ⟨g0, 0, none⟩ = some (.string (str e.key)) ∧ W.cell? ⟨g0, 1, none⟩ = some (.int .i64 e.first) ∧ W.cell? ⟨g0, 2, none⟩ = some (.int .i64 e.len)) ∧ W.cell? ⟨b, off + n * 3, none⟩ = some (.string (str kk))) (by kernel_rfl) (by kernel_rfl) (by kernel_rfl) (by kernel_rfl) (by exact Hcw.out _ hb12'.drew) ?_; simp only [Ord.ordOps, List.filterMap_cons, List.filterMap_nil, List.getElem?_toArray, List.getElem?_cons_succ, List.getElem?_cons_zero, Option.map_some]; repeat (first | (refine Ord.wpOrd_skip ?_ ?_; (focus (go_simp; (try (intro h; cases h)); done)); simp only [Act.put, List.setIfInBounds_toArray, List.set_cons_zero, List.set_cons_succ]) | (refine Ord.wpOrd_take (v := ?_) ?_ ?_ ?_; rotate_left; (focus (go_simp; done)); (focus (intro w' hSw; (try dsimp only at hSw); go_simp; (try with_reducible rfl); done)); simp only [Act.put, List.setIfInBounds_toArray, List.set_cons_zero, List.set_cons_succ])))
            refine Ord.wpOrd_nil ?_
            go_wp2_with fail
            exact ⟨⟨n + 1, by omega, by go_num, by rw [Hcn1.out] <;> go_num, by rw [Hhd1.out], below_go hb12'.drew hB⟩, by simp only [intOf]; omega⟩
end Go.Proofs.Ytcjabfdjngekfaa.Leaf
