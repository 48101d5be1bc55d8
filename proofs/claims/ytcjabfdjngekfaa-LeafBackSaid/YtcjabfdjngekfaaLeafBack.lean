/- The law LeafBack, walked. -/
import Derived.Test.YtcjabfdjngekfaaBackW
import Derived.Test.YtcjabfdjngekfaaLeafTurns
import Derived.Deep.CutBlock
set_option linter.unusedVariables false
set_option linter.unusedSimpArgs false
namespace Go.Proofs.Ytcjabfdjngekfaa.Leaf
open Go.RowKit Go.Proofs.Ytcjabfdjngekfaa.Wd Go.Proofs.Ytcjabfdjngekfaa.Use Go.Proofs.Ytcjabfdjngekfaa.Lay
open Go.Proofs.Ytcjabfdjngekfaa.Rel (env_cells)

theorem right_nil : right [] = true := by decide
theorem right_rising {l : List L} (h : right l = true) : rising l = true := ((right_iff l).1 h).1
theorem right_len {l : List L} (h : right l = true) : l.length ≤ 51 := by
  have h1 := ((right_iff l).1 h).2
  have h2 := five_le l l.length
  rw [F_size] at h2; omega
theorem mem_withAt {l : List L} {e f : L} {p : Nat} {is : Bool} (h : f ∈ withAt l e p is) : f = e ∨ f ∈ l := by
  rw [withAt, List.mem_append, List.mem_cons] at h
  rcases h with h | h | h
  · exact .inr (List.mem_of_mem_take h)
  · exact .inl h
  · exact .inr (List.mem_of_mem_drop h)
theorem withAt_le (l : List L) (e : L) (p : Nat) (is : Bool) : (withAt l e p is).length ≤ l.length + 1 := by
  rw [withAt, List.length_append, List.length_cons, List.length_take, List.length_drop]
  cases is <;> simp <;> omega
theorem withAt_ge (l : List L) (e : L) (p : Nat) (is : Bool) (hp : p ≤ l.length) : l.length ≤ (withAt l e p is).length := by
  rw [withAt, List.length_append, List.length_cons, List.length_take, List.length_drop]
  cases is <;> simp <;> omega
/-- a key of a rising leaf is at its place -/
theorem place_own {l : List L} (hu : Up l) {i : Nat} (hi : i < l.length) : Place l (ky l i) i := by
  refine ⟨by omega, fun j hj => hu j i hj hi, fun j h1 h2 => ?_⟩
  rcases Nat.lt_or_ge i j with h | h
  · exact lt_asym (hu i j h h2)
  · obtain rfl : j = i := by omega
    exact lt_irr _
theorem had_own {l : List L} {i : Nat} (hi : i < l.length) : had l (ky l i) l.length = true := (had_iff _ _ _).2 ⟨i, hi, rfl⟩
theorem without_own {l : List L} (hu : Up l) {i : Nat} (hi : i < l.length) : (without l (ky l i)).length = l.length - 1 := by
  rw [without_some hu hi rfl, List.length_append, List.length_take, List.length_drop]; omega
set_option maxRecDepth 100000 in
set_option maxHeartbeats 4000000 in
theorem leafBack_x (x : List L) (h : right x = true) (vx : Value) (w : World) (hv : Rd w 3 vx x.length (ls x)) (e : L) (hke : e.key.length ≤ maxLen) :
    Calls Try.prog 54 #[vx, .agg #[.string (str e.key), .int .i64 e.first, .int .i64 e.len]] w fun r w' => ∃ (y : List L) (m : Nat) (v' : Value), (∃ p, Place x e.key p ∧ y = withAt x e p (had x e.key x.length)) ∧ y.length = m ∧ m ≤ x.length + 1 ∧ (∀ f ∈ y, f.key.length ≤ maxLen) ∧ r = .returned v' ∧ Rd w' 3 v' m (ls y) ∧ Below w.heap.size w w' := by
  refine (With_any x e vx w hv (by have := right_len h; omega) (rising_keys (right_rising h))).mono ?_
  rintro r w' ⟨h1, ⟨h2, -⟩ | ⟨-, p, v', h3, h4, h5⟩⟩
  · rw [h] at h2; cases h2
  · refine ⟨_, _, v', ⟨p, h3, rfl⟩, rfl, withAt_le _ _ _ _, fun f hf => ?_, h4, h5, h1⟩
    rcases mem_withAt hf with rfl | hf
    · exact hke
    · have := rising_keys (right_rising h) f hf; unfold maxLen; omega
theorem halves_two (l : List L) (n : Nat) (v : Value) (w : World) (hln : l.length = n) (hv : Rd w 3 v n (ls l)) (hr : rising l = true) (h0 : 0 < n) (hF : F l ≤ 300) (hn : n ≤ 1000) :
    Calls Try.prog 52 #[v] w fun r w' => ∃ (h lp lq : Nat) (A1 A2 : Option Addr) (c1 c2 : Nat), Hid (Two l h ∧ (l.take h).length = lp ∧ (l.drop h).length = lq) ∧ r = .returned (.tuple #[.slice A1 lp c1, .slice A2 lq c2]) ∧ Hid (Rd w' 3 (.slice A1 lp c1) lp (ls (l.take h))) ∧ Hid (Rd w' 3 (.slice A2 lq c2) lq (ls (l.drop h))) ∧ Below w.heap.size w w' := by
  refine (Halves_any l v w (by rw [hln]; exact hv) (by omega) (rising_keys hr)).mono ?_
  rintro r w' ⟨h1, ⟨h2, -⟩ | ⟨-, h, v1, v2, h3, rfl, h4, h5⟩⟩
  · rw [hr] at h2; cases h2
  · obtain ⟨A1, c1, rfl, -, -, -⟩ := h4.slice_
    obtain ⟨A2, c2, rfl, -, -, -⟩ := h5.slice_
    exact ⟨h, _, _, A1, A2, c1, c2, Lib.hid ⟨h3.two hr (by omega) hF, rfl, rfl⟩, rfl, Lib.hid h4, Lib.hid h5, h1⟩
theorem right_true (a : List L) (m : Nat) (v : Value) (w : World) (hv : Rd w 3 v m (ls a)) (hm : a.length = m) (hr : right a = true) :
    Calls Try.prog 19 #[v] w fun r w' => r = .returned (.bool true) ∧ Below w.heap.size w w' := by
  have h := Right_any a v w (by rw [hm]; exact hv) (by have := right_len hr; omega) (rising_keys (right_rising hr))
  rw [hr] at h
  exact h
theorem together_two (l : List L) (n h lp lq : Nat) (v1 v2 v3 : Value) (w : World) (hT : Two l h ∧ (l.take h).length = lp ∧ (l.drop h).length = lq) (hln : l.length = n) (hr : rising l = true) (hF : F l ≤ 300) (hn : n ≤ 1000) (h1 : Rd w 3 v1 lp (ls (l.take h))) (h2 : Rd w 3 v2 lq (ls (l.drop h))) (h3 : Rd w 3 v3 n (ls l)) :
    Calls Try.prog 59 #[v1, v2, v3] w fun r w' => r = .returned (.bool true) ∧ Below w.heap.size w w' := by
  obtain ⟨hT, rfl, rfl⟩ := hT
  subst hln
  exact together_any l h v1 v2 v3 w hT hr hF hn h1 h2 h3
/-- what is without a key is not found by it -/
theorem find_gone (x : List L) (n : Nat) (hxn : x.length = n) (h : right x = true) (vx : Value) (w : World) (hv : Rd w 3 vx n (ls x)) (key : List UInt8) :
    Calls Try.prog 55 #[vx, .string (str key)] w fun r w' => ∃ v', r = .returned v' ∧ Hid (∀ W, Below w'.heap.size w' W → Calls Try.prog 51 #[v', .string (str key)] W fun r w'' => ∃ i : Int, r = .returned (.tuple #[.int .i64 i, .bool false]) ∧ Below W.heap.size W w'') ∧ Below w.heap.size w w' := by
  refine (Without_any x key vx w (by rw [hxn]; exact hv) (by have := right_len h; omega) (rising_keys (right_rising h))).mono ?_
  rintro r w' ⟨h1, ⟨h2, -⟩ | ⟨-, v', rfl, h3⟩⟩
  · rw [h] at h2; cases h2
  · refine ⟨v', rfl, Lib.hid (fun W hb => ?_), h1⟩
    have hl : (without x key).length ≤ x.length := List.length_filter_le _ _
    refine (Find_any (without x key) v' key W (h3.below hb) (by have := right_len h; omega) (fun e he => rising_keys (right_rising h) e (List.mem_filter.1 he).1)).mono ?_
    rintro r w'' ⟨g1, ⟨-, rfl⟩ | ⟨-, i, -, rfl⟩⟩
    · exact ⟨0, rfl, g1⟩
    · rw [had_without]; exact ⟨_, rfl, g1⟩
set_option maxRecDepth 100000 in
set_option maxHeartbeats 16000000 in
theorem LeafBack_list (v : Value) (l : List L) (key : List UInt8) (w : World) (hv : Rd w 3 v l.length (ls l)) (hk : ∀ e ∈ l, e.key.length ≤ maxLen) (hkey : key.length ≤ maxLen) :
    Calls Try.prog 10 #[v, .string (str key)] w fun r w' => r = .returned (.bool true) ∧ Below w.heap.size w w' := by
  obtain ⟨A, c, rfl, hc1, hc2, -⟩ := hv.slice_
  unfold maxLen at hc2
  have Hv := Lib.hid hv
  have Hk := Lib.hid hk
  have hsk := str_size key
  have hkl := hkey
  unfold maxLen at hkl
  clear hv hk
  go_enter Try.func10, Try.ntmps10
  go_upto_block 0 with fail
  go_cut [5, 6, 7] from 20 to 38 (fun x_ _ _ wx => ∃ (n : Nat) (x : List L) (A5 : Option Addr) (c5 : Nat), x.length = n ∧ n ≤ 51 ∧ n ≤ c5 ∧ c5 ≤ 9223372036854775807 ∧ x_ = .slice A5 n c5 ∧ Hid (Rd wx 3 (.slice A5 n c5) n (ls x)) ∧ Hid (right x = true) ∧ Below w.heap.size w wx)
  case first =>
    go_wp2_with fail
    go_loopw [5, 6] (fun x_ i_ wr => ∃ (i n : Nat) (x : List L) (A5 : Option Addr) (c5 : Nat), i ≤ l.length ∧ i ≤ 60 ∧ x.length = n ∧ n ≤ c5 ∧ c5 ≤ 9223372036854775807 ∧ x_ = .slice A5 n c5 ∧ i_ = .int .i64 (i : Int) ∧ Hid (Rd wr 3 (.slice A5 n c5) n (ls x)) ∧ Hid (right x = true) ∧ Below w.heap.size w wr) (fun _ i_ _ => 60 - (intOf i_).toNat)
    case atStart => exact ⟨0, 0, [], none, 0, Nat.zero_le _, by omega, rfl, Nat.le_refl _, by omega, rfl, rfl, Lib.hid (Rd.nil _ _), Lib.hid right_nil, Below.refl _ _⟩
    case round =>
      obtain ⟨i, n, x, A5, c5, hil, hi60, hxn, hn5, hc5, rfl, rfl, Hx, Hr, hB⟩ := hrel
      have hn51 := right_len Hr.out
      rw [hxn] at hn51
      have Hxn := Lib.hid hxn
      by_cases hgo : i < l.length ∧ i < 60
      · obtain ⟨hi, hi6⟩ := hgo
        have hd1 : decide ((i : Int) < (l.length : Int)) = true := decide_eq_true (by omega)
        have hd2 : decide ((i : Int) < 60) = true := decide_eq_true (by omega)
        obtain ⟨b, off, rfl, hcell⟩ := ents_at (Hv.out.below hB) rfl (by omega)
        obtain ⟨c0, c1, c2⟩ := hcell i hi
        have hke : (l.getD i L.zero).key.length ≤ maxLen := Hk.out _ (by rw [List.getD_eq_getElem?_getD, List.getElem?_eq_getElem hi]; exact List.getElem_mem hi)
        generalize l.getD i L.zero = e at c0 c1 c2 hke
        have Hwi := Lib.hid (leafBack_x x Hr.out (.slice A5 n c5) wr (by rw [hxn]; exact Hx.out) e hke)
        have Hwr := Lib.hid (fun (y : List L) (m : Nat) v' W (h : Rd W 3 v' m (ls y)) (hm : y.length = m) (hl : m ≤ 1000000) (hk : ∀ f ∈ y, f.key.length ≤ maxLen) => Right_wide y v' W (by rw [hm]; exact h) (by omega) hk)
        obtain ⟨ek, first, len⟩ := e
        simp only at c0 c1 c2 hke
        have i1 : (i : Int) < (l.length : Int) := by omega
        have i0 : (0 : Int) ≤ (i : Int) := by omega
        rw [hxn] at Hwi
        clear hcell hke hxn
        go_upto_if 37 with (first
          | (go_at_call 54; refine Hwi.out.mono ?_; rintro r w2 ⟨y, m, v7, -, hym, hm1, hyk, rfl, hr7, hb2⟩; obtain ⟨A7, c7, rfl, hq1, hq2, -⟩ := hr7.slice_; have H7 := Lib.hid hr7; have Hym := Lib.hid hym; have Hyk := Lib.hid hyk; clear hr7 hym hyk)
          | (go_at_call 19; refine (Hwr.out _ _ _ _ H7.out Hym.out (by omega) Hyk.out).mono ?_; rintro r w3 ⟨rfl, hb3⟩))
        have hb3' := below_go hb3 hb2
        unfold maxLen at hq2
        have H7' := Lib.hid (H7.out.below hb3)
        have Hx' := Lib.hid (Hx.out.below hb3')
        cases hr : right y with
        | true =>
          have Hry := Lib.hid hr
          clear hr
          go_wp2_with fail
          exact ⟨⟨i + 1, m, y, A7, c7, by omega, by omega, Hym.out, hq1, by omega, rfl, by go_num, H7', Hry, below_go hb3' hB⟩, by simp only [intOf]; omega⟩
        | false =>
          clear hr
          go_wp2_with fail
          exact ⟨⟨i + 1, n, x, A5, c5, by omega, by omega, Hxn.out, hn5, hc5, rfl, by go_num, Hx', Hr, below_go hb3' hB⟩, by simp only [intOf]; omega⟩
      · have hex := right_len Hr.out
        by_cases hi : i < l.length
        · have hd1 : decide ((i : Int) < (l.length : Int)) = true := decide_eq_true (by omega)
          have hd2 : decide ((i : Int) < 60) = false := decide_eq_false (by omega)
          go_wp2_with fail
          go_meet
          exact ⟨n, x, A5, c5, Hxn.out, hn51, hn5, hc5, rfl, Hx, Hr, hB⟩
        · have hd1 : decide ((i : Int) < (l.length : Int)) = false := decide_eq_false (by omega)
          go_wp2_with fail
          go_meet
          exact ⟨n, x, A5, c5, Hxn.out, hn51, hn5, hc5, rfl, Hx, Hr, hB⟩
  case rest =>
    obtain ⟨n, x, A5, c5, hxn, hn51, hn5, hc5, rfl, Hx, Hr, hB⟩ := hcut
    by_cases h200 : key.length ≤ 200
    rotate_left
    · have hd : decide ((200 : Int) < (key.length : Int)) = true := decide_eq_true (by omega)
      go_wp2_with fail
      go_ret
      exact ⟨rfl, hB⟩
    have hd : decide ((200 : Int) < (key.length : Int)) = false := decide_eq_false (by omega)
    have Hone := Lib.hid (fun W => one_any W)
    rcases Nat.eq_zero_or_pos n with h0 | h0
    · have hz : ((n : Int) == 0) = true := by rw [beq_iff_eq]; omega
      clear h0
      go_wp2_with (go_at_call 24; refine (Hone.out _).mono ?_; rintro r w2 ⟨rfl, hb2⟩)
      go_ret
      exact ⟨rfl, below_go hb2 hB⟩
    have hz : ((n : Int) == 0) = false := by rw [beq_eq_false_iff_ne]; omega
    have hkx := rising_keys (right_rising Hr.out)
    have hup := rising_up (right_rising Hr.out)
    have hbl := block_length x Hr.out
    have hob := ofB_block Hr.out (by omega)
    have hok : okPut x = true := by
      have : x.isEmpty = false := by cases x with
        | nil => simp at hxn; omega
        | cons e l => rfl
      rw [okPut, this, Hr.out]; rfl
    have hRx : ∀ W, Below wc.heap.size wc W → Rd W 3 (.slice A5 n c5) x.length (ls x) := fun W h => by rw [hxn]; exact Hx.out.below h
    have Hput := Lib.hid (fun W (h : Below wc.heap.size wc W) => (Put_any x (.slice A5 n c5) W (hRx W h) (by omega) hkx).mono (R' := fun r w' => ∃ b, r = .returned (.tuple #[b, .int .i64 0]) ∧ Rd w' 1 b 256 (bs (block x)) ∧ Below W.heap.size W w') (by
      rintro r w' ⟨h1, ⟨h2, -⟩ | ⟨-, b, h2, h3⟩⟩
      · rw [hok] at h2; cases h2
      · exact ⟨b, h2, h3, h1⟩))
    have Hof := Lib.hid (fun b W (h : Rd W 1 b 256 (bs (block x))) => (Of_any (block x) b W (by rw [hbl]; exact h)).mono (R' := fun r w' => ∃ A10 c10, r = .returned (.tuple #[.slice A10 n c10, .int .i64 0]) ∧ Rd w' 3 (.slice A10 n c10) n (ls x) ∧ Below W.heap.size W w') (by
      rintro r w' ⟨h1, ⟨h2, -⟩ | ⟨-, h2, -⟩ | ⟨-, l0, v', h2, h3, h4⟩⟩
      · exact absurd hbl h2
      · rw [hob] at h2; cases h2
      · rw [hob] at h2
        injection h2 with h2
        subst h2
        rw [hxn] at h4
        obtain ⟨A10, c10, rfl, -, -, -⟩ := h4.slice_
        exact ⟨_, _, h3, h4, h1⟩))
    have Hfind := Lib.hid (fun W (h : Below wc.heap.size wc W) i (hi : i < n) => (Find_any x (.slice A5 n c5) (ky x i) W (hRx W h) (by omega) hkx).mono (R' := fun r w' => r = .returned (.tuple #[.int .i64 (i : Int), .bool true]) ∧ Below W.heap.size W w') (by
      rintro r w' ⟨h1, ⟨h2, -⟩ | ⟨-, p, h2, h3⟩⟩
      · rw [Hr.out] at h2; cases h2
      · obtain rfl := h2.one (place_own hup (by omega))
        rw [had_own (by omega)] at h3
        exact ⟨h3, h1⟩))
    have Hwo := Lib.hid (fun W (h : Below wc.heap.size wc W) i (hi : i < n) => (Without_any x (ky x i) (.slice A5 n c5) W (hRx W h) (by omega) hkx).mono (R' := fun r w' => ∃ A c, r = .returned (.slice A (n - 1) c) ∧ Below W.heap.size W w') (by
      rintro r w' ⟨h1, ⟨h2, -⟩ | ⟨-, v', h2, h3⟩⟩
      · rw [Hr.out] at h2; cases h2
      · rw [without_own hup (by omega), hxn] at h3
        obtain ⟨A, c, rfl, -, -, -⟩ := h3.slice_
        exact ⟨A, c, h2, h1⟩))
    have Hcm := Lib.hid (fun W (h : Below wc.heap.size wc W) i (hi : i < n) => show ∃ b off, A5 = some ⟨b, off, none⟩ ∧ (W.cell? ⟨b, off + i * 3, none⟩ = some (.string (str (ky x i))) ∧ W.cell? ⟨b, off + i * 3 + 1, none⟩ = some (.int .i64 (x.getD i L.zero).first) ∧ W.cell? ⟨b, off + i * 3 + 2, none⟩ = some (.int .i64 (x.getD i L.zero).len)) from by
      obtain ⟨b, off, e, hc⟩ := ents_at (Hx.out.below h) hxn.symm (by omega)
      exact ⟨b, off, e, hc i hi⟩)
    have HrX := Lib.hid hRx
    have Hxn := Lib.hid hxn
    have Hkx := Lib.hid hkx
    have Hup := Lib.hid hup
    clear hkx hup hbl hob hok hRx hxn
    go_upto_region 16 with (first
      | (go_at_call 18; refine (Hput.out _ (Below.refl _ _)).mono ?_; rintro r w2 ⟨v8, rfl, hr8, hb2⟩; have H8 := Lib.hid hr8; clear hr8)
      | (go_at_call 23; refine (Hof.out _ _ H8.out).mono ?_; rintro r w3 ⟨A10, c10, rfl, hr10, hb3⟩; have hb3' := below_go hb3 hb2; have H10 := Lib.hid hr10; clear hr10))
    go_upto_region 17 with fail
    go_wp2_with fail
    go_loopw [12] (fun i_ wr => ∃ i : Nat, i ≤ n ∧ i_ = .int .i64 (i : Int) ∧ Below w3.heap.size w3 wr) (fun i_ _ => n - (intOf i_).toNat)
    case atStart => exact ⟨0, Nat.zero_le _, rfl, Below.refl _ _⟩
    case round =>
      obtain ⟨i, hin, rfl, hB4⟩ := hrel
      have hB5 := below_go hB4 hb3'
      by_cases hi : i < n
      rotate_left
      · have hd1 : decide ((i : Int) < (n : Int)) = false := decide_eq_false (by omega)
        have hrx := right_rising Hr.out
        have hFx := ((right_iff x).1 Hr.out).2
        have Hhx := Lib.hid (fun W (h : Below wc.heap.size wc W) => halves_two x n (.slice A5 n c5) W Hxn.out (Hx.out.below h) hrx h0 (by omega) (by omega))
        have Hgo := Lib.hid (fun W (h : Below wc.heap.size wc W) => find_gone x n Hxn.out Hr.out (.slice A5 n c5) W (Hx.out.below h) key)
        have Htx := Lib.hid (fun h lp lq v1 v2 W hT (h1 : Rd W 3 v1 lp (ls (x.take h))) (h2 : Rd W 3 v2 lq (ls (x.drop h))) (hb : Below wc.heap.size wc W) => together_two x n h lp lq v1 v2 (.slice A5 n c5) W hT Hxn.out hrx (by omega) (by omega) h1 h2 (Hx.out.below hb))
        have Hrt := Lib.hid (fun a m v W h hm hr => right_true a m v W h hm hr)
        clear Hfind Hwo Hcm Hput Hof H8 H10
        go_upto_region 26 with (first
          | (go_at_call 52; refine (Hhx.out _ hB5).mono ?_; rintro r w5 ⟨hh, lp, lq, A15, A16, c15, c16, HT, rfl, H15, H16, hb5⟩; have hB6 := below_go hb5 hB5)
          | (go_at_call 55; refine (Hgo.out _ hB6).mono ?_; rintro r w6 ⟨v6, rfl, Hfg, hb6⟩)
          | (go_at_call 51; refine (Hfg.out _ (Below.refl _ _)).mono ?_; rintro r w7 ⟨i7, rfl, hb7⟩; have hb7' := below_go hb7 hb6)
          | (go_at_call 19; refine (Hrt.out _ _ _ _ (H16.out.below (below_go hb8 hb7')) HT.out.2.2 HT.out.1.q).mono ?_; rintro r w9 ⟨rfl, hb9⟩; have hb9' := below_go hb9 (below_go hb8 hb7'))
          | (go_at_call 19; refine (Hrt.out _ _ _ _ (H15.out.below hb7') HT.out.2.1 HT.out.1.p).mono ?_; rintro r w8 ⟨rfl, hb8⟩)
          | (go_at_call 59; refine (Htx.out _ _ _ _ _ _ HT.out (H15.out.below hb9') (H16.out.below hb9') (below_go hb9' hB6)).mono ?_; rintro r w10 ⟨rfl, hb10⟩; have hB10 := below_go (below_go hb10 hb9') hB6))
        clear Hhx Hgo Htx hb5 hb6 hb7 hb7' hb8 hb9 hb9' hb10 hB6 HT H15 H16 Hfg
        by_cases hk1 : key.length < 1
        · have hd2 : decide ((key.length : Int) < 1) = true := decide_eq_true (by omega)
          go_wp2_with (go_at_call 24; refine (Hone.out _).mono ?_; rintro r w11 ⟨rfl, hb11⟩)
          go_ret
          exact ⟨rfl, below_go (below_go hb11 hB10) hB⟩
        have hd2 : decide ((key.length : Int) < 1) = false := decide_eq_false (by omega)
        by_cases hk2 : 40 < key.length
        · have hd3 : decide ((40 : Int) < (key.length : Int)) = true := decide_eq_true (by omega)
          go_wp2_with (go_at_call 24; refine (Hone.out _).mono ?_; rintro r w11 ⟨rfl, hb11⟩)
          go_ret
          exact ⟨rfl, below_go (below_go hb11 hB10) hB⟩
        have hd3 : decide ((40 : Int) < (key.length : Int)) = false := decide_eq_false (by omega)
        have Hwz := Lib.hid ((leafBack_x x Hr.out (.slice A5 n c5) w10 (by rw [Hxn.out]; exact Hx.out.below hB10) ⟨key, 0, 0⟩ hkey).mono (R' := fun r w' => ∃ (y : List L) (m : Nat) (A7 : Option Addr) (c7 : Nat), Hid (y.length = m ∧ rising y = true ∧ F y ≤ 300) ∧ n ≤ m ∧ m ≤ 100 ∧ r = .returned (.slice A7 m c7) ∧ Hid (Rd w' 3 (.slice A7 m c7) m (ls y)) ∧ Below w10.heap.size w10 w') (by
          rintro r w' ⟨y, m, v', ⟨p, hp, rfl⟩, g1, g2, -, rfl, g3, g4⟩
          obtain ⟨A7, c7, rfl, -, -, -⟩ := g3.slice_
          have hxn := Hxn.out
          have her : L.right ⟨key, 0, 0⟩ = true := by
            simp only [L.right, Bool.and_eq_true, decide_eq_true_eq]; omega
          have hw := withAt_ge x (⟨key, 0, 0⟩ : L) p (had x (⟨key, 0, 0⟩ : L).key x.length) hp.le
          have hf := F_with x (⟨key, 0, 0⟩ : L) p (had x (⟨key, 0, 0⟩ : L).key x.length)
          have hke : (⟨key, 0, 0⟩ : L).key.length = key.length := rfl
          exact ⟨_, m, A7, c7, Lib.hid ⟨g1, rising_with hrx her hp, by omega⟩, by omega, by omega, rfl, Lib.hid g3, g4⟩))
        have Hhz := Lib.hid (fun (y : List L) m v W (hy : y.length = m ∧ rising y = true ∧ F y ≤ 300) (h : Rd W 3 v m (ls y)) (h0 : 0 < m) (hm : m ≤ 1000) => halves_two y m v W hy.1 h hy.2.1 h0 hy.2.2 hm)
        have Htz := Lib.hid (fun (y : List L) m h lp lq v1 v2 v3 W (hy : y.length = m ∧ rising y = true ∧ F y ≤ 300) hT (hm : m ≤ 1000) (h1 : Rd W 3 v1 lp (ls (y.take h))) (h2 : Rd W 3 v2 lq (ls (y.drop h))) (h3 : Rd W 3 v3 m (ls y)) => together_two y m h lp lq v1 v2 v3 W hT hy.1 hy.2.1 hy.2.2 hm h1 h2 h3)
        clear hk1 hk2
        go_upto_region 30 with (first
          | (go_at_call 54; refine Hwz.out.mono ?_; rintro r w11 ⟨y, m, A7, c7, Hy, hnm, hm1, rfl, H7, hb11⟩; have hB11 := below_go hb11 hB10)
          | (go_at_call 52; refine (Hhz.out _ _ _ _ Hy.out H7.out (by omega) (by omega)).mono ?_; rintro r w12 ⟨hz2, lp2, lq2, A25, A26, c25, c26, HT2, rfl, H25, H26, hb12⟩; have hB12 := below_go hb12 hB11; have H7' := Lib.hid (H7.out.below hb12)))
        have hd4 : decide ((n : Int) ≤ (m : Int)) = true := decide_eq_true (by omega)
        go_wp2_with (first
          | (go_at_call 19; refine (Hrt.out _ _ _ _ (H26.out.below hb13) HT2.out.2.2 HT2.out.1.q).mono ?_; rintro r w14 ⟨rfl, hb14⟩; have hb14' := below_go hb14 hb13)
          | (go_at_call 19; refine (Hrt.out _ _ _ _ H25.out HT2.out.2.1 HT2.out.1.p).mono ?_; rintro r w13 ⟨rfl, hb13⟩)
          | (go_at_call 59; refine (Htz.out _ _ _ _ _ _ _ _ _ Hy.out HT2.out (by omega) (H25.out.below hb14') (H26.out.below hb14') (H7'.out.below hb14')).mono ?_; rintro r w15 ⟨rfl, hb15⟩; have hb15' := below_go hb15 hb14')
          | (go_at_call 24; refine (Hone.out _).mono ?_; rintro r w16 ⟨rfl, hb16⟩))
        go_ret
        exact ⟨rfl, below_go (below_go (below_go hb16 hb15') hB12) hB⟩
      have hd1 : decide ((i : Int) < (n : Int)) = true := decide_eq_true (by omega)
      obtain ⟨b, off, rfl, c0, c1, c2⟩ := Hcm.out wr hB5 i hi
      obtain ⟨b2, o2, rfl, hcell⟩ := ents_at (H10.out.below hB4) Hxn.out.symm (by omega)
      obtain ⟨d0, d1, d2⟩ := hcell i (by omega)
      have hfi := fun W h => Hfind.out W h i hi
      have hwo := fun W h => Hwo.out W h i hi
      rw [ky] at c0 hfi hwo
      generalize x.getD i L.zero = e at c0 c1 c2 d0 d1 d2 hfi hwo
      obtain ⟨ek, first, len⟩ := e
      simp only at c0 c1 c2 d0 d1 d2 hfi hwo
      have Hfi := Lib.hid hfi
      have Hw2 := Lib.hid hwo
      have hSS := fun W (h : Below wr.heap.size wr W) => (show (W.cell? ⟨b, off + i * 3, none⟩ = some (.string (str ek)) ∧ W.cell? ⟨b, off + i * 3 + 1, none⟩ = some (.int .i64 first) ∧ W.cell? ⟨b, off + i * 3 + 2, none⟩ = some (.int .i64 len)) ∧ (W.cell? ⟨b2, o2 + i * 3, none⟩ = some (.string (str ek)) ∧ W.cell? ⟨b2, o2 + i * 3 + 1, none⟩ = some (.int .i64 first) ∧ W.cell? ⟨b2, o2 + i * 3 + 2, none⟩ = some (.int .i64 len)) from ⟨⟨cell_below h c0, cell_below h c1, cell_below h c2⟩, cell_below h d0, cell_below h d1, cell_below h d2⟩)
      have HS := Lib.hid hSS
      have q1 : (0 : Int) ≤ (i : Int) := by omega
      have q2 : (i : Int) < (n : Int) := by omega
      have q3 : (((n - 1 : Nat) : Int) != (n : Int) - 1) = false := by rw [bne_eq_false_iff_eq]; omega
      have q4 : IntKind.i64.wrap ((n : Int) - 1) = (n : Int) - 1 := by rw [IntKind.wrap_i64]; omega
      have q5 : ((n - 1 : Nat) : Int) = (n : Int) - 1 := by omega
      clear hfi hwo hcell d0 d1 d2 hSS
      go_upto_region 20 with (go_at_call 51; refine (Hfi.out _ hB5).mono ?_; rintro r w5 ⟨rfl, hb5⟩)
      (refine Ord.wp_region_ord [(false, 0), (false, 1), (false, 2), (false, 3), (false, 4), (false, 5), (false, 6), (false, 7), (false, 8), (false, 9), (false, 10), (false, 11), (false, 12), (false, 13), (false, 14), (false, 15), (false, 16), (false, 17), (false, 18), (false, 19), (false, 20), (false, 21), (false, 22), (false, 23), (false, 24), (false, 27), (false, 28), (false, 29), (true, 25), (false, 26), (false, 30), (false, 31)] (fun W => (W.cell? ⟨b, off + i * 3, none⟩ = some (.string (str ek)) ∧ W.cell? ⟨b, off + i * 3 + 1, none⟩ = some (.int .i64 first) ∧ W.cell? ⟨b, off + i * 3 + 2, none⟩ = some (.int .i64 len)) ∧ (W.cell? ⟨b2, o2 + i * 3, none⟩ = some (.string (str ek)) ∧ W.cell? ⟨b2, o2 + i * 3 + 1, none⟩ = some (.int .i64 first) ∧ W.cell? ⟨b2, o2 + i * 3 + 2, none⟩ = some (.int .i64 len))) (by kernel_rfl) (by kernel_rfl) (by kernel_rfl) (by kernel_rfl) (by exact HS.out _ hb5.drew) ?_; simp only [Ord.ordOps, List.filterMap_cons, List.filterMap_nil, List.getElem?_toArray, List.getElem?_cons_succ, List.getElem?_cons_zero, Option.map_some]; repeat (first | (refine Ord.wpOrd_skip ?_ ?_; (focus (go_simp; (try (intro h; cases h)); done)); simp only [Act.put, List.setIfInBounds_toArray, List.set_cons_zero, List.set_cons_succ]) | (refine Ord.wpOrd_take (v := ?_) ?_ ?_ ?_; rotate_left; (focus (go_simp; done)); (focus (intro w' hSw; (try dsimp only at hSw); go_simp; (try with_reducible rfl); done)); simp only [Act.put, List.setIfInBounds_toArray, List.set_cons_zero, List.set_cons_succ])))
      (refine Ord.wpOrd_call ?_ (fun K hK => ?_); (focus (go_simp; done)); go_simp)
      go_at_call 55
      refine (Hw2.out _ (below_go hb5.drew hB5)).mono ?_
      rintro r w6 ⟨A6, c6, rfl, hb6⟩
      have hb6' := below_go hb6 hb5.drew
      (refine hK _ _ (by exact HS.out _ hb6') ?_; clear hK K; (try simp only [Act.put, List.setIfInBounds_toArray, List.set_cons_zero, List.set_cons_succ]); repeat (first | (refine Ord.wpOrd_skip ?_ ?_; (focus (go_simp; (try (intro h; cases h)); done)); simp only [Act.put, List.setIfInBounds_toArray, List.set_cons_zero, List.set_cons_succ]) | (refine Ord.wpOrd_take (v := ?_) ?_ ?_ ?_; rotate_left; (focus (go_simp; done)); (focus (intro w' hSw; (try dsimp only at hSw); go_simp; (try with_reducible rfl); done)); simp only [Act.put, List.setIfInBounds_toArray, List.set_cons_zero, List.set_cons_succ])))
      refine Ord.wpOrd_nil ?_
      go_wp2_with fail
      exact ⟨⟨i + 1, by omega, by go_num, below_go hb6' hB4⟩, by simp only [intOf]; omega⟩
theorem LeafBack_any (v : Value) (l : List L) (a : ByteArray) (w : World) (hv : Rd w 3 v l.length (ls l)) (hk : ∀ e ∈ l, e.key.length ≤ maxLen) (ha : a.size ≤ maxLen) :
    Calls Try.prog 10 #[v, .string a] w fun r w' => r = .returned (.bool true) ∧ Below w.heap.size w w' := by
  have h := LeafBack_list v l a.data.toList w hv hk (by rw [data_length]; exact ha)
  rw [str_toList] at h
  exact h
end Go.Proofs.Ytcjabfdjngekfaa.Leaf
