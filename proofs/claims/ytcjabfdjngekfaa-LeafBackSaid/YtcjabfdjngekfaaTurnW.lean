/- Leaves that turn: keys compared, the search. -/
import Derived.Test.YtcjabfdjngekfaaTurnPure
import Derived.Test.YtcjabfdjngekfaaLeafW7
import Derived.Lib.SliceRun
set_option linter.unusedVariables false
set_option linter.unusedSimpArgs false
namespace Go.Proofs.Ytcjabfdjngekfaa.Leaf
open Go.RowKit Go.Proofs.Ytcjabfdjngekfaa.Wd Go.Proofs.Ytcjabfdjngekfaa.Use Go.Proofs.Ytcjabfdjngekfaa.Lay
open Go.Proofs.Ytcjabfdjngekfaa.Rel (env_cells)

def cmpI (a b : List UInt8) : Int := if Op.bytesLess a b then -1 else if Op.bytesLess b a then 1 else 0
set_option maxRecDepth 100000 in
theorem isNaN_any (a : List UInt8) (w : World) : Calls Try.prog 156 #[.string (str a)] w fun r w' => r = .returned (.bool false) ∧ w' = w := by
  go_enter Try.func156, Try.ntmps156
  go_wp2_with fail
  go_ret
  exact ⟨by simp, rfl⟩
set_option maxRecDepth 100000 in
theorem compare_any (a b : List UInt8) (w : World) : Calls Try.prog 116 #[.string (str a), .string (str b)] w fun r w' => r = .returned (.int .i64 (cmpI a b)) ∧ w' = w := by
  unfold cmpI
  cases h1 : Op.bytesLess a b with
  | true =>
    go_enter Try.func116, Try.ntmps116
    go_wp2_with (go_at_call 156; refine (isNaN_any _ _).mono ?_; rintro r w' ⟨rfl, rfl⟩)
    go_ret
    exact ⟨rfl, rfl⟩
  | false =>
    cases h2 : Op.bytesLess b a with
    | true =>
      have h3 : (a == b) = false := by rw [beq_eq_false_iff_ne]; rintro rfl; rw [h2] at h1; cases h1
      go_enter Try.func116, Try.ntmps116
      go_wp2_with (go_at_call 156; refine (isNaN_any _ _).mono ?_; rintro r w' ⟨rfl, rfl⟩)
      go_ret
      exact ⟨rfl, rfl⟩
    | false =>
      obtain rfl := lt_tri h1 h2
      go_enter Try.func116, Try.ntmps116
      go_wp2_with (go_at_call 156; refine (isNaN_any _ _).mono ?_; rintro r w' ⟨rfl, rfl⟩)
      go_ret
      exact ⟨rfl, rfl⟩
set_option maxRecDepth 100000 in
theorem find1_any (e : L) (key : List UInt8) (w : World) : Calls Try.prog 115 #[.agg #[.string (str e.key), .int .i64 e.first, .int .i64 e.len], .string (str key)] w fun r w' => r = .returned (.int .i64 (cmpI e.key key)) ∧ Below w.heap.size w w' := by
  have hc := fun W => compare_any e.key key W
  generalize cmpI e.key key = n at hc ⊢
  have Hc := Lib.hid hc
  clear hc
  go_enter Try.func115, Try.ntmps115
  go_wp2_with (go_at_call 116; refine (Hc.out _).mono ?_; rintro r w' ⟨rfl, rfl⟩)
  go_ret
  exact ⟨rfl, below_one _ _⟩
set_option maxRecDepth 100000 in
set_option maxHeartbeats 4000000 in
theorem search_any (l : List L) (v : Value) (key : List UInt8) (w : World) (hv : Rd w 3 v l.length (ls l)) (hu : Up l) (hn : l.length ≤ 1000000) :
    Calls Try.prog 114 #[v, .string (str key), .func (.func 115) #[] #[]] w fun r w' => ∃ i : Nat, r = .returned (.tuple #[.int .i64 (i : Int), .bool (had l key l.length)]) ∧ Place l key i ∧ Below w.heap.size w w' := by
  obtain ⟨A, c, rfl, hc1, hc2, -⟩ := hv.slice_
  unfold maxLen at hc2
  have Hv := Lib.hid hv
  have Hu := Lib.hid hu
  clear hv hu
  go_enter Try.func114, Try.ntmps114
  go_wp2_with fail
  go_loopw [9, 10] (fun i j wr => ∃ a b : Nat, a ≤ b ∧ b ≤ l.length ∧ i = .int .i64 (a : Int) ∧ j = .int .i64 (b : Int) ∧ Hid (∀ q, q < a → Op.bytesLess (ky l q) key = true) ∧ Hid (∀ q, b ≤ q → q < l.length → Op.bytesLess (ky l q) key = false) ∧ Below w.heap.size w wr) (fun i j _ => (intOf j - intOf i).toNat)
  case atStart => exact ⟨0, l.length, Nat.zero_le _, Nat.le_refl _, rfl, rfl, Lib.hid (fun q hq => by omega), Lib.hid (fun q h1 h2 => by omega), Below.refl _ _⟩
  case round =>
    obtain ⟨a, b, hab, hb, rfl, rfl, Hlo, Hhi, hB⟩ := hrel
    by_cases h1 : a < b
    rotate_left
    · obtain rfl : a = b := by omega
      have hd1 : decide ((a : Int) < (a : Int)) = false := decide_eq_false (by omega)
      have hpl : Place l key a := ⟨hb, Hlo.out, Hhi.out⟩
      have Hh := Lib.hid (had_place Hu.out hpl)
      have Hpl := Lib.hid hpl
      clear hpl
      by_cases h2 : a < l.length
      rotate_left
      · have hd2 : decide ((a : Int) < (l.length : Int)) = false := decide_eq_false (by omega)
        have Hh2 := Lib.hid (show had l key l.length = false by rw [Hh.out, decide_eq_false h2]; rfl)
        go_wp2_with fail
        go_ret2
        exact ⟨a, by rw [Hh2.out]; rfl, Hpl.out, hB⟩
      have hd2 : decide ((a : Int) < (l.length : Int)) = true := decide_eq_true (by omega)
      obtain ⟨bb, off, rfl, hcell⟩ := ents_at (Hv.out.below hB) rfl (by omega)
      obtain ⟨c0, c1, c2⟩ := hcell a (by omega)
      have hf := fun W => find1_any (l.getD a L.zero) key W
      have Hh2 := Lib.hid (show had l key l.length = ((l.getD a L.zero).key == key) by rw [Hh.out, decide_eq_true h2, Bool.true_and]; rfl)
      have Hlo2 := Lib.hid (show Op.bytesLess (l.getD a L.zero).key key = false from Hhi.out a (Nat.le_refl _) h2)
      generalize l.getD a L.zero = e at c0 c1 c2 hf Hh2 Hlo2
      obtain ⟨ek, first, len⟩ := e
      simp only at c0 c1 c2 hf Hh2 Hlo2
      have hj2 : (a : Int) < (l.length : Int) := by omega
      clear hcell
      unfold cmpI at hf
      rw [Hlo2.out] at hf
      cases hgt : Op.bytesLess key ek with
      | true =>
        rw [hgt] at hf
        have Hf := Lib.hid hf
        have Hh3 := Lib.hid (show had l key l.length = false by rw [Hh2.out, beq_eq_false_iff_ne]; intro h; rw [h, lt_irr] at hgt; cases hgt)
        clear hf hgt
        go_wp2_with (go_at_call 115; refine (Hf.out _).mono ?_; rintro r w2 ⟨rfl, hb2⟩)
        go_ret2
        exact ⟨a, by rw [Hh3.out]; rfl, Hpl.out, below_go hb2 hB⟩
      | false =>
        rw [hgt] at hf
        have Hf := Lib.hid hf
        have Hh3 := Lib.hid (show had l key l.length = true by rw [Hh2.out, lt_tri Hlo2.out hgt]; simp)
        clear hf hgt
        go_wp2_with (go_at_call 115; refine (Hf.out _).mono ?_; rintro r w2 ⟨rfl, hb2⟩)
        go_ret2
        exact ⟨a, by rw [Hh3.out]; rfl, Hpl.out, below_go hb2 hB⟩
    have hd1 : decide ((a : Int) < (b : Int)) = true := decide_eq_true (by omega)
    go_upto_region 5 with fail
    obtain ⟨h, hh⟩ : ∃ h, h = (a + b) / 2 := ⟨_, rfl⟩
    have hi1 : ((a : Int) + (b : Int)) / 2 = (h : Int) := by omega
    rw [hi1]
    have hha : a ≤ h := by omega
    have hhb : h < b := by omega
    clear hi1 hh
    obtain ⟨bb, off, rfl, hcell⟩ := ents_at (Hv.out.below hB) rfl (by omega)
    obtain ⟨c0, c1, c2⟩ := hcell h (by omega)
    have hf := fun W => find1_any (l.getD h L.zero) key W
    have Hdown := Lib.hid (fun q (h1 : q ≤ h) (h2 : Op.bytesLess (ky l h) key = true) => Hu.out.down h1 (by omega) h2)
    have Hupw := Lib.hid (fun q (h1 : h ≤ q) (h3 : q < l.length) (h2 : Op.bytesLess (ky l h) key = false) => Hu.out.upw h1 h3 h2)
    have Hky := Lib.hid (show ky l h = (l.getD h L.zero).key from rfl)
    generalize l.getD h L.zero = e at c0 c1 c2 hf Hky
    obtain ⟨ek, first, len⟩ := e
    simp only at c0 c1 c2 hf Hky
    have hj2 : (h : Int) < (l.length : Int) := by omega
    clear hcell
    rw [Hky.out] at Hdown Hupw
    unfold cmpI at hf
    cases hlt : Op.bytesLess ek key with
    | true =>
      rw [hlt] at hf
      have Hf := Lib.hid hf
      have Hlt := Lib.hid hlt
      clear hf hlt
      go_wp2_with (go_at_call 115; refine (Hf.out _).mono ?_; rintro r w2 ⟨rfl, hb2⟩)
      exact ⟨⟨h + 1, b, by omega, by omega, by go_num, rfl, Lib.hid (fun q hq => Hdown.out q (by omega) Hlt.out), Hhi, below_go hb2 hB⟩, by simp only [intOf]; omega⟩
    | false =>
      rw [hlt] at hf
      have Hlt := Lib.hid hlt
      cases hgt : Op.bytesLess key ek with
      | true =>
        rw [hgt] at hf
        have Hf := Lib.hid hf
        clear hf hlt hgt
        go_wp2_with (go_at_call 115; refine (Hf.out _).mono ?_; rintro r w2 ⟨rfl, hb2⟩)
        exact ⟨⟨a, h, by omega, by omega, rfl, rfl, Hlo, Lib.hid (fun q hq hq2 => Hupw.out q hq hq2 Hlt.out), below_go hb2 hB⟩, by simp only [intOf]; omega⟩
      | false =>
        rw [hgt] at hf
        have Hf := Lib.hid hf
        clear hf hlt hgt
        go_wp2_with (go_at_call 115; refine (Hf.out _).mono ?_; rintro r w2 ⟨rfl, hb2⟩)
        exact ⟨⟨a, h, by omega, by omega, rfl, rfl, Hlo, Lib.hid (fun q hq hq2 => Hupw.out q hq hq2 Hlt.out), below_go hb2 hB⟩, by simp only [intOf]; omega⟩
set_option maxRecDepth 100000 in
set_option maxHeartbeats 4000000 in
theorem Find_any (l : List L) (v : Value) (key : List UInt8) (w : World) (hv : Rd w 3 v l.length (ls l)) (hn : l.length ≤ 1000000) (hk : ∀ e ∈ l, e.key.length ≤ 1000000) :
    Calls Try.prog 51 #[v, .string (str key)] w fun r w' => Below w.heap.size w w' ∧ ((right l = false ∧ r = .returned (.tuple #[.int .i64 0, .bool false])) ∨ (right l = true ∧ ∃ i : Nat, Place l key i ∧ r = .returned (.tuple #[.int .i64 (i : Int), .bool (had l key l.length)]))) := by
  have hri := Right_any l v w hv hn hk
  have hse := fun (hr : right l = true) W (h : Below w.heap.size w W) => search_any l v key W (hv.below h) (rising_up (by simp only [right, Bool.and_eq_true] at hr; exact hr.1)) hn
  obtain ⟨A, c, rfl, hc1, hc2, -⟩ := hv.slice_
  clear hv hk
  cases hr : right l with
  | false =>
    rw [hr] at hri
    have Hri := Lib.hid hri
    clear hri hse
    go_enter Try.func51, Try.ntmps51
    go_wp2_with (go_at_call 19; refine Hri.out.mono ?_; rintro r w2 ⟨rfl, hb2⟩)
    go_ret2
    exact ⟨hb2, .inl ⟨trivial, rfl⟩⟩
  | true =>
    rw [hr] at hri
    have Hri := Lib.hid hri
    have Hse := Lib.hid (hse hr)
    clear hri hse
    go_enter Try.func51, Try.ntmps51
    go_wp2_with (first
      | (go_at_call 19; refine Hri.out.mono ?_; rintro r w2 ⟨rfl, hb2⟩)
      | (go_at_call 114; refine (Hse.out _ hb2).mono ?_; rintro r w3 ⟨i, rfl, hpl, hb3⟩; have Hpl := Lib.hid hpl; clear hpl))
    go_ret2
    exact ⟨below_go hb3 hb2, .inr ⟨trivial, i, Hpl.out, rfl⟩⟩
set_option maxRecDepth 100000 in
set_option maxHeartbeats 4000000 in
theorem Clone_any (l : List L) (v : Value) (w : World) (hv : Rd w 3 v l.length (ls l)) (hn : l.length ≤ 1000000) :
    Calls Try.prog 117 #[v] w fun r w' => ∃ v', r = .returned v' ∧ w'.ownsRow w.heap.size 77 3 v' l.length (ls l) ∧ Below w.heap.size w w' := by
  obtain ⟨A, c, rfl, hc1, hc2, -⟩ := hv.slice_
  unfold maxLen at hc2
  have qn := fun (w : World) (a : Option Addr) (n c : Nat) => Lib.run_eql_slice_nil (P := Try.prog) w 30 _ a n c 0 0 Try.underlying30
  cases A with
  | none =>
    have h0 : l = [] := by
      rcases Nat.eq_zero_or_pos l.length with h | h
      · exact List.length_eq_zero_iff.1 h
      · obtain ⟨b, off, e, -⟩ := hv.at_ h; cases e
    subst h0
    go_enter Try.func117, Try.ntmps117
    go_wp2_with fail
    go_ret
    exact ⟨_, rfl, own_nil _ _ _ _, Below.refl _ _⟩
  | some ad =>
    have hB1 := below_one w (.cells #[] 77)
    have hR := hv.below hB1
    clear hv
    go_enter Try.func117, Try.ntmps117
    go_wp2_with (at_builtin; go_must (refine app_row elLeaf rfl (.tmp 5) (.tmp 6) rfl w.heap.size _ _ 0 l.length [] (ls l) rfl rfl (ls_one' l) (own_empty w _ _ _ (Nat.le_refl _)) hR hB1 hB1.size (by omega) ?_); intro v1 w1 ho1 hB hg1 hat1; clear hg1 hat1; rw [Nat.zero_add, List.nil_append] at ho1)
    go_ret
    exact ⟨_, rfl, ho1, hB⟩
end Go.Proofs.Ytcjabfdjngekfaa.Leaf
