/- Updates: plain words. -/
import Derived.Test.YtpldkplfdbjidaaIdsPure
set_option linter.unusedVariables false
set_option linter.unusedSimpArgs false
namespace Go.Proofs.Ytpldkplfdbjidaa.Upd
open Go.Proofs.Ytpldkplfdbjidaa.Lay Go.Proofs.Ytpldkplfdbjidaa.Ids

structure U where
  au : Int
  ct : Nat
  ps : List Ids.Id
  kd : Int
  ky : List UInt8
  vl : List UInt8
def U.right (u : U) : Bool := decide (0 ≤ u.au ∧ u.au < 16) && decide (u.ct ≠ 0) && decide (u.ps.length ≤ 8) && up u.ps && decide (0 ≤ u.kd ∧ u.kd ≤ 2) && decide (u.ky.length ≤ 64) && decide (u.vl.length ≤ 64) && (decide (u.kd = 2) || decide (u.vl = []))
def U.put (u : U) : List UInt8 := putN u.au.toNat ++ (putN u.ct ++ (putN u.kd.toNat ++ (putT u.ky ++ (putT u.vl ++ Ids.put u.ps))))
def U.zero : U := ⟨0, 0, [], 0, [], []⟩
def q1 (b : List UInt8) : Nat × Rdr := (⟨b, 0⟩ : Rdr).small 15
def q2 (b : List UInt8) : Nat × Rdr := (q1 b).2.number
def q3 (b : List UInt8) : Nat × Rdr := (q2 b).2.small 2
def q4 (b : List UInt8) : List UInt8 × Rdr := (q3 b).2.text 64
def q5 (b : List UInt8) : List UInt8 × Rdr := (q4 b).2.text 64
def q6 (b : List UInt8) : List UInt8 × Rdr := (q5 b).2.raw ((q5 b).2.b.length : Nat)
def U.raw (b : List UInt8) : U := ⟨((q1 b).1 : Int), (q2 b).1, (read (q6 b).1 8).1, ((q3 b).1 : Int), (q4 b).1, (q5 b).1⟩
def U.good (b : List UInt8) : Bool := decide ((q6 b).2.fin = 0) && decide ((read (q6 b).1 8).2 = 0) && (U.raw b).right
def U.read (b : List UInt8) : U := if U.good b then U.raw b else U.zero

theorem right_spec {u : U} : u.right = true ↔ (0 ≤ u.au ∧ u.au < 16) ∧ u.ct ≠ 0 ∧ u.ps.length ≤ 8 ∧ up u.ps = true ∧ (0 ≤ u.kd ∧ u.kd ≤ 2) ∧ u.ky.length ≤ 64 ∧ u.vl.length ≤ 64 ∧ (u.kd = 2 ∨ u.vl = []) := by
  simp only [U.right, Bool.and_eq_true, Bool.or_eq_true, decide_eq_true_eq, and_assoc]

theorem small_putN (v : Nat) (m : Nat) (rest : List UInt8) (h : v ≤ m) (hm : m < 18446744073709551616) : (⟨putN v ++ rest, 0⟩ : Rdr).small m = (v, ⟨rest, 0⟩) := by
  unfold Rdr.small
  rw [number_putN v rest (by omega), if_neg (by simp only; omega)]
theorem text_putT' (s t : List UInt8) (m : Nat) (h : s.length ≤ m) (hm : m < 18446744073709551616) : (⟨putT s ++ t, 0⟩ : Rdr).text m = (s, ⟨t, 0⟩) := by
  unfold Rdr.text
  rw [putT, List.append_assoc, small_putN s.length m (s ++ t) h hm]
  unfold Rdr.raw
  simp only [if_true]
  rw [if_neg (by omega), if_neg (by rw [List.length_append]; omega)]
  simp [List.drop_append]
theorem rl_flat : ∀ (l : List Ids.Id) (out : List Ids.Id) (rest : List UInt8), W32 l → rl l.length ⟨l.flatten ++ rest, 0⟩ out = (⟨rest, 0⟩, out ++ l)
  | [], out, rest, h => by simp [rl]
  | x :: l, out, rest, h => by
    have hx := h x List.mem_cons_self
    have hr : (⟨(x :: l).flatten ++ rest, 0⟩ : Rdr).raw 32 = (x, ⟨l.flatten ++ rest, 0⟩) := by
      unfold Rdr.raw
      simp only [if_true, List.flatten_cons, List.append_assoc]
      rw [if_neg (by omega), if_neg (by rw [List.length_append, hx]; omega)]
      rw [show (32 : Int).toNat = 32 from rfl, ← hx]
      simp
    rw [List.length_cons, rl, if_pos rfl, hr]
    simp only
    rw [rl_flat l _ rest (fun j hj => h j (List.mem_cons_of_mem _ hj))]
    simp [pad, hx]
theorem fin_nil : (⟨[], 0⟩ : Rdr).fin = 0 := by simp [Rdr.fin]
theorem fin_more (c : UInt8) (l : List UInt8) : (⟨c :: l, 0⟩ : Rdr).fin = 11 := by simp [Rdr.fin]
theorem read_put {l : List Ids.Id} (h : W32 l) (hl : l.length ≤ 8) (hu : up l = true) : Ids.read (Ids.put l) 8 = (l, 0) := by
  have h1 := small_putN l.length 8 l.flatten hl (by omega)
  have h2 := rl_flat l [] [] h
  simp only [List.append_nil, List.nil_append] at h2
  unfold Ids.read Ids.put
  rw [show ((8 : Nat) : Int) = 8 from rfl] at h1
  rw [h1]
  simp only
  rw [h2]
  simp [fin_nil, hu]
theorem read_put_more {l : List Ids.Id} (h : W32 l) (hl : l.length ≤ 8) (c : UInt8) : (Ids.read (Ids.put l ++ [c]) 8).2 = 11 := by
  have h1 := small_putN l.length 8 (l.flatten ++ [c]) hl (by omega)
  have h2 := rl_flat l [] [c] h
  simp only [List.nil_append] at h2
  unfold Ids.read Ids.put
  rw [show ((8 : Nat) : Int) = 8 from rfl] at h1
  rw [List.append_assoc, h1]
  simp only
  rw [h2]
  simp [fin_more]
theorem raw_all (b : List UInt8) : (⟨b, 0⟩ : Rdr).raw (b.length : Nat) = (b, ⟨[], 0⟩) := by
  unfold Rdr.raw
  simp only [if_true]
  rw [if_neg (by omega), if_neg (by omega)]
  simp
theorem toNat_eq {n : Int} (h : 0 ≤ n) : ((n.toNat : Nat) : Int) = n := Int.toNat_of_nonneg h
theorem q_put {u : U} (h : u.right = true) (hc : u.ct < 18446744073709551616) (t : List UInt8) :
    q1 (u.put ++ t) = (u.au.toNat, ⟨putN u.ct ++ (putN u.kd.toNat ++ (putT u.ky ++ (putT u.vl ++ (Ids.put u.ps ++ t)))), 0⟩) ∧ q2 (u.put ++ t) = (u.ct, ⟨putN u.kd.toNat ++ (putT u.ky ++ (putT u.vl ++ (Ids.put u.ps ++ t))), 0⟩) ∧
    q3 (u.put ++ t) = (u.kd.toNat, ⟨putT u.ky ++ (putT u.vl ++ (Ids.put u.ps ++ t)), 0⟩) ∧ q4 (u.put ++ t) = (u.ky, ⟨putT u.vl ++ (Ids.put u.ps ++ t), 0⟩) ∧ q5 (u.put ++ t) = (u.vl, ⟨Ids.put u.ps ++ t, 0⟩) ∧ q6 (u.put ++ t) = (Ids.put u.ps ++ t, ⟨[], 0⟩) := by
  obtain ⟨⟨a1, a2⟩, -, -, -, ⟨k1, k2⟩, hk, hv, -⟩ := right_spec.1 h
  have e1 : q1 (u.put ++ t) = (u.au.toNat, ⟨putN u.ct ++ (putN u.kd.toNat ++ (putT u.ky ++ (putT u.vl ++ (Ids.put u.ps ++ t)))), 0⟩) := by
    have := small_putN u.au.toNat 15 (putN u.ct ++ (putN u.kd.toNat ++ (putT u.ky ++ (putT u.vl ++ (Ids.put u.ps ++ t))))) (by omega) (by omega)
    rw [← this, q1, U.put]; simp only [List.append_assoc]; rfl
  have e2 : q2 (u.put ++ t) = (u.ct, ⟨putN u.kd.toNat ++ (putT u.ky ++ (putT u.vl ++ (Ids.put u.ps ++ t))), 0⟩) := by rw [q2, e1]; exact number_putN _ _ hc
  have e3 : q3 (u.put ++ t) = (u.kd.toNat, ⟨putT u.ky ++ (putT u.vl ++ (Ids.put u.ps ++ t)), 0⟩) := by rw [q3, e2]; exact small_putN _ 2 _ (by omega) (by omega)
  have e4 : q4 (u.put ++ t) = (u.ky, ⟨putT u.vl ++ (Ids.put u.ps ++ t), 0⟩) := by rw [q4, e3]; exact text_putT' _ _ 64 hk (by omega)
  have e5 : q5 (u.put ++ t) = (u.vl, ⟨Ids.put u.ps ++ t, 0⟩) := by rw [q5, e4]; exact text_putT' _ _ 64 hv (by omega)
  exact ⟨e1, e2, e3, e4, e5, by rw [q6, e5]; exact raw_all _⟩
theorem good_put {u : U} (h : u.right = true) (hc : u.ct < 18446744073709551616) (h32 : W32 u.ps) : U.good u.put = true ∧ U.raw u.put = u := by
  obtain ⟨e1, e2, e3, e4, e5, e6⟩ := q_put h hc []
  simp only [List.append_nil] at e1 e2 e3 e4 e5 e6
  obtain ⟨⟨a1, a2⟩, -, hp, hu, ⟨k1, k2⟩, -⟩ := right_spec.1 h
  have hr := read_put h32 hp hu
  have hraw : U.raw u.put = u := by
    unfold U.raw
    rw [e1, e2, e3, e4, e5, e6, hr]
    simp only [toNat_eq a1, toNat_eq k1]
  refine ⟨?_, hraw⟩
  unfold U.good
  rw [hraw, e6, hr, h, fin_nil]; rfl
theorem good_more {u : U} (h : u.right = true) (hc : u.ct < 18446744073709551616) (h32 : W32 u.ps) (c : UInt8) : U.good (u.put ++ [c]) = false := by
  obtain ⟨-, -, -, -, -, e6⟩ := q_put h hc [c]
  obtain ⟨-, -, hp, -⟩ := right_spec.1 h
  unfold U.good
  rw [e6, read_put_more h32 hp c]
  simp
/-- what was read without fault was laid so -/
theorem num_back (r : Rdr) (h : r.number.2.bad = 0) : r.bad = 0 ∧ r.b = putN r.number.1 ++ r.number.2.b ∧ r.number.1 < 18446744073709551616 := by
  have h0 : r.bad = 0 := by
    by_cases h0 : r.bad = 0
    · exact h0
    · have : r.number = (0, r) := by unfold Rdr.number; rw [if_neg h0]
      rw [this] at h; exact h
  obtain ⟨b, bad⟩ := r
  simp only at h0
  subst h0
  exact ⟨rfl, (number_canon b h), Rdr.number_lt _⟩
theorem sml_back (r : Rdr) (m : Nat) (h : (r.small m).2.bad = 0) : r.bad = 0 ∧ r.b = putN (r.small m).1 ++ (r.small m).2.b ∧ (r.small m).1 ≤ m := by
  unfold Rdr.small at *
  by_cases hc : r.number.2.bad = 0 ∧ ((m : Int) < 0 ∨ (m : Int) < r.number.1)
  · rw [if_pos hc] at h; simp [Rdr.stop, hc.1] at h
  · rw [if_neg hc] at h ⊢
    obtain ⟨h1, h2, h3⟩ := num_back r h
    exact ⟨h1, h2, by have : ¬ ((m : Int) < r.number.1) := fun hl => hc ⟨h, .inr hl⟩; omega⟩
theorem raw_back (r : Rdr) (m : Nat) (h : (r.raw m).2.bad = 0) : r.bad = 0 ∧ r.b = (r.raw m).1 ++ (r.raw m).2.b ∧ (r.raw m).1.length = m := by
  unfold Rdr.raw at *
  by_cases h0 : r.bad = 0
  · rw [if_pos h0, if_neg (by omega)] at h ⊢
    by_cases hl : (r.b.length : Int) < m
    · rw [if_pos hl] at h; simp [Rdr.stop, h0] at h
    · rw [if_neg hl]
      simp only [Int.toNat_natCast, List.take_append_drop, true_and, List.length_take]
      exact ⟨h0, by omega⟩
  · rw [if_neg h0] at h; exact absurd h h0
theorem txt_back (r : Rdr) (m : Nat) (h : (r.text m).2.bad = 0) : r.bad = 0 ∧ r.b = putT (r.text m).1 ++ (r.text m).2.b ∧ (r.text m).1.length ≤ m := by
  unfold Rdr.text at *
  obtain ⟨h1, h2, h3⟩ := raw_back _ _ h
  obtain ⟨h4, h5, h6⟩ := sml_back _ _ h1
  exact ⟨h4, by rw [h5, h2, putT, h3, List.append_assoc], by omega⟩
theorem rl_back : ∀ (n : Nat) (r : Rdr) (out : List Ids.Id), (rl n r out).1.bad = 0 → r.bad = 0 ∧ ∃ l, (rl n r out).2 = out ++ l ∧ l.length = n ∧ W32 l ∧ r.b = l.flatten ++ (rl n r out).1.b
  | 0, r, out, h => ⟨h, [], by simp [rl], rfl, W32.nil, by simp [rl]⟩
  | n + 1, r, out, h => by
    by_cases h0 : r.bad = 0
    · rw [rl, if_pos h0] at h ⊢
      obtain ⟨h1, l, h2, h3, h4, h5⟩ := rl_back n _ _ h
      obtain ⟨-, h6, h7⟩ := raw_back r 32 h1
      rw [show ((32 : Nat) : Int) = 32 from rfl] at h6 h7
      have hp : pad (r.raw 32).1 = (r.raw 32).1 := by simp [pad, h7]
      refine ⟨h0, (r.raw 32).1 :: l, by rw [h2, hp]; simp, by simp [h3], ?_, by rw [h6, h5]; simp⟩
      intro i hi
      rcases List.mem_cons.1 hi with rfl | hi
      · exact h7
      · exact h4 i hi
    · rw [rl, if_neg h0] at h; exact absurd h h0
theorem fin_zero {r : Rdr} (h : r.fin = 0) : r.bad = 0 ∧ r.b = [] := by
  unfold Rdr.fin at h
  split at h
  · cases h
  · rename_i hc
    refine ⟨h, ?_⟩
    by_cases hb : r.b = []
    · exact hb
    · exact absurd ⟨h, hb⟩ hc
theorem read_back (b : List UInt8) (h : (Ids.read b 8).2 = 0) : b = Ids.put (Ids.read b 8).1 ∧ W32 (Ids.read b 8).1 ∧ (Ids.read b 8).1.length ≤ 8 ∧ up (Ids.read b 8).1 = true := by
  unfold Ids.read at *
  simp only at h ⊢
  generalize hs : (⟨b, 0⟩ : Rdr).small 8 = s at h ⊢
  split at h
  · rename_i hb; exact absurd h hb
  · rename_i hb
    rw [if_neg hb]
    split at h
    · cases h
    · rename_i hc
      rw [if_neg hc]
      simp only [not_or, Decidable.not_not] at hc hb
      obtain ⟨h1, l, h2, h3, h4, h5⟩ := rl_back s.1 s.2 [] hb
      obtain ⟨-, h6, h7⟩ := sml_back ⟨b, 0⟩ 8 (by rw [show ((8 : Nat) : Int) = 8 from rfl, hs]; exact h1)
      rw [show ((8 : Nat) : Int) = 8 from rfl, hs] at h6 h7
      obtain ⟨-, h8⟩ := fin_zero hc.1
      rw [List.nil_append] at h2
      simp only at h6 ⊢
      rw [h2] at hc ⊢
      rw [h8, List.append_nil] at h5
      refine ⟨by rw [h6, Ids.put, h3, h5], h4, by omega, by have := hc.2; revert this; cases up l <;> simp⟩
theorem sml_back' (r : Rdr) (p : Nat × Rdr) (M : Int) (m : Nat) (hM : M = (m : Int)) (hp : p = r.small M) (h : p.2.bad = 0) : r.bad = 0 ∧ r.b = putN p.1 ++ p.2.b ∧ p.1 ≤ m := by subst hM hp; exact sml_back r m h
theorem txt_back' (r : Rdr) (p : List UInt8 × Rdr) (M : Int) (m : Nat) (hM : M = (m : Int)) (hp : p = r.text M) (h : p.2.bad = 0) : r.bad = 0 ∧ r.b = putT p.1 ++ p.2.b ∧ p.1.length ≤ m := by subst hM hp; exact txt_back r m h
theorem raw_back' (r : Rdr) (p : List UInt8 × Rdr) (m : Nat) (hp : p = r.raw m) (h : p.2.bad = 0) : r.bad = 0 ∧ r.b = p.1 ++ p.2.b := by subst hp; exact ⟨(raw_back r m h).1, (raw_back r m h).2.1⟩
theorem num_back' (r : Rdr) (p : Nat × Rdr) (hp : p = r.number) (h : p.2.bad = 0) : r.bad = 0 ∧ r.b = putN p.1 ++ p.2.b ∧ p.1 < 18446744073709551616 := by subst hp; exact num_back r h
theorem chain_back (b : List UInt8) (p1 p2 p3 : Nat × Rdr) (p4 p5 p6 : List UInt8 × Rdr) (h1 : p1 = (⟨b, 0⟩ : Rdr).small 15) (h2 : p2 = p1.2.number) (h3 : p3 = p2.2.small 2) (h4 : p4 = p3.2.text 64) (h5 : p5 = p4.2.text 64) (h6 : p6 = p5.2.raw (p5.2.b.length : Nat)) (hf : p6.2.fin = 0) :
    b = putN p1.1 ++ (putN p2.1 ++ (putN p3.1 ++ (putT p4.1 ++ (putT p5.1 ++ p6.1)))) ∧ p2.1 < 18446744073709551616 := by
  obtain ⟨f1, f2⟩ := fin_zero hf
  obtain ⟨b5, c5⟩ := raw_back' _ p6 _ h6 f1
  obtain ⟨b4, c4, -⟩ := txt_back' _ p5 64 64 rfl h5 b5
  obtain ⟨b3, c3, -⟩ := txt_back' _ p4 64 64 rfl h4 b4
  obtain ⟨b2, c2, -⟩ := sml_back' _ p3 2 2 rfl h3 b3
  obtain ⟨b1, c1, l1⟩ := num_back' _ p2 h2 b2
  obtain ⟨-, c0, -⟩ := sml_back' _ p1 15 15 rfl h1 b1
  simp only at c0
  rw [f2, List.append_nil] at c5
  exact ⟨by rw [← c5, ← c4, ← c3, ← c2, ← c1, ← c0], l1⟩
theorem good_iff (b : List UInt8) : U.good b = true ↔ (q6 b).2.fin = 0 ∧ (Ids.read (q6 b).1 8).2 = 0 ∧ (U.raw b).right = true := by
  unfold U.good
  generalize (q6 b).2.fin = x
  generalize (Ids.read (q6 b).1 8).2 = y
  generalize (U.raw b).right = z
  simp [and_assoc]
theorem raw_put (b : List UInt8) (c : b = putN (q1 b).1 ++ (putN (q2 b).1 ++ (putN (q3 b).1 ++ (putT (q4 b).1 ++ (putT (q5 b).1 ++ (q6 b).1))))) (k1 : (q6 b).1 = Ids.put (Ids.read (q6 b).1 8).1) : (U.raw b).put = b := by
  unfold U.raw
  generalize q1 b = p1 at *
  generalize q2 b = p2 at *
  generalize q3 b = p3 at *
  generalize q4 b = p4 at *
  generalize q5 b = p5 at *
  generalize q6 b = p6 at *
  generalize Ids.read p6.1 8 = p7 at *
  show putN (p1.1 : Int).toNat ++ (putN p2.1 ++ (putN (p3.1 : Int).toNat ++ (putT p4.1 ++ (putT p5.1 ++ Ids.put p7.1)))) = b
  rw [← k1, Int.toNat_natCast, Int.toNat_natCast]
  exact c.symm
theorem raw_ct (b : List UInt8) : (U.raw b).ct = (q2 b).1 := by unfold U.raw; rfl
theorem raw_ps (b : List UInt8) : (U.raw b).ps = (Ids.read (q6 b).1 8).1 := by unfold U.raw; dsimp only
theorem good_back {b : List UInt8} (h : U.good b = true) : (U.raw b).right = true ∧ (U.raw b).put = b ∧ W32 (U.raw b).ps ∧ (U.raw b).ct < 18446744073709551616 := by
  obtain ⟨h1, h2, h3⟩ := (good_iff b).1 h
  obtain ⟨k1, k2, -⟩ := read_back _ h2
  obtain ⟨c, l1⟩ := chain_back b (q1 b) (q2 b) (q3 b) (q4 b) (q5 b) (q6 b) rfl rfl rfl rfl rfl rfl h1
  exact ⟨h3, raw_put b c k1, by rw [raw_ps]; exact k2, by rw [raw_ct]; exact l1⟩
theorem good_cut {u : U} (h : u.right = true) (hc : u.ct < 18446744073709551616) (h32 : W32 u.ps) : U.good u.put.dropLast = false := by
  cases hg : U.good u.put.dropLast with
  | false => rfl
  | true =>
    obtain ⟨k1, k2, k3, k4⟩ := good_back hg
    have hne : u.put ≠ [] := by simp [U.put, putN]
    have e : u.put = (U.raw u.put.dropLast).put ++ [u.put.getLast hne] := by rw [k2]; exact (List.dropLast_concat_getLast hne).symm
    have h1 := (good_put h hc h32).1
    rw [e, good_more k1 k4 k3] at h1
    cases h1
theorem put_ne (u : U) : u.put ≠ [] := by simp [U.put, putN]
end Go.Proofs.Ytpldkplfdbjidaa.Upd
