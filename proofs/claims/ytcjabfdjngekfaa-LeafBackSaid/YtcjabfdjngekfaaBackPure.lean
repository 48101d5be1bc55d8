/- Leaves that come back: plain words. -/
import Derived.Test.YtcjabfdjngekfaaTurnPure
import Derived.Test.YtcjabfdjngekfaaLeafOfPure
set_option linter.unusedVariables false
set_option linter.unusedSimpArgs false
namespace Go.Proofs.Ytcjabfdjngekfaa.Leaf
open Go.Op (bytesLess)

/-- bytes of entries -/
def F (l : List L) : Nat := (l.flatMap L.ent).length
theorem F_append (a b : List L) : F (a ++ b) = F a + F b := by simp [F]
theorem F_one (e : L) : F [e] = 5 + e.key.length := by simp [F, ent_length]
theorem F_size (l : List L) : sizeTo l l.length = 1 + F l := by
  rw [sizeTo_take l _ (Nat.le_refl _), List.take_of_length_le (Nat.le_refl _), F]
theorem F_take (l : List L) (k : Nat) (hk : k ≤ l.length) : sizeTo l k = 1 + F (l.take k) := sizeTo_take l k hk
theorem F_parts (l : List L) (h : Nat) : F (l.take h) + F (l.drop h) = F l := by rw [← F_append, List.take_append_drop]
theorem F_step (l : List L) (k : Nat) (hk : k < l.length) : F (l.take (k + 1)) = F (l.take k) + (5 + (ky l k).length) := by
  rw [take_succ l k hk, F_append, F_one]; rfl
theorem F_pos {l : List L} (h : 0 < l.length) : 5 ≤ F l := by
  cases l with
  | nil => simp at h
  | cons e l => rw [show e :: l = [e] ++ l from rfl, F_append, F_one]; omega
theorem right_iff (l : List L) : right l = true ↔ rising l = true ∧ F l ≤ 255 := by
  simp only [right, Bool.and_eq_true, decide_eq_true_eq, F_size]
  constructor <;> rintro ⟨a, b⟩ <;> exact ⟨a, by omega⟩
def AllR (l : List L) : Prop := ∀ i, i < l.length → (l.getD i L.zero).right = true
theorem rising_iff (l : List L) : rising l = true ↔ AllR l ∧ Up l := by
  constructor
  · intro h
    refine ⟨fun i hi => ?_, rising_up h⟩
    have := risTo_at h hi
    simp only [risAt, Bool.and_eq_true] at this
    exact this.1
  · rintro ⟨h1, h2⟩
    have : ∀ k, k ≤ l.length → risTo l k = true := by
      intro k
      induction k with
      | zero => intro _; rfl
      | succ k ih =>
        intro hk
        rw [risTo, ih (by omega), Bool.true_and, risAt, h1 k (by omega), Bool.true_and]
        cases k with
        | zero => rfl
        | succ k => rw [Nat.add_sub_cancel, show bytesLess (l.getD k L.zero).key (l.getD (k + 1) L.zero).key = true from h2 k (k + 1) (by omega) (by omega)]; simp
    exact this _ (Nat.le_refl _)
theorem getD_take (l : List L) (h i : Nat) (hi : i < h) : (l.take h).getD i L.zero = l.getD i L.zero := by
  rw [List.getD_eq_getElem?_getD, List.getElem?_take, if_pos hi, ← List.getD_eq_getElem?_getD]
theorem getD_drop (l : List L) (h i : Nat) : (l.drop h).getD i L.zero = l.getD (h + i) L.zero := by
  rw [List.getD_eq_getElem?_getD, List.getElem?_drop, ← List.getD_eq_getElem?_getD]
theorem getD_app (a b : List L) (i : Nat) : (a ++ b).getD i L.zero = if i < a.length then a.getD i L.zero else b.getD (i - a.length) L.zero := by
  rw [List.getD_eq_getElem?_getD, List.getElem?_append]
  split <;> rw [← List.getD_eq_getElem?_getD]
theorem rising_take {l : List L} (h : rising l = true) (k : Nat) : rising (l.take k) = true := by
  obtain ⟨h1, h2⟩ := (rising_iff l).1 h
  refine (rising_iff _).2 ⟨fun i hi => ?_, fun i j hij hj => ?_⟩
  · rw [List.length_take] at hi; rw [getD_take _ _ _ (by omega)]; exact h1 i (by omega)
  · rw [List.length_take] at hj; rw [ky, ky, getD_take _ _ _ (by omega), getD_take _ _ _ (by omega)]; exact h2 i j hij (by omega)
theorem rising_drop {l : List L} (h : rising l = true) (k : Nat) : rising (l.drop k) = true := by
  obtain ⟨h1, h2⟩ := (rising_iff l).1 h
  refine (rising_iff _).2 ⟨fun i hi => ?_, fun i j hij hj => ?_⟩
  · rw [List.length_drop] at hi; rw [getD_drop]; exact h1 _ (by omega)
  · rw [List.length_drop] at hj; rw [ky, ky, getD_drop, getD_drop]; exact h2 _ _ (by omega) (by omega)
/-- two rising rows, the one's keys below the other's -/
theorem rising_app {a b : List L} (ha : rising a = true) (hb : rising b = true) (h : ∀ i j, i < a.length → j < b.length → bytesLess (ky a i) (ky b j) = true) : rising (a ++ b) = true := by
  obtain ⟨a1, a2⟩ := (rising_iff a).1 ha
  obtain ⟨b1, b2⟩ := (rising_iff b).1 hb
  refine (rising_iff _).2 ⟨fun i hi => ?_, fun i j hij hj => ?_⟩
  · rw [List.length_append] at hi; rw [getD_app]; split
    · exact a1 i ‹_›
    · exact b1 _ (by omega)
  · rw [List.length_append] at hj; rw [ky, ky, getD_app, getD_app]
    by_cases g1 : j < a.length
    · rw [if_pos (by omega), if_pos g1]; exact a2 i j hij g1
    · by_cases g2 : i < a.length
      · rw [if_pos g2, if_neg g1]; exact h i _ g2 (by omega)
      · rw [if_neg g2, if_neg g1]; exact b2 _ _ (by omega) (by omega)
theorem rising_one {e : L} (h : e.right = true) : rising [e] = true := by
  refine (rising_iff _).2 ⟨fun i hi => ?_, fun i j hij hj => ?_⟩
  · rw [List.length_cons, List.length_nil] at hi
    obtain rfl : i = 0 := by omega
    exact h
  · rw [List.length_cons, List.length_nil] at hj; omega
theorem rising_without {l : List L} (h : rising l = true) (key : List UInt8) {p : Nat} (hp : Place l key p) : rising (without l key) = true := by
  have hu := rising_up h
  cases hh : had l key l.length with
  | false => rw [without_none hh]; exact h
  | true =>
    have h1 := had_place hu hp
    rw [hh] at h1
    simp only [Eq.comm (a := true), Bool.and_eq_true, decide_eq_true_eq, beq_iff_eq] at h1
    rw [without_some hu h1.1 h1.2]
    refine rising_app (rising_take h p) (rising_drop h (p + 1)) (fun i j hi hj => ?_)
    rw [List.length_take] at hi; rw [List.length_drop] at hj
    rw [ky, ky, getD_take _ _ _ (by omega), getD_drop]
    exact hu i (p + 1 + j) (by omega) (by omega)
theorem had_without (l : List L) (key : List UInt8) : had (without l key) key (without l key).length = false := by
  cases h : had (without l key) key (without l key).length with
  | false => rfl
  | true =>
    obtain ⟨j, hj, hk⟩ := (had_iff _ _ _).1 h
    have hm : (without l key)[j] ∈ without l key := List.getElem_mem hj
    rw [ky, List.getD_eq_getElem?_getD, List.getElem?_eq_getElem hj, Option.getD_some] at hk
    have := (List.mem_filter.1 hm).2
    rw [hk] at this; simp at this
theorem rising_with {l : List L} (h : rising l = true) {e : L} (he : e.right = true) {p : Nat} (hp : Place l e.key p) : rising (withAt l e p (had l e.key l.length)) = true := by
  have hu := rising_up h
  have hpl := place_without hu hp
  rw [← hpl.2 e, show (without l e.key).take p ++ e :: (without l e.key).drop p = (without l e.key).take p ++ ([e] ++ (without l e.key).drop p) from rfl]
  have hw := rising_without h e.key hp
  have hhw := had_without l e.key
  have P := hpl.1
  refine rising_app (rising_take hw p) (rising_app (rising_one he) (rising_drop hw p) (fun i j hi hj => ?_)) (fun i j hi hj => ?_)
  · obtain rfl : i = 0 := by simpa using hi
    rw [List.length_drop] at hj
    show bytesLess e.key (ky ((without l e.key).drop p) j) = true
    rw [ky, getD_drop]
    cases hlt : bytesLess e.key ((without l e.key).getD (p + j) L.zero).key with
    | true => rfl
    | false =>
      have h1 := P.hi (p + j) (by omega) (by omega)
      have : had (without l e.key) e.key (without l e.key).length = true := (had_iff _ _ _).2 ⟨p + j, by omega, lt_tri h1 hlt⟩
      rw [this] at hhw; cases hhw
  · rw [List.length_take] at hi
    have hlo := P.lo i (by omega)
    rw [ky, getD_take _ _ _ (by omega)]
    rw [List.length_append, List.length_drop] at hj
    rw [ky, getD_app]
    split
    · obtain rfl : j = 0 := by simpa using ‹j < [e].length›
      exact hlo
    · rename_i hn
      rw [getD_drop]
      simp only [List.length_cons, List.length_nil] at hj hn
      have hPl := P.le
      refine lt_of_not hlo (P.hi (p + (j - [e].length)) (Nat.le_add_right _ _) (by simp only [List.length_cons, List.length_nil]; omega))
theorem F_with (l : List L) (e : L) (p : Nat) (is : Bool) : F (withAt l e p is) ≤ F l + (5 + e.key.length) := by
  rw [withAt, show e :: l.drop (if is then p + 1 else p) = [e] ++ l.drop (if is then p + 1 else p) from rfl, F_append, F_append, F_one]
  have h1 := F_parts l p
  have h2 := F_parts (l.drop p) 1
  rw [List.drop_drop] at h2
  cases is
  · simp only [Bool.false_eq_true, if_false]; omega
  · simp only [if_true]; omega
/-- the halves of a rising leaf that is not too great -/
structure Two (l : List L) (h : Nat) : Prop where
  pos : 0 < h
  le : h ≤ l.length
  more : F (l.drop h) ≤ F (l.take h)
  last : 2 * (F (l.take h) - 5 - (ky l (h - 1)).length) < F l
  fit : 5 + (ky l (h - 1)).length ≤ F (l.take h)
  p : right (l.take h) = true
  q : right (l.drop h) = true
theorem Cut.two {l : List L} {h : Nat} (hc : Cut l h) (hr : rising l = true) (h0 : 0 < l.length) (hF : F l ≤ 300) : Two l h := by
  have c1 : ∀ j, j < h → 2 * F (l.take j) < F l := fun j hj => by
    have := hc.lo j hj
    rw [F_take l j (by have := hc.le; omega), F_size] at this; omega
  have hpos : 0 < h := by
    rcases Nat.eq_zero_or_pos h with g | g
    · rcases hc.hi with k | k
      · omega
      · rw [g, F_size] at k
        have := F_pos h0
        simp only [sizeTo] at k; omega
    · exact g
  have hle := hc.le
  have hpa := F_parts l h
  have hst := F_step l (h - 1) (by omega)
  rw [show h - 1 + 1 = h by omega] at hst
  have hl := c1 (h - 1) (by omega)
  have hkl : (ky l (h - 1)).length ≤ 40 := by
    have := ((rising_iff l).1 hr).1 (h - 1) (by omega)
    simp only [L.right, Bool.and_eq_true, decide_eq_true_eq] at this
    exact this.1.1.1.1.2
  have hmore : F (l.drop h) ≤ F (l.take h) := by
    rcases hc.hi with k | k
    · rw [k, List.drop_of_length_le (Nat.le_refl _)]; simp [F]
    · rw [F_take l h hle, F_size] at k; omega
  exact ⟨hpos, hle, hmore, by omega, by omega, (right_iff _).2 ⟨rising_take hr h, by omega⟩, (right_iff _).2 ⟨rising_drop hr h, by omega⟩⟩
theorem bt_zero (x : UInt8) (r : List UInt8) : bt (x :: r) 0 = x.toNat := rfl
theorem bt_succ (x : UInt8) (r : List UInt8) (i : Nat) : bt (x :: r) (i + 1) = bt r i := by simp [bt]
theorem bt_app (a b : List UInt8) (i : Nat) : bt (a ++ b) (a.length + i) = bt b i := by
  rw [bt, bt, List.getD_eq_getElem?_getD, List.getElem?_append_right (by omega), Nat.add_sub_cancel_left, ← List.getD_eq_getElem?_getD]
theorem ent_back {e : L} (he : e.right = true) (r : List UInt8) : room (e.ent ++ r) = true ∧ entOf (e.ent ++ r) = e ∧ (e.ent ++ r).drop (bt (e.ent ++ r) 0 + 5) = r := by
  obtain ⟨key, first, len⟩ := e
  simp only [L.right, Bool.and_eq_true, decide_eq_true_eq] at he
  obtain ⟨⟨⟨⟨⟨r1, r2⟩, r3⟩, r4⟩, r5⟩, r6⟩ := he
  obtain ⟨a, rfl⟩ := Int.eq_ofNat_of_zero_le r3
  obtain ⟨d, rfl⟩ := Int.eq_ofNat_of_zero_le r5
  have hl := ent_length (⟨key, (a : Int), (d : Int)⟩ : L)
  have h0 : bt (L.ent ⟨key, (a : Int), (d : Int)⟩ ++ r) 0 = key.length := by
    show (UInt8.ofNat key.length).toNat = _
    rw [UInt8.toNat_ofNat']; omega
  have hb : ∀ i, bt (L.ent ⟨key, (a : Int), (d : Int)⟩ ++ r) (key.length + 1 + i) = bt (num2 (a : Int) ++ num2 (d : Int) ++ r) i := by
    intro i
    rw [show L.ent ⟨key, (a : Int), (d : Int)⟩ ++ r = UInt8.ofNat key.length :: (key ++ (num2 (a : Int) ++ num2 (d : Int) ++ r)) by simp [L.ent], show key.length + 1 + i = key.length + i + 1 by omega, bt_succ, bt_app]
  have hbb : ∀ i x y z u, bt (num2 (a : Int) ++ num2 (d : Int) ++ r) i = bt (x :: y :: z :: u :: r) i → True := fun _ _ _ _ _ _ => trivial
  have n0 : bt (num2 (a : Int) ++ num2 (d : Int) ++ r) 0 = a / 256 := by show (UInt8.ofNat (a / 256)).toNat = _; rw [UInt8.toNat_ofNat']; omega
  have n1 : bt (num2 (a : Int) ++ num2 (d : Int) ++ r) 1 = a % 256 := by show (UInt8.ofNat (a % 256)).toNat = _; rw [UInt8.toNat_ofNat']; omega
  have n2 : bt (num2 (a : Int) ++ num2 (d : Int) ++ r) 2 = d / 256 := by show (UInt8.ofNat (d / 256)).toNat = _; rw [UInt8.toNat_ofNat']; omega
  have n3 : bt (num2 (a : Int) ++ num2 (d : Int) ++ r) 3 = d % 256 := by show (UInt8.ofNat (d % 256)).toNat = _; rw [UInt8.toNat_ofNat']; omega
  refine ⟨?_, ?_, ?_⟩
  · rw [room, h0, List.length_append, hl]; simp; omega
  · rw [entOf, h0]
    have e1 := hb 0
    have e2 := hb 1
    have e3 := hb 2
    have e4 := hb 3
    rw [Nat.add_assoc] at e2 e3 e4
    rw [Nat.add_zero, n0] at e1
    rw [n1] at e2
    rw [n2] at e3
    rw [n3] at e4
    rw [e1, e2, e3, e4, show 256 * (a / 256) + a % 256 = a by omega, show 256 * (d / 256) + d % 256 = d by omega]
    have hk : ((L.ent ⟨key, (a : Int), (d : Int)⟩ ++ r).drop 1).take key.length = key := by
      rw [show L.ent ⟨key, (a : Int), (d : Int)⟩ ++ r = UInt8.ofNat key.length :: (key ++ (num2 (a : Int) ++ num2 (d : Int) ++ r)) by simp [L.ent], List.drop_succ_cons, List.drop_zero, List.take_left' rfl]
    rw [hk]
  · rw [h0, show key.length + 5 = (L.ent ⟨key, (a : Int), (d : Int)⟩).length by rw [hl]; exact Nat.add_comm _ _]
    exact List.drop_left' rfl
theorem stp_ents (l : List L) (hr : AllR l) (z : List UInt8) : ∀ k, k ≤ l.length → stp (l.flatMap L.ent ++ z) k = some (l.take k, (l.drop k).flatMap L.ent ++ z) := by
  intro k
  induction k with
  | zero => intro _; simp [stp]
  | succ k ih =>
    intro hk
    have h1 := ih (by omega)
    have hd : l.drop k = l.getD k L.zero :: l.drop (k + 1) := by
      rw [List.drop_eq_getElem_cons (by omega), List.getD_eq_getElem?_getD, List.getElem?_eq_getElem (by omega)]; rfl
    rw [hd, List.flatMap_cons, List.append_assoc] at h1
    obtain ⟨b1, b2, b3⟩ := ent_back (hr k (by omega)) ((l.drop (k + 1)).flatMap L.ent ++ z)
    rw [stp_succ h1 b1, b2, b3, ← take_succ l k (by omega)]
theorem ofB_block {l : List L} (hr : right l = true) (h0 : 0 < l.length) : ofB (block l) = some l := by
  have hF := (right_iff l).1 hr
  have hall := ((rising_iff l).1 hF.1).1
  have h5 := five_le l l.length
  rw [F_size] at h5
  have hb : block l = UInt8.ofNat l.length :: (l.flatMap L.ent ++ List.replicate (256 - (put l).length) 0) := rfl
  have hn : bt (block l) 0 = l.length := by
    rw [hb, bt_zero, UInt8.toNat_ofNat']; omega
  have ht : (block l).tail = l.flatMap L.ent ++ List.replicate (256 - (put l).length) 0 := rfl
  have hs := stp_ents l hall (List.replicate (256 - (put l).length) 0) l.length (Nat.le_refl _)
  have hok : okPut l = true := by
    have : l.isEmpty = false := by cases l with
      | nil => simp at h0
      | cons e l => rfl
    rw [okPut, this, hr]; rfl
  rw [ofB, hn, ht, hs, List.take_of_length_le (Nat.le_refl _)]
  show (if okPut l && (block l == block l) then some l else none) = some l
  rw [hok, beq_self_eq_true]; rfl
end Go.Proofs.Ytcjabfdjngekfaa.Leaf
