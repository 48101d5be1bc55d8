/- Volumes as bytes: the plain words of layer 21, no program in sight. -/
import Derived.Test.YtcjabfdjngekfaaShaPure
import Derived.Test.YtcjabfdjngekfaaLayPure
set_option linter.unusedVariables false
set_option linter.unusedSimpArgs false
namespace Go.Proofs.Ytcjabfdjngekfaa.Vol
open Go.Proofs.Ytcjabfdjngekfaa.Wd

structure V where
  (bd : List UInt8) (ix dt mr lg : Int) (pc : List UInt8)
def zbd : List UInt8 := List.replicate 32 0
def V.zero : V := ⟨zbd, 0, 0, 0, 0, []⟩
def shardN (lg dt : Int) : Int := if lg < 0 ∨ dt < 1 then 0 else if lg = 0 then 1 else (lg - 1) / dt + 1
def within (v a b : Int) : Bool := decide (a ≤ v) && decide (v ≤ b)
def V.right (v : V) : Bool := within v.dt 1 255 && within v.mr 0 (255 - v.dt) && within v.ix 0 (v.dt + v.mr - 1) && within v.lg 0 65536 && decide ((v.pc.length : Int) = shardN v.lg v.dt)
structure V.Ok (v : V) : Prop where
  (d1 : 1 ≤ v.dt) (d2 : v.dt ≤ 255) (m1 : 0 ≤ v.mr) (m2 : v.mr ≤ 255 - v.dt) (i1 : 0 ≤ v.ix) (i2 : v.ix ≤ v.dt + v.mr - 1) (l1 : 0 ≤ v.lg) (l2 : v.lg ≤ 65536) (p : (v.pc.length : Int) = shardN v.lg v.dt)
theorem V.ok (v : V) : v.right = true ↔ v.Ok := by
  unfold V.right within
  simp only [Bool.and_eq_true, decide_eq_true_eq]
  constructor
  · rintro ⟨⟨⟨⟨⟨a, b⟩, c, d⟩, e, f⟩, g, h⟩, i⟩; exact ⟨a, b, c, d, e, f, g, h, i⟩
  · rintro ⟨a, b, c, d, e, f, g, h, i⟩; exact ⟨⟨⟨⟨⟨a, b⟩, c, d⟩, e, f⟩, g, h⟩, i⟩
def magic : List UInt8 := [83, 66, 86, 49]
def b8 (n : Int) : UInt8 := UInt8.ofNat (n.toNat % 256)
def V.head (v : V) : List UInt8 := magic ++ v.bd ++ [b8 v.ix, b8 v.dt, b8 v.mr] ++ Lay.be 4 v.lg.toNat
def V.body (v : V) : List UInt8 := v.head ++ v.pc
def V.put (v : V) : List UInt8 := v.body ++ Sha.sha v.body
/-- the number of bytes -/
def unbe (l : List UInt8) : Nat := l.foldl (fun n c => n * 256 + c.toNat) 0
def V.parse (b : List UInt8) : V := ⟨(b.drop 4).take 32, ((b.getD 36 0).toNat : Int), ((b.getD 37 0).toNat : Int), ((b.getD 38 0).toNat : Int), (unbe ((b.drop 39).take 4) : Int), b.drop 43⟩
def V.read (b : List UInt8) : V × Nat :=
  if b.length < 75 then (V.zero, 10) else if b.take 4 ≠ magic then (V.zero, 11) else
  if Sha.sha (b.take (b.length - 32)) ≠ b.drop (b.length - 32) then (V.zero, 12) else
  if (V.parse (b.take (b.length - 32))).right then (V.parse (b.take (b.length - 32)), 0) else (V.zero, 11)
theorem unbe_snoc (l : List UInt8) (c : UInt8) : unbe (l ++ [c]) = unbe l * 256 + c.toNat := by simp [unbe]
theorem rev_ind {α : Type} {P : List α → Prop} (h0 : P []) (h1 : ∀ l a, P l → P (l ++ [a])) (l : List α) : P l := by
  have h : ∀ m : List α, P m.reverse := by
    intro m
    induction m with
    | nil => exact h0
    | cons a m ih => rw [List.reverse_cons]; exact h1 _ _ ih
  have := h l.reverse
  rwa [List.reverse_reverse] at this
theorem unbe_lt (l : List UInt8) : unbe l < 256 ^ l.length := by
  refine rev_ind (P := fun l => unbe l < 256 ^ l.length) ?_ ?_ l
  · simp [unbe]
  · intro l c ih
    rw [unbe_snoc, List.length_append, List.length_singleton, Nat.pow_succ]
    have := c.toNat_lt
    omega
theorem unbe_be (n v : Nat) : unbe (Lay.be n v) = v % 256 ^ n := by
  induction n generalizing v with
  | zero => simp [Lay.be, unbe, Nat.mod_one]
  | succ n ih =>
    have e : v % 256 ^ (n + 1) = v % 256 + 256 * (v / 256 % 256 ^ n) := by rw [Nat.pow_succ', Nat.mod_mul]
    rw [Lay.be, unbe_snoc, ih, UInt8.toNat_ofNat', e]
    omega
theorem be_unbe (l : List UInt8) : Lay.be l.length (unbe l) = l := by
  refine rev_ind (P := fun l => Lay.be l.length (unbe l) = l) ?_ ?_ l
  · rfl
  · intro l c ih
    have hc := c.toNat_lt
    rw [unbe_snoc, List.length_append, List.length_singleton, Lay.be, show (unbe l * 256 + c.toNat) / 256 = unbe l by omega, ih, show (unbe l * 256 + c.toNat) % 256 = c.toNat by omega]
    congr 2
    apply UInt8.toNat_inj.1
    rw [UInt8.toNat_ofNat']; omega
theorem V.head_length (v : V) (h : v.bd.length = 32) : v.head.length = 43 := by simp [V.head, magic, h, Lay.be_length]
theorem V.put_length (v : V) (h : v.bd.length = 32) : v.put.length = 75 + v.pc.length := by
  rw [V.put, V.body, List.length_append, List.length_append, V.head_length v h, show (Sha.sha (v.head ++ v.pc)).length = 32 by simp [Sha.sha, Sha.Hs.sum, Sha.sumBytes]]; omega
theorem b8_id (n : Int) (h0 : 0 ≤ n) (h : n < 256) : ((b8 n).toNat : Int) = n := by
  rw [b8, UInt8.toNat_ofNat']; omega
theorem sha_len (l : List UInt8) : (Sha.sha l).length = 32 := by simp [Sha.sha, Sha.Hs.sum, Sha.sumBytes]
theorem V.put_take (v : V) (h : v.bd.length = 32) : v.put.take (v.put.length - 32) = v.body ∧ v.put.drop (v.put.length - 32) = Sha.sha v.body := by
  have e : v.put.length - 32 = v.body.length := by rw [V.put, List.length_append, sha_len]; omega
  rw [e, V.put]
  exact ⟨List.take_left, List.drop_left⟩
theorem V.parse_body (v : V) (h : v.bd.length = 32) (hi : 0 ≤ v.ix ∧ v.ix < 256) (hd : 0 ≤ v.dt ∧ v.dt < 256) (hm : 0 ≤ v.mr ∧ v.mr < 256) (hl : 0 ≤ v.lg ∧ v.lg < 4294967296) : V.parse v.body = v := by
  obtain ⟨bd, ix, dt, mr, lg, pc⟩ := v
  simp only at h hi hd hm hl
  have hbe := Lay.be_length 4 lg.toNat
  have e1 : V.body ⟨bd, ix, dt, mr, lg, pc⟩ = magic ++ (bd ++ ([b8 ix, b8 dt, b8 mr] ++ (Lay.be 4 lg.toNat ++ pc))) := by simp [V.body, V.head]
  have d4 : (V.body ⟨bd, ix, dt, mr, lg, pc⟩).drop 4 = bd ++ ([b8 ix, b8 dt, b8 mr] ++ (Lay.be 4 lg.toNat ++ pc)) := by rw [e1]; exact List.drop_left (l₁ := magic)
  have d36 : (V.body ⟨bd, ix, dt, mr, lg, pc⟩).drop 36 = [b8 ix, b8 dt, b8 mr] ++ (Lay.be 4 lg.toNat ++ pc) := by
    rw [show 36 = 4 + 32 from rfl, ← List.drop_drop, d4, ← h]; exact List.drop_left
  have d39 : (V.body ⟨bd, ix, dt, mr, lg, pc⟩).drop 39 = Lay.be 4 lg.toNat ++ pc := by
    rw [show 39 = 36 + 3 from rfl, ← List.drop_drop, d36]; rfl
  have d43 : (V.body ⟨bd, ix, dt, mr, lg, pc⟩).drop 43 = pc := by
    rw [show 43 = 39 + 4 from rfl, ← List.drop_drop, d39, ← hbe]; exact List.drop_left
  have g : ∀ j, (V.body ⟨bd, ix, dt, mr, lg, pc⟩).getD (36 + j) 0 = ([b8 ix, b8 dt, b8 mr] ++ (Lay.be 4 lg.toNat ++ pc)).getD j 0 := by
    intro j
    rw [← d36, List.getD_eq_getElem?_getD, List.getD_eq_getElem?_getD, List.getElem?_drop]
  unfold V.parse
  rw [d39, d43, d4]
  have g0 := g 0
  have g1 := g 1
  have g2 := g 2
  simp only [Nat.add_zero] at g0
  rw [show 36 + 1 = 37 from rfl] at g1
  rw [show 36 + 2 = 38 from rfl] at g2
  rw [g0, g1, g2]
  have t1 : (bd ++ ([b8 ix, b8 dt, b8 mr] ++ (Lay.be 4 lg.toNat ++ pc))).take 32 = bd := by rw [← h]; exact List.take_left
  have t2 : (Lay.be 4 lg.toNat ++ pc).take 4 = Lay.be 4 lg.toNat := by rw [← hbe]; rw [hbe]; rw [List.take_append_of_le_length (by omega), List.take_of_length_le (by omega)]
  rw [t1, t2, unbe_be]
  have x0 : (([b8 ix, b8 dt, b8 mr] ++ (Lay.be 4 lg.toNat ++ pc)).getD 0 0) = b8 ix := rfl
  have x1 : (([b8 ix, b8 dt, b8 mr] ++ (Lay.be 4 lg.toNat ++ pc)).getD 1 0) = b8 dt := rfl
  have x2 : (([b8 ix, b8 dt, b8 mr] ++ (Lay.be 4 lg.toNat ++ pc)).getD 2 0) = b8 mr := rfl
  rw [x0, x1, x2, b8_id _ hi.1 hi.2, b8_id _ hd.1 hd.2, b8_id _ hm.1 hm.2, show 256 ^ 4 = 4294967296 from rfl, Nat.mod_eq_of_lt (by omega), Int.toNat_of_nonneg hl.1]
theorem V.read_put (v : V) (h : v.bd.length = 32) (hr : v.right = true) : V.read v.put = (v, 0) := by
  have ho := v.ok.1 hr
  obtain ⟨d1, d2, m1, m2, i1, i2, l1, l2, p⟩ := ho
  obtain ⟨e1, e2⟩ := v.put_take h
  have hm : v.put.take 4 = magic := by simp [V.put, V.body, V.head, magic]
  unfold V.read
  rw [if_neg (by rw [v.put_length h]; omega), if_neg (by rw [hm]; simp), e1, e2, if_neg (by simp), v.parse_body h ⟨i1, by omega⟩ ⟨by omega, by omega⟩ ⟨m1, by omega⟩ ⟨l1, by omega⟩, if_pos hr]
theorem V.body_parse (b : List UInt8) (hl : 43 ≤ b.length) (hm : b.take 4 = magic) : (V.parse b).body = b := by
  have s1 : b = b.take 4 ++ b.drop 4 := (List.take_append_drop 4 b).symm
  have s2 : b.drop 4 = (b.drop 4).take 32 ++ b.drop 36 := by
    conv => lhs; rw [← List.take_append_drop 32 (b.drop 4)]
    rw [List.drop_drop]
  have s3 : b.drop 36 = [b.getD 36 0, b.getD 37 0, b.getD 38 0] ++ b.drop 39 := by
    rw [List.drop_eq_getElem_cons (show 36 < b.length by omega), List.drop_eq_getElem_cons (show 36 + 1 < b.length by omega), List.drop_eq_getElem_cons (show 36 + 1 + 1 < b.length by omega)]
    simp [List.getD_eq_getElem?_getD, List.getElem?_eq_getElem (show 36 < b.length by omega), List.getElem?_eq_getElem (show 37 < b.length by omega), List.getElem?_eq_getElem (show 38 < b.length by omega)]
  have s4 : b.drop 39 = (b.drop 39).take 4 ++ b.drop 43 := by
    conv => lhs; rw [← List.take_append_drop 4 (b.drop 39)]
    rw [List.drop_drop]
  have hb4 : ((b.drop 39).take 4).length = 4 := by rw [List.length_take, List.length_drop]; omega
  have u1 : ∀ c : UInt8, b8 (c.toNat : Int) = c := by
    intro c
    apply UInt8.toNat_inj.1
    have := c.toNat_lt
    rw [b8, UInt8.toNat_ofNat']; omega
  have u2 : Lay.be 4 (unbe ((b.drop 39).take 4)) = (b.drop 39).take 4 := by
    have := be_unbe ((b.drop 39).take 4)
    rwa [hb4] at this
  have e : (V.parse b).body = magic ++ ((b.drop 4).take 32 ++ ([b.getD 36 0, b.getD 37 0, b.getD 38 0] ++ ((b.drop 39).take 4 ++ b.drop 43))) := by
    unfold V.body V.head V.parse
    simp only [u1, Int.toNat_natCast, u2]
    simp
  rw [e, ← s4, ← s3, ← s2, ← hm, ← s1]
theorem V.parse_bd (b : List UInt8) (hl : 43 ≤ b.length) : (V.parse b).bd.length = 32 := by
  simp only [V.parse, List.length_take, List.length_drop]; omega
theorem V.put_read (b : List UInt8) (v : V) (h : V.read b = (v, 0)) : v.right = true ∧ v.put = b ∧ v.bd.length = 32 := by
  unfold V.read at h
  by_cases h1 : b.length < 75
  · rw [if_pos h1] at h; simp at h
  · rw [if_neg h1] at h
    by_cases h2 : b.take 4 = magic
    · rw [if_neg (by simpa using h2)] at h
      by_cases h3 : Sha.sha (b.take (b.length - 32)) = b.drop (b.length - 32)
      · rw [if_neg (by simpa using h3)] at h
        by_cases h4 : (V.parse (b.take (b.length - 32))).right = true
        · rw [if_pos h4] at h
          simp only [Prod.mk.injEq, and_true] at h
          subst h
          have h43 : 43 ≤ (b.take (b.length - 32)).length := by rw [List.length_take]; omega
          have hm : (b.take (b.length - 32)).take 4 = magic := by rw [List.take_take, show min 4 (b.length - 32) = 4 by omega]; exact h2
          refine ⟨h4, ?_, V.parse_bd _ h43⟩
          rw [V.put, V.body_parse _ h43 hm, h3, List.take_append_drop]
        · rw [if_neg h4] at h; simp at h
      · rw [if_pos (by simpa using h3)] at h; simp at h
    · rw [if_pos (by simpa using h2)] at h; simp at h
end Go.Proofs.Ytcjabfdjngekfaa.Vol
