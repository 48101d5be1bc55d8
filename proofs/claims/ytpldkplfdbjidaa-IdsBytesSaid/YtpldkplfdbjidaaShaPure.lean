/- SHA-256 as the package does it: plain. Words are UInt32. -/
import Derived.Test.YtpldkplfdbjidaaWd
set_option linter.unusedVariables false
set_option linter.unusedSimpArgs false
namespace Go.Proofs.Ytpldkplfdbjidaa.Sha
open Go.Proofs.Ytpldkplfdbjidaa.Wd

def W (x : UInt32) : Value := .int .u32 (x.toNat : Int)
def ws (l : List UInt32) : List Value := l.map W
theorem ws_length (l : List UInt32) : (ws l).length = l.length := by simp [ws]
theorem ws_append (a b : List UInt32) : ws (a ++ b) = ws a ++ ws b := by simp [ws]

/-! the words' operations, under names of their own: simp has no rules for them -/
def wadd (x y : UInt32) : UInt32 := x + y
def wxor (x y : UInt32) : UInt32 := x ^^^ y
def wand (x y : UInt32) : UInt32 := x &&& y
def wor (x y : UInt32) : UInt32 := x ||| y
def wnot (x : UInt32) : UInt32 := ~~~x
def wshl (x : UInt32) (n : Nat) : UInt32 := x <<< UInt32.ofNat n
def wshr (x : UInt32) (n : Nat) : UInt32 := x >>> UInt32.ofNat n
def w8 (c : UInt8) : UInt32 := c.toUInt32
def rotr (x : UInt32) (n : Nat) : UInt32 := wor (wshl x (32 - n)) (wshr x n)
def s0 (x : UInt32) : UInt32 := wxor (wxor (rotr x 7) (rotr x 18)) (wshr x 3)
def s1 (y : UInt32) : UInt32 := wxor (wxor (rotr y 17) (rotr y 19)) (wshr y 10)
def be32 (a b c d : UInt8) : UInt32 := wor (wor (wor (wshl (w8 a) 24) (wshl (w8 b) 16)) (wshl (w8 c) 8)) (w8 d)
def gw (l : List UInt32) (i : Nat) : UInt32 := l.getD i 0
def gb (l : List UInt8) (i : Nat) : UInt8 := l.getD i 0
/-- word number t, of the words before it -/
def nextW (buf : List UInt8) (w : List UInt32) (t : Nat) : UInt32 :=
  if t < 16 then be32 (gb buf (4 * t)) (gb buf (4 * t + 1)) (gb buf (4 * t + 2)) (gb buf (4 * t + 3))
  else wadd (wadd (wadd (gw w (t - 16)) (s0 (gw w (t - 15)))) (gw w (t - 7))) (s1 (gw w (t - 2)))
def sched (buf : List UInt8) : Nat → List UInt32
  | 0 => []
  | t + 1 => sched buf t ++ [nextW buf (sched buf t) t]
theorem sched_length (buf : List UInt8) (t : Nat) : (sched buf t).length = t := by
  induction t with
  | zero => rfl
  | succ t ih => simp [sched, ih]

structure St where
  (a b c d e f g h : UInt32)
def St.list (s : St) : List UInt32 := [s.a, s.b, s.c, s.d, s.e, s.f, s.g, s.h]
def ch (e f g : UInt32) : UInt32 := wxor (wand e f) (wand (wnot e) g)
def maj (a b c : UInt32) : UInt32 := wxor (wxor (wand a b) (wand a c)) (wand b c)
def S1 (e : UInt32) : UInt32 := wxor (wxor (rotr e 6) (rotr e 11)) (rotr e 25)
def S0 (a : UInt32) : UInt32 := wxor (wxor (rotr a 2) (rotr a 13)) (rotr a 22)
def t1 (s : St) (k w : UInt32) : UInt32 := wadd (wadd (wadd (wadd s.h (S1 s.e)) (ch s.e s.f s.g)) k) w
def t2 (s : St) : UInt32 := wadd (S0 s.a) (maj s.a s.b s.c)
def St.round (s : St) (k w : UInt32) : St := ⟨wadd (t1 s k w) (t2 s), s.a, s.b, s.c, wadd s.d (t1 s k w), s.e, s.f, s.g⟩
def rounds (k w : List UInt32) (s : St) : Nat → St
  | 0 => s
  | t + 1 => (rounds k w s t).round (gw k t) (gw w t)
def St.add (s v : St) : St := ⟨wadd s.a v.a, wadd s.b v.b, wadd s.c v.c, wadd s.d v.d, wadd s.e v.e, wadd s.f v.f, wadd s.g v.g, wadd s.h v.h⟩
def mixSt (k : List UInt32) (s : St) (buf : List UInt8) : St := s.add (rounds k (sched buf 64) s 64)

/-- the first j words added -/
def wsum (s v : List UInt32) (j : Nat) : List UInt32 := (List.zipWith wadd s v).take j ++ s.drop j
theorem wsum_length (s v : List UInt32) (j : Nat) (h : s.length = v.length) (hj : j ≤ s.length) : (wsum s v j).length = s.length := by simp [wsum]; omega
theorem wsum_get (s v : List UInt32) (j : Nat) (h : s.length = v.length) (hj : j < s.length) : gw (wsum s v j) j = gw s j := by
  have h1 : ((List.zipWith wadd s v).take j).length = j := by simp; omega
  unfold gw wsum
  rw [List.getD_eq_getElem?_getD, List.getElem?_append_right (by omega), h1, Nat.sub_self, List.getElem?_drop, Nat.add_zero, List.getD_eq_getElem?_getD]
theorem wsum_set (s v : List UInt32) (j : Nat) (h : s.length = v.length) (hj : j < s.length) : (wsum s v j).set j (wadd (gw s j) (gw v j)) = wsum s v (j + 1) := by
  have h1 : ((List.zipWith wadd s v).take j).length = j := by simp; omega
  unfold wsum
  rw [List.set_append, if_neg (by omega), h1, Nat.sub_self, List.drop_eq_getElem_cons hj, List.set_cons_zero, List.take_add_one, List.append_assoc]
  congr 1
  rw [List.getElem?_zipWith, List.getElem?_eq_getElem hj, List.getElem?_eq_getElem (show j < v.length by omega)]
  simp [gw, hj, show j < v.length by omega]
theorem wsum_all (s v : St) : wsum s.list v.list 8 = (s.add v).list := rfl

def K0 : List UInt32 := [
  0x428a2f98, 0x71374491, 0xb5c0fbcf, 0xe9b5dba5, 0x3956c25b, 0x59f111f1, 0x923f82a4, 0xab1c5ed5,
  0xd807aa98, 0x12835b01, 0x243185be, 0x550c7dc3, 0x72be5d74, 0x80deb1fe, 0x9bdc06a7, 0xc19bf174,
  0xe49b69c1, 0xefbe4786, 0x0fc19dc6, 0x240ca1cc, 0x2de92c6f, 0x4a7484aa, 0x5cb0a9dc, 0x76f988da,
  0x983e5152, 0xa831c66d, 0xb00327c8, 0xbf597fc7, 0xc6e00bf3, 0xd5a79147, 0x06ca6351, 0x14292967,
  0x27b70a85, 0x2e1b2138, 0x4d2c6dfc, 0x53380d13, 0x650a7354, 0x766a0abb, 0x81c2c92e, 0x92722c85,
  0xa2bfe8a1, 0xa81a664b, 0xc24b8b70, 0xc76c51a3, 0xd192e819, 0xd6990624, 0xf40e3585, 0x106aa070,
  0x19a4c116, 0x1e376c08, 0x2748774c, 0x34b0bcb5, 0x391c0cb3, 0x4ed8aa4a, 0x5b9cca4f, 0x682e6ff3,
  0x748f82ee, 0x78a5636f, 0x84c87814, 0x8cc70208, 0x90befffa, 0xa4506ceb, 0xbef9a3f7, 0xc67178f2]
def F0 : St := ⟨0x6a09e667, 0xbb67ae85, 0x3c6ef372, 0xa54ff53a, 0x510e527f, 0x9b05688c, 0x1f83d9ab, 0x5be0cd19⟩

/-- a hash that has taken in n bytes -/
structure Hs where
  (st : St) (buf : List UInt8) (n : Nat)
def Hs.new : Hs := ⟨F0, List.replicate 64 0, 0⟩
def Hs.feed1 (h : Hs) (c : UInt8) : Hs :=
  let b := h.buf.set (h.n % 64) c
  ⟨if h.n % 64 + 1 = 64 then mixSt K0 h.st b else h.st, b, h.n + 1⟩
def Hs.feed (h : Hs) (l : List UInt8) : Hs := l.foldl Hs.feed1 h
theorem feed_append (h : Hs) (a b : List UInt8) : h.feed (a ++ b) = (h.feed a).feed b := by simp [Hs.feed]
theorem feed1_n (h : Hs) (c : UInt8) : (h.feed1 c).n = h.n + 1 := rfl
theorem feed1_buf (h : Hs) (c : UInt8) : (h.feed1 c).buf.length = h.buf.length := by simp [Hs.feed1]
theorem feed_n (h : Hs) (l : List UInt8) : (h.feed l).n = h.n + l.length := by
  induction l generalizing h with
  | nil => rfl
  | cons c l ih => show ((h.feed1 c).feed l).n = _; rw [ih, feed1_n, List.length_cons]; omega
theorem feed_buf (h : Hs) (l : List UInt8) : (h.feed l).buf.length = h.buf.length := by
  induction l generalizing h with
  | nil => rfl
  | cons c l ih => show ((h.feed1 c).feed l).buf.length = _; rw [ih, feed1_buf]

/-- bytes that do not run over the block's end: laid at once -/
def splb (b : List UInt8) (at_ : Nat) (l : List UInt8) : List UInt8 := b.take at_ ++ (l ++ b.drop (at_ + l.length))
theorem splb_length (b : List UInt8) (at_ : Nat) (l : List UInt8) (h : at_ + l.length ≤ b.length) : (splb b at_ l).length = b.length := by simp [splb]; omega
theorem splb_cons (b : List UInt8) (at_ : Nat) (c : UInt8) (l : List UInt8) (h : at_ + (l.length + 1) ≤ b.length) : splb (b.set at_ c) (at_ + 1) l = splb b at_ (c :: l) := by
  unfold splb
  have h1 : (b.set at_ c).take (at_ + 1) = b.take at_ ++ [c] := by
    rw [List.take_add_one, List.take_set_of_le (by omega), List.getElem?_set_self (by omega)]; rfl
  have h2 : (b.set at_ c).drop (at_ + 1 + l.length) = b.drop (at_ + (c :: l).length) := by
    rw [List.drop_set_of_lt (by omega), List.length_cons]; congr 1; omega
  rw [h1, h2]; simp
theorem feed_chunk (h : Hs) (l : List UInt8) (hb : h.buf.length = 64) (hne : l ≠ []) (hfit : h.n % 64 + l.length ≤ 64) :
    h.feed l = ⟨if h.n % 64 + l.length = 64 then mixSt K0 h.st (splb h.buf (h.n % 64) l) else h.st, splb h.buf (h.n % 64) l, h.n + l.length⟩ := by
  induction l generalizing h with
  | nil => exact absurd rfl hne
  | cons c l ih =>
    have hs : splb h.buf (h.n % 64) [c] = h.buf.set (h.n % 64) c := by
      rw [← splb_cons h.buf (h.n % 64) c [] (by simp at hfit ⊢; omega)]
      simp [splb]
    by_cases hl : l = []
    · subst hl
      show h.feed1 c = _
      rw [hs]; rfl
    · have hlp : 0 < l.length := List.length_pos_iff.2 hl
      simp only [List.length_cons] at hfit
      have h1 : h.feed1 c = ⟨h.st, h.buf.set (h.n % 64) c, h.n + 1⟩ := by
        unfold Hs.feed1; simp only; rw [if_neg (by omega)]
      have h2 : (h.n + 1) % 64 = h.n % 64 + 1 := by omega
      show (h.feed1 c).feed l = _
      rw [h1, ih _ (by simpa using hb) hl (by simp only; omega)]
      simp only [h2]
      rw [splb_cons h.buf (h.n % 64) c l (by omega), List.length_cons]
      have e1 : (h.n % 64 + 1 + l.length = 64) = (h.n % 64 + (l.length + 1) = 64) := by congr 1; omega
      have e2 : h.n + 1 + l.length = h.n + (l.length + 1) := by omega
      simp only [e1, e2]

/-- the bytes behind the text -/
def be64 (n : Nat) : List UInt8 := (List.range 8).map fun i => UInt8.ofNat (n / 2 ^ (8 * (7 - i)))
def padLen (n : Nat) : Nat := (119 - n % 64) % 64
def tailOf (n : Nat) : List UInt8 := 0x80 :: List.replicate (padLen n) 0 ++ be64 (n * 8 % 18446744073709551616)
def byteOf (s : St) (i : Nat) : UInt8 := UInt8.ofNat ((gw s.list (i / 4)).toNat / 2 ^ (8 * (3 - i % 4)))
def sumBytes (s : St) : List UInt8 := (List.range 32).map (byteOf s)
def Hs.sum (h : Hs) : List UInt8 := sumBytes (h.feed (tailOf h.n)).st
def sha (l : List UInt8) : List UInt8 := (Hs.new.feed l).sum

set_option maxRecDepth 100000 in
theorem sha_abc : sha [97, 98, 99] = [0xba, 0x78, 0x16, 0xbf, 0x8f, 0x01, 0xcf, 0xea, 0x41, 0x41, 0x40, 0xde, 0x5d, 0xae, 0x22, 0x23, 0xb0, 0x03, 0x61, 0xa3, 0x96, 0x17, 0x7a, 0x9c, 0xb4, 0x10, 0xff, 0x61, 0xf2, 0x00, 0x15, 0xad] := by
  decide +kernel
end Go.Proofs.Ytpldkplfdbjidaa.Sha
