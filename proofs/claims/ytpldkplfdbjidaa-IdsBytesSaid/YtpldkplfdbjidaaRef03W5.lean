/- The reference of ids, walked: Put. -/
import Derived.Test.YtpldkplfdbjidaaRef03W4
import Derived.Test.YtpldkplfdbjidaaRef01W
set_option linter.unusedVariables false
set_option linter.unusedSimpArgs false
namespace Go.Proofs.Ytpldkplfdbjidaa.Ids
open Go.RowKit Go.Proofs.Ytpldkplfdbjidaa.Wd Go.Proofs.Ytpldkplfdbjidaa.Use Go.Proofs.Ytpldkplfdbjidaa.Lay

theorem take_succ_b (l : List UInt8) (k : Nat) (h : k < l.length) : l.take (k + 1) = l.take k ++ [l.getD k 0] := by
  rw [List.take_succ_eq_append_getElem h, List.getD_eq_getElem?_getD, List.getElem?_eq_getElem h]; rfl
set_option maxRecDepth 100000 in
set_option maxHeartbeats 8000000 in
theorem rPut_any (l : List Id) (h32 : W32 l) (hn : l.length ≤ 100000) (v : Value) (w : World) (hv : Rd w 32 v l.length (ix l)) :
    Calls Try.prog 29 #[v] w fun e w' => e = .returned (.string (str (put l))) ∧ Below w.heap.size w w' := by
  obtain ⟨A, c, rfl, hc1, hc2, -⟩ := hv.slice_
  unfold maxLen at hc2
  have Hv := Lib.hid hv
  have H32 := Lib.hid h32
  obtain ⟨n, hn'⟩ : ∃ n, n = l.length := ⟨_, rfl⟩
  have hput : put l = putN n ++ l.flatten := by rw [put, ← hn']
  rw [hput]
  rw [← hn'] at Hv hc1 hn ⊢
  have Hn := Lib.hid hn'
  have hpn := Ref01.PutNumber_any [] n w (by omega) (by simp)
  rw [List.nil_append] at hpn
  have hw : IntKind.u64.wrap (n : Int) = (n : Int) := by rw [IntKind.wrap_u64]; omega
  have Hpn := Lib.hid hpn
  have hfl := h32.flat
  have hp9 : (putN n).length ≤ 9 := by rw [putN_length]; have := blen_le (v := n) (by omega); omega
  have HL := Lib.hid (show ∀ k, ((l.take k).flatten).length ≤ 3200000 from fun k => by
    have := (h32.take k).flat; rw [List.length_take] at this; omega)
  obtain ⟨P, hP⟩ : ∃ P, P = putN n := ⟨_, rfl⟩
  rw [← hP] at Hpn hp9 ⊢
  have ks := fun (y : Int) (W : World) => conv_lit1 (P := Try.prog) (dst := 9) Try.underlying39 Try.underlying5 Try.underlying9 y W
  clear hv h32 hn' hput hpn hfl hP
  go_enter Try.func29, Try.ntmps29
  go_wp2_with (go_at_call 86; refine Hpn.out.mono ?_; rintro e w1 ⟨rfl, hb1⟩)
  go_loopw [3, 4] (fun s_ i_ wr => ∃ k : Nat, k ≤ n ∧ i_ = .int .i64 (k : Int) ∧ s_ = .string (str (P ++ (l.take k).flatten)) ∧ Below w.heap.size w wr) (fun _ i_ _ => n - (intOf i_).toNat)
  case atStart => exact ⟨0, Nat.zero_le _, rfl, by simp, hb1⟩
  case round =>
    obtain ⟨k, hk, rfl, rfl, hB⟩ := hrel
    by_cases hkn : k < n
    rotate_left
    · obtain rfl : k = n := by omega
      have hd1 : decide ((k : Int) < (k : Int)) = false := decide_eq_false (by omega)
      rw [show l.take k = l from List.take_of_length_le (by rw [← Hn.out]; exact Nat.le_refl _)]
      go_wp2_with fail
      go_ret
      exact ⟨rfl, hB⟩
    have hd1 : decide ((k : Int) < (n : Int)) = true := decide_eq_true (by omega)
    have i0 : (0 : Int) ≤ (k : Int) := by omega
    have i1 : (k : Int) < (n : Int) := by omega
    obtain ⟨b, off, rfl, hr⟩ := ix_at (Hv.out.below hB) H32.out Hn.out (by omega)
    have hr1 := hr k hkn
    have hyl := H32.out.get k (by have := Hn.out; omega)
    have hst : (l.take (k + 1)).flatten = (l.take k).flatten ++ l.getD k [] := by
      have hk' : k < l.length := by have := Hn.out; omega
      rw [List.take_succ_eq_append_getElem hk', List.flatten_append, List.flatten_cons, List.flatten_nil, List.append_nil, List.getD_eq_getElem?_getD, List.getElem?_eq_getElem hk']; rfl
    have hfl := HL.out k
    have Hst := Lib.hid hst
    generalize l.getD k [] = y at hr1 hyl Hst
    generalize (l.take k).flatten = F at hfl Hst ⊢
    have Hc := Lib.hid (show ∀ W, Below wr.heap.size wr W → ∀ j, j < 32 → W.cell? ⟨b, off + k * 32 + j, none⟩ = some (.int .u8 ((y.getD j 0).toNat : Int)) from fun W h j hj => cell_below h (hr1 j _ (bs_at y j (by omega))))
    have Hyl := Lib.hid hyl
    clear hr hr1 hst hyl
    go_wp2_with fail
    go_loopw [3, 5] (fun s_ j_ wq => ∃ j : Nat, j ≤ 32 ∧ j_ = .int .i64 (j : Int) ∧ s_ = .string (str (P ++ F ++ y.take j)) ∧ Below wr.heap.size wr wq) (fun _ j_ _ => 32 - (intOf j_).toNat)
    case atStart => exact ⟨0, by omega, rfl, by simp, Below.refl _ _⟩
    case round =>
      obtain ⟨j, hj, rfl, rfl, hBq⟩ := hrel
      by_cases hj32 : j < 32
      rotate_left
      · obtain rfl : j = 32 := by omega
        have Hy := Lib.hid (show y.take 32 = y from List.take_of_length_le (by rw [Hyl.out]; exact Nat.le_refl _))
        go_wp2_with fail
        exact ⟨⟨k + 1, by omega, by go_num, by rw [Hst.out, Hy.out, List.append_assoc], below_go hBq hB⟩, by simp only [intOf]; omega⟩
      have hd2 : decide ((j : Int) < 32) = true := decide_eq_true (by omega)
      have j0 : (0 : Int) ≤ (j : Int) := by omega
      have j1 : (j : Int) < 32 := by omega
      have hcj := Hc.out wr hBq j hj32
      have Hys := Lib.hid (take_succ_b y j (by rw [Hyl.out]; exact hj32))
      have hyt : (y.take j).length ≤ 32 := by rw [List.length_take]; omega
      generalize y.getD j 0 = z at hcj Hys
      generalize y.take j = T at Hys hyt ⊢
      go_wp2_with fail
      exact ⟨⟨j + 1, by omega, by go_num, by rw [Hys.out, str_append]; congr 2; simp, hBq.alloc hBq.size _⟩, by simp only [intOf]; omega⟩
end Go.Proofs.Ytpldkplfdbjidaa.Ids
