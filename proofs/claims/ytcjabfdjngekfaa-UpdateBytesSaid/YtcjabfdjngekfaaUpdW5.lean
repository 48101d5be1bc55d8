/- Updates' walks: Id, law14.one. -/
import Derived.Test.YtcjabfdjngekfaaUpdW4
set_option linter.unusedVariables false
set_option linter.unusedSimpArgs false
namespace Go.Proofs.Ytcjabfdjngekfaa.Upd
open Go.RowKit Go.Proofs.Ytcjabfdjngekfaa.Wd Go.Proofs.Ytcjabfdjngekfaa.Use Go.Proofs.Ytcjabfdjngekfaa.Lay Go.Proofs.Ytcjabfdjngekfaa.Ids

def U.id (u : U) : List UInt8 := if u.right then Sha.sha u.put else List.replicate 32 0
theorem U.id_len (u : U) : u.id.length = 32 := by
  unfold U.id
  split
  · exact Sha.sha_length _
  · rfl
theorem U.pb_le (u : U) (pv : Value) {w : World} (hu : UIn w u pv) : u.pb.length ≤ 1000 := by
  unfold U.pb
  split
  · rename_i h
    obtain ⟨⟨a1, a2⟩, -, p8, -, ⟨k1, k2⟩, hky, hvl, -⟩ := right_spec.1 h
    have hl1 := Ids.putN_le u.au.toNat (by omega)
    have hl2 := Ids.putN_le u.ct hu.ct
    have hl3 := Ids.putN_le u.kd.toNat (by omega)
    have hl4 := putT_le u.ky hky
    have hl5 := putT_le u.vl hvl
    have hl6 := idsput_le hu.w32 p8
    simp only [U.put, List.length_append]
    omega
  · simp
set_option maxRecDepth 100000 in
set_option maxHeartbeats 8000000 in
theorem Id_any (u : U) (pv : Value) (w : World) (hu : UIn w u pv) : Calls Try.prog 65 #[.agg #[.int .i64 u.au, .int .u64 u.ct, pv, .int .i64 u.kd, .string (str u.ky), .string (str u.vl)]] w fun r w' => r = .returned (.agg (bs u.id).toArray) ∧ Below w.heap.size w w' := by
  have hpu := fun W (h : Below w.heap.size w W) => Put_any u pv W (hu.below h)
  have hle := U.pb_le u pv hu
  have hof := fun W v (h : Rd W 1 v u.pb.length (bs u.pb)) => Sha.of_any v u.pb W h (by omega)
  obtain ⟨A, c, rfl, -, -, -⟩ := hu.ps.slice_
  have hil := U.id_len u
  have hid : u.id = if u.pe = 0 then Sha.sha u.pb else List.replicate 32 0 := by
    unfold U.id U.pe U.pb
    cases u.right <;> simp
  generalize u.pe = e0 at hpu hid
  generalize u.pb = b0 at hpu hof hid
  generalize u.id = i0 at hid hil ⊢
  obtain ⟨au, ct, ps, kd, ky, vl⟩ := u
  simp only at hpu ⊢
  generalize ps.length = n at *
  have Hpu := Lib.hid hpu
  have Hof := Lib.hid hof
  obtain ⟨wb, hwb⟩ : ∃ wb, wb = (w.alloc (.cells #[.int .i64 au, .int .u64 (ct : Int), .slice A n c, .int .i64 kd, .string (str ky), .string (str vl)] 97)).alloc (.cells (bs (List.replicate 32 0)).toArray 44) := ⟨_, rfl⟩
  have hz : wb.heap[w.heap.size + 1]? = some (.cells (bs (List.replicate 32 0)).toArray 44 (0, 0)) := by rw [hwb]; exact alloc_at _ _ _
  have hbw : Below w.heap.size w wb := by rw [hwb]; exact below_two _ _ _
  have Hz := Lib.hid hz
  have Hwb := Lib.hid (show (w.alloc (.cells #[.int .i64 au, .int .u64 (ct : Int), .slice A n c, .int .i64 kd, .string (str ky), .string (str vl)] 97)).alloc (.cells #[.int .u8 0, .int .u8 0, .int .u8 0, .int .u8 0, .int .u8 0, .int .u8 0, .int .u8 0, .int .u8 0, .int .u8 0, .int .u8 0, .int .u8 0, .int .u8 0, .int .u8 0, .int .u8 0, .int .u8 0, .int .u8 0, .int .u8 0, .int .u8 0, .int .u8 0, .int .u8 0, .int .u8 0, .int .u8 0, .int .u8 0, .int .u8 0, .int .u8 0, .int .u8 0, .int .u8 0, .int .u8 0, .int .u8 0, .int .u8 0, .int .u8 0, .int .u8 0] 44) = wb by rw [hwb]; rfl)
  have Hbu := Lib.hid Sha.built_zsum
  have Hil := Lib.hid hil
  clear hpu hof hu hwb hz hil hle
  go_enter Try.func65, Try.ntmps65
  by_cases he : e0 = 0
  · have Hid0 := Lib.hid (show i0 = Sha.sha b0 by rw [hid, if_pos he])
    subst he
    clear hid
    go_wp2_with (first
      | (go_at_call 62; refine (Hpu.out _ (below_two _ _ _)).mono ?_; rintro r w2 ⟨vb, rfl, hr2, hb2⟩; rw [Hwb.out] at hb2; have Hr2 := Lib.hid hr2; have Hz2 := Lib.hid (blk_below Hz.out hb2); have hB2 := below_go hb2 hbw; clear hr2)
      | (go_at_call 92; refine (Hof.out _ _ Hr2.out).mono ?_; rintro r w3 ⟨rfl, hb3⟩; have Hz3 := Lib.hid (blk_below Hz2.out hb3); have hB3 := below_go hb3 hB2)
      | (refine Sha.wpList_store_sum rfl _ _ rfl (w.heap.size + 1) i0 (List.replicate 32 0) Hil.out rfl (by rw [Hid0.out]; rfl) rfl Hz3.out ?_; intro w4 hz4 hg4; have Hz4 := Lib.hid hz4; clear hz4))
    refine bodyPost_ret (v := .agg (bs i0).toArray) (Sha.results_cell_mid rfl _ _ (w.heap.size + 1) (bs i0) _ rfl (range_all Hz4.out) Try.underlying44 rfl (by rw [bs_length, Hil.out]; rfl)) rfl ⟨rfl, ?_⟩
    exact hB3.grown hg4 hB3.size (fun k hk => by injection hk with hk; omega)
  · have Hid0 := Lib.hid (show i0 = List.replicate 32 0 by rw [hid, if_neg he])
    have hne : ((e0 : Int) != 0) = true := by rw [bne_iff_ne]; omega
    clear hid he
    go_wp2_with (first
      | (go_at_call 62; refine (Hpu.out _ (below_two _ _ _)).mono ?_; rintro r w2 ⟨vb, rfl, hr2, hb2⟩; rw [Hwb.out] at hb2; have Hz2 := Lib.hid (blk_below Hz.out hb2); have hB2 := below_go hb2 hbw; clear hr2)
      | (refine Sha.wpList_build_to rfl _ _ rfl Sha.zsum.toArray ?_ ?_; focus (rw [List.map_toArray]; exact Hbu.out))
      | (refine Sha.wpList_store_sum rfl _ _ rfl (w.heap.size + 1) i0 (List.replicate 32 0) Hil.out rfl (by rw [Hid0.out]; rfl) rfl Hz2.out ?_; intro w4 hz4 hg4; have Hz4 := Lib.hid hz4; clear hz4))
    refine bodyPost_ret (v := .agg (bs i0).toArray) (Sha.results_cell_mid rfl _ _ (w.heap.size + 1) (bs i0) _ rfl (range_all Hz4.out) Try.underlying44 rfl (by rw [bs_length, Hil.out]; rfl)) rfl ⟨rfl, ?_⟩
    exact hB2.grown hg4 hB2.size (fun k hk => by injection hk with hk; omega)
def U1 : U := ⟨0, 1, [], 0, [97], []⟩
def s1 : List UInt8 := [0, 1, 1, 0, 1, 1, 97, 0, 0]
theorem u1_right : U1.right = true := by decide +kernel
theorem u1_put : U1.put = s1 := by decide +kernel
theorem u1_read : U.read s1 = U1 := by
  have h := good_put u1_right (by simp [U1]) W32.nil
  rw [u1_put] at h
  rw [U.read, h.1, ← h.2]; rfl
theorem u1_err : errR s1 = 0 := by
  have h := good_put u1_right (by simp [U1]) W32.nil
  rw [u1_put] at h
  rw [errR, h.1]; rfl
theorem u1_in (W : World) : UIn W U1 (.slice none 0 0) := ⟨Rd.nil _ _, W32.nil, by unfold I64 U1; simp, by unfold I64 U1; simp, by unfold U1; simp, by unfold U1; simp, by unfold U1; simp⟩
set_option maxRecDepth 100000 in
set_option maxHeartbeats 8000000 in
theorem one_any (w : World) : Calls Try.prog 66 #[] w fun e w' => e = .returned (.bool true) ∧ Below w.heap.size w w' := by
  have hput : ∀ W, Calls Try.prog 62 #[.agg #[.int .i64 0, .int .u64 1, .slice none 0 0, .int .i64 0, .string ⟨#[97]⟩, .string ⟨#[]⟩]] W fun r w' => ∃ b, r = .returned (.tuple #[b, .int .i64 0]) ∧ Rd w' 1 b 9 (bs s1) ∧ Below W.heap.size W w' := by
    intro W
    have h := Put_any U1 (.slice none 0 0) W (u1_in W)
    rw [show U1.pe = 0 by rw [U.pe, u1_right]; rfl, show U1.pb = s1 by rw [U.pb, u1_right, ← u1_put]; rfl] at h
    exact h
  have hread : ∀ W, Calls Try.prog 63 #[.string (str s1)] W fun e w' => ∃ pv, e = .returned (.tuple #[.agg #[.int .i64 0, .int .u64 1, pv, .int .i64 0, .string ⟨#[97]⟩, .string ⟨#[]⟩], .int .i64 0]) ∧ UIn w' U1 pv ∧ Below W.heap.size W w' := by
    intro W
    have h := Read_any s1 W (by decide)
    rw [u1_read, u1_err] at h
    exact h
  have hsame : ∀ W pv, UIn W U1 pv → Calls Try.prog 64 #[.agg #[.int .i64 0, .int .u64 1, pv, .int .i64 0, .string ⟨#[97]⟩, .string ⟨#[]⟩], .agg #[.int .i64 0, .int .u64 1, .slice none 0 0, .int .i64 0, .string ⟨#[97]⟩, .string ⟨#[]⟩]] W fun r w' => r = .returned (.bool true) ∧ Below W.heap.size W w' := by
    intro W pv h
    have h2 := Same_any U1 U1 pv (.slice none 0 0) W h (u1_in W)
    rw [U.same_refl] at h2
    exact h2
  have hq : (s1 == [0, 1, 1, 0, 1, 1, 97, 0, 0]) = true := by decide +kernel
  have Hput := Lib.hid hput
  have Hread := Lib.hid hread
  have Hsame := Lib.hid hsame
  have Hps := Lib.hid (fun W (h : UIn W U1 (.slice none 0 0)) => h)
  obtain ⟨ss, hss⟩ : ∃ l, l = s1 := ⟨_, rfl⟩
  rw [← hss] at Hput Hread hq
  clear hput hread hsame hss
  go_enter Try.func66, Try.ntmps66
  go_wp2_with (first
    | (go_at_call 62; refine (Hput.out _).mono ?_; rintro e w2 ⟨v2, rfl, hr2, hb2⟩; obtain ⟨A2, c2, rfl, -, -, -⟩ := hr2.slice_; have ks := conv_rd _ hr2; have Hr2 := Lib.hid hr2; have Hk2 := Lib.hid (blk_below (heap_alloc_new w (.cells #[.int .i64 0, .int .u64 1, .slice none 0 0, .int .i64 0, .string ⟨#[97]⟩, .string ⟨#[]⟩] 97)) hb2); have hB2 := below_go hb2 (below_one _ _); clear hr2 hb2)
    | (go_at_call 63; refine (Hread.out _).mono ?_; rintro e w3 ⟨pv, rfl, hu3, hb3⟩; obtain ⟨A3, c3, rfl, -, -, -⟩ := hu3.ps.slice_; have hb4 := below_go (below_one w3 (.cells #[.int .i64 0, .int .u64 1, .slice A3 U1.ps.length c3, .int .i64 0, .string ⟨#[97]⟩, .string ⟨#[]⟩] 97)) hb3; clear ks; have ks := conv_rd _ (Hr2.out.below hb4); obtain ⟨x0, x1, x2, x3, x4, x5⟩ := ucells (blk_below Hk2.out hb4); obtain ⟨y0, y1, y2, y3, y4, y5⟩ := ucells (heap_alloc_new w3 (.cells #[.int .i64 0, .int .u64 1, .slice A3 U1.ps.length c3, .int .i64 0, .string ⟨#[97]⟩, .string ⟨#[]⟩] 97)); have hB4 := below_go hb4 hB2; have Hu4 := Lib.hid (hu3.below (below_one w3 (.cells #[.int .i64 0, .int .u64 1, .slice A3 U1.ps.length c3, .int .i64 0, .string ⟨#[97]⟩, .string ⟨#[]⟩] 97))))
    | (go_at_call 64; refine (Hsame.out _ _ Hu4.out).mono ?_; rintro e w5 ⟨rfl, hb5⟩))
  go_ret
  exact ⟨rfl, below_go hb5 hB4⟩
end Go.Proofs.Ytcjabfdjngekfaa.Upd
