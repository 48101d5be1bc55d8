/- Updates' walks: Put. -/
import Derived.Test.YtcjabfdjngekfaaUpdW2
import Derived.Test.YtcjabfdjngekfaaIdsP
set_option linter.unusedVariables false
set_option linter.unusedSimpArgs false
namespace Go.Proofs.Ytcjabfdjngekfaa.Upd
open Go.RowKit Go.Proofs.Ytcjabfdjngekfaa.Wd Go.Proofs.Ytcjabfdjngekfaa.Use Go.Proofs.Ytcjabfdjngekfaa.Lay Go.Proofs.Ytcjabfdjngekfaa.Ids

def U.pb (u : U) : List UInt8 := if u.right then u.put else []
def U.pe (u : U) : Nat := if u.right then 0 else 2
theorem putNs (u : U) : ([u.au.toNat, u.ct, u.kd.toNat].flatMap putN ++ putTs [str u.ky, str u.vl]) ++ Ids.put u.ps = u.put := by
  simp [U.put, putTs, str_data]
theorem putT_le (s : List UInt8) (h : s.length ≤ 64) : (putT s).length ≤ 73 := by
  rw [putT, List.length_append]; have := Ids.putN_le s.length (by omega); omega
theorem idsput_le {l : List Ids.Id} (h : W32 l) (hl : l.length ≤ 8) : (Ids.put l).length ≤ 265 := by
  rw [Ids.put, List.length_append, h.flat]; have := Ids.putN_le l.length (by omega); omega
set_option maxRecDepth 100000 in
set_option maxHeartbeats 8000000 in
theorem Put_any (u : U) (pv : Value) (w : World) (hu : UIn w u pv) : Calls Try.prog 62 #[.agg #[.int .i64 u.au, .int .u64 u.ct, pv, .int .i64 u.kd, .string (str u.ky), .string (str u.vl)]] w fun r w' => ∃ b, r = .returned (.tuple #[b, .int .i64 (u.pe : Int)]) ∧ Rd w' 1 b u.pb.length (bs u.pb) ∧ Below w.heap.size w w' := by
  have hri := fun W (h : Below w.heap.size w W) => Right_any u pv W (hu.below h)
  obtain ⟨A, c, hpv, -, -, -⟩ := hu.ps.slice_
  cases hr : u.right with
  | false =>
    have Hb := Lib.hid (show u.pb = [] by rw [U.pb, hr]; rfl)
    have He := Lib.hid (show u.pe = 2 by rw [U.pe, hr]; rfl)
    rw [hr] at hri
    rw [He.out, Hb.out]
    rw [hpv] at hri ⊢
    obtain ⟨au, ct, ps, kd, ky, vl⟩ := u
    simp only at hri ⊢
    generalize ps.length = n at *
    have Hri := Lib.hid hri
    clear hri hu hr He Hb hpv
    go_enter Try.func62, Try.ntmps62
    go_wp2_with (go_at_call 61; refine (Hri.out _ (below_one _ _)).mono ?_; rintro e w5 ⟨rfl, hb5⟩)
    go_ret2
    exact ⟨_, rfl, Rd.nil _ _, below_go hb5 (below_one _ _)⟩
  | true =>
    have Hb := Lib.hid (show u.pb = u.put by rw [U.pb, hr]; rfl)
    have He := Lib.hid (show u.pe = 0 by rw [U.pe, hr]; rfl)
    obtain ⟨⟨a1, a2⟩, -, p8, -, ⟨k1, k2⟩, hky, hvl, -⟩ := right_spec.1 hr
    rw [hr] at hri
    rw [He.out]
    have hns := putNs u
    have hl1 := Ids.putN_le u.au.toNat (by omega)
    have hl2 := Ids.putN_le u.ct hu.ct
    have hl3 := Ids.putN_le u.kd.toNat (by omega)
    have hl4 := putT_le u.ky hky
    have hl5 := putT_le u.vl hvl
    have hl6 := idsput_le hu.w32 p8
    have hLn : ([u.au.toNat, u.ct, u.kd.toNat].flatMap putN).length ≤ 27 := by simp only [List.flatMap_cons, List.flatMap_nil, List.append_nil, List.length_append]; omega
    have hLt : ([u.au.toNat, u.ct, u.kd.toNat].flatMap putN ++ putTs [str u.ky, str u.vl]).length ≤ 173 := by
      rw [List.length_append]
      simp only [putTs, List.flatMap_cons, List.flatMap_nil, List.append_nil, List.length_append, str_data]
      omega
    have hw1 : IntKind.u64.wrap u.au = ((u.au.toNat : Nat) : Int) := by rw [IntKind.wrap_u64]; omega
    have hw2 : IntKind.u64.wrap u.kd = ((u.kd.toNat : Nat) : Int) := by rw [IntKind.wrap_u64]; omega
    have hP : ∀ W : World, Calls Try.prog 96 #[.slice none 0 0, .slice (some ⟨W.heap.size, 0, none⟩) 3 3] (W.alloc (.cells #[.int .u64 ((u.au.toNat : Nat) : Int), .int .u64 (u.ct : Int), .int .u64 ((u.kd.toNat : Nat) : Int)] 93)) fun e w' => ∃ v, e = .returned v ∧ w'.ownsRow (W.alloc (.cells #[.int .u64 ((u.au.toNat : Nat) : Int), .int .u64 (u.ct : Int), .int .u64 ((u.kd.toNat : Nat) : Int)] 93)).heap.size 5 1 v ([u.au.toNat, u.ct, u.kd.toNat].flatMap putN).length (bs ([u.au.toNat, u.ct, u.kd.toNat].flatMap putN)) ∧ Below (W.alloc (.cells #[.int .u64 ((u.au.toNat : Nat) : Int), .int .u64 (u.ct : Int), .int .u64 ((u.kd.toNat : Nat) : Int)] 93)).heap.size (W.alloc (.cells #[.int .u64 ((u.au.toNat : Nat) : Int), .int .u64 (u.ct : Int), .int .u64 ((u.kd.toNat : Nat) : Int)] 93)) w' := by
      intro W
      have h := PutNumber_any _ _ [] [u.au.toNat, u.ct, u.kd.toNat] _ (Rd.nil _ _) (Rd.lit W 1 3 [.int .u64 ((u.au.toNat : Nat) : Int), .int .u64 (u.ct : Int), .int .u64 ((u.kd.toNat : Nat) : Int)] 93 rfl (by simp [maxLen])) (by intro x hx; have := hu.ct; simp at hx; rcases hx with rfl | rfl | rfl <;> omega) (by rw [List.nil_append]; omega)
      rw [List.nil_append] at h
      exact h
    have hT : ∀ (W : World) (v : Value), Rd W 1 v ([u.au.toNat, u.ct, u.kd.toNat].flatMap putN).length (bs ([u.au.toNat, u.ct, u.kd.toNat].flatMap putN)) → Calls Try.prog 97 #[v, .slice (some ⟨W.heap.size, 0, none⟩) 2 2] (W.alloc (.cells #[.string (str u.ky), .string (str u.vl)] 9)) fun e w' => ∃ v, e = .returned v ∧ w'.ownsRow (W.alloc (.cells #[.string (str u.ky), .string (str u.vl)] 9)).heap.size 5 1 v ([u.au.toNat, u.ct, u.kd.toNat].flatMap putN ++ putTs [str u.ky, str u.vl]).length (bs ([u.au.toNat, u.ct, u.kd.toNat].flatMap putN ++ putTs [str u.ky, str u.vl])) ∧ Below (W.alloc (.cells #[.string (str u.ky), .string (str u.vl)] 9)).heap.size (W.alloc (.cells #[.string (str u.ky), .string (str u.vl)] 9)) w' := by
      intro W v hv
      exact PutText_any v _ _ [str u.ky, str u.vl] _ (hv.below (below_one _ _)) (Rd.lit W 1 2 [.string (str u.ky), .string (str u.vl)] 9 rfl (by simp [maxLen])) (by omega)
    have hI := fun W (h : Below w.heap.size w W) => Ids.Put_any pv u.ps hu.w32 (by omega) W (hu.ps.below h)
    rw [Hb.out, ← hns]
    rw [hpv] at hri hI ⊢
    obtain ⟨au, ct, ps, kd, ky, vl⟩ := u
    simp only at hri hP hT hI hw1 hw2 hLn hLt hl6 p8 ⊢
    generalize ps.length = n at *
    generalize [au.toNat, ct, kd.toNat].flatMap putN = L1 at hP hT hLn hLt ⊢
    generalize putTs [str ky, str vl] = L2 at hT hLt ⊢
    generalize Ids.put ps = L3 at hI hl6 ⊢
    generalize au.toNat = aun at *
    generalize kd.toNat = kdn at *
    have Hri := Lib.hid hri
    have HP := Lib.hid hP
    have HT := Lib.hid hT
    have HI := Lib.hid hI
    have HL := Lib.hid (show (L1 ++ L2).length + L3.length ≤ 1000 by omega)
    clear hri hu hr He Hb hpv hP hT hI hns hl1 hl2 hl3 hl4 hl5 hl6 hLn hLt a1 a2 k1 k2 hky hvl
    go_enter Try.func62, Try.ntmps62
    obtain ⟨wb, hwb⟩ : ∃ wb, wb = w.alloc (.cells #[.int .i64 au, .int .u64 (ct : Int), .slice A n c, .int .i64 kd, .string (str ky), .string (str vl)] 97) := ⟨_, rfl⟩
    have Hcel := Lib.hid (show ∀ W, Below wb.heap.size wb W → W.cell? ⟨w.heap.size, 0, none⟩ = some (.int .i64 au) ∧ W.cell? ⟨w.heap.size, 1, none⟩ = some (.int .u64 (ct : Int)) ∧ W.cell? ⟨w.heap.size, 2, none⟩ = some (.slice A n c) ∧ W.cell? ⟨w.heap.size, 3, none⟩ = some (.int .i64 kd) ∧ W.cell? ⟨w.heap.size, 4, none⟩ = some (.string (str ky)) ∧ W.cell? ⟨w.heap.size, 5, none⟩ = some (.string (str vl)) from by
      intro W h; rw [hwb] at h; exact ucells (blk_below (heap_alloc_new w _) h))
    have hbw : Below w.heap.size w wb := by rw [hwb]; exact below_one _ _
    have Hwb := Lib.hid hwb
    clear hwb
    go_upto_region 4 with (first
      | (go_at_call 61; refine (Hri.out _ (below_one _ _)).mono ?_; rintro e w5 ⟨rfl, hb5⟩; rw [← Hwb.out] at hb5; obtain ⟨x0, x1, x2, x3, x4, x5⟩ := Hcel.out _ hb5)
      | (go_at_call 96; refine (HP.out _).mono ?_; rintro e w6 ⟨v6, rfl, ho6, hb6⟩; have hb6' := below_go (below_go hb6 (below_one _ _)) hb5))
    have HT6 := Lib.hid (HT.out w6.drew v6 (Rd.of_own ho6))
    obtain ⟨A6, c6, rfl, -, -, -⟩ := (Rd.of_own ho6).slice_
    clear x0 x1 x2 x3 x4 x5 ho6 hb6 hb5 HP HT Hri
    obtain ⟨-, -, x2, -, x4, x5⟩ := Hcel.out _ hb6'
    (refine Ord.wp_region_ord [(false, 0), (false, 1), (false, 2), (false, 3), (false, 4), (false, 7), (false, 8), (true, 5), (true, 6), (true, 9), (true, 10), (false, 11), (false, 12)] (fun W => W.cell? ⟨w.heap.size, 2, none⟩ = some (.slice A n c) ∧ W.cell? ⟨w.heap.size, 4, none⟩ = some (.string (str ky)) ∧ W.cell? ⟨w.heap.size, 5, none⟩ = some (.string (str vl))) (by kernel_rfl) (by kernel_rfl) (by kernel_rfl) (by kernel_rfl) (by exact ⟨x2, x4, x5⟩) ?_; simp only [Ord.ordOps, List.filterMap_cons, List.filterMap_nil, List.getElem?_toArray, List.getElem?_cons_succ, List.getElem?_cons_zero, Option.map_some]; repeat (first | (refine Ord.wpOrd_skip ?_ ?_; (focus (go_simp; (try (intro h; cases h)); done)); simp only [Act.put, List.setIfInBounds_toArray, List.set_cons_zero, List.set_cons_succ]) | (refine Ord.wpOrd_take (v := ?_) ?_ ?_ ?_; rotate_left; (focus (go_simp; done)); (focus (intro w' hSw; (try dsimp only at hSw); go_simp; (try with_reducible rfl); done)); simp only [Act.put, List.setIfInBounds_toArray, List.set_cons_zero, List.set_cons_succ])))
    have hb7 : Below wb.heap.size wb (w6.drew.alloc (.cells #[.string (str ky), .string (str vl)] 9)) := below_go (below_one w6.drew _) hb6'.drew
    obtain ⟨-, -, y2, -, y4, y5⟩ := Hcel.out _ hb7
    (refine Ord.wpOrd_call ?_ (fun K hK => ?_); (focus (go_simp; done)); go_simp)
    (refine hK _ _ (by exact ⟨y2, y4, y5⟩) ?_; clear hK K; (try simp only [Act.put, List.setIfInBounds_toArray, List.set_cons_zero, List.set_cons_succ]); repeat (first | (refine Ord.wpOrd_skip ?_ ?_; (focus (go_simp; (try (intro h; cases h)); done)); simp only [Act.put, List.setIfInBounds_toArray, List.set_cons_zero, List.set_cons_succ]) | (refine Ord.wpOrd_take (v := ?_) ?_ ?_ ?_; rotate_left; (focus (go_simp; done)); (focus (intro w' hSw; (try dsimp only at hSw); go_simp; (try with_reducible rfl); done)); simp only [Act.put, List.setIfInBounds_toArray, List.set_cons_zero, List.set_cons_succ])))
    (refine Ord.wpOrd_call ?_ (fun K hK => ?_); (focus (go_simp; done)); go_simp)
    go_at_call 97
    refine HT6.out.mono ?_
    rintro e w8 ⟨v8, rfl, ho8, hb8⟩
    have hb8' := below_go hb8 hb7
    obtain ⟨-, -, z2, -, z4, z5⟩ := Hcel.out _ hb8'
    (refine hK _ _ (by exact ⟨z2, z4, z5⟩) ?_; clear hK K; (try simp only [Act.put, List.setIfInBounds_toArray, List.set_cons_zero, List.set_cons_succ]); repeat (first | (refine Ord.wpOrd_skip ?_ ?_; (focus (go_simp; (try (intro h; cases h)); done)); simp only [Act.put, List.setIfInBounds_toArray, List.set_cons_zero, List.set_cons_succ]) | (refine Ord.wpOrd_take (v := ?_) ?_ ?_ ?_; rotate_left; (focus (go_simp; done)); (focus (intro w' hSw; (try dsimp only at hSw); go_simp; (try with_reducible rfl); done)); simp only [Act.put, List.setIfInBounds_toArray, List.set_cons_zero, List.set_cons_succ])))
    have hI8 := HI.out w8 (below_go hb8' hbw)
    (refine Ord.wpOrd_call ?_ (fun K hK => ?_); (focus (go_simp; done)); go_simp)
    go_at_call 121
    refine hI8.mono ?_
    rintro e w9 ⟨v9, rfl, ho9, hb9⟩
    have hb9' := below_go hb9 hb8'
    obtain ⟨-, -, u2, -, u4, u5⟩ := Hcel.out _ hb9'
    (refine hK _ _ (by exact ⟨u2, u4, u5⟩) ?_; clear hK K; (try simp only [Act.put, List.setIfInBounds_toArray, List.set_cons_zero, List.set_cons_succ]); repeat (first | (refine Ord.wpOrd_skip ?_ ?_; (focus (go_simp; (try (intro h; cases h)); done)); simp only [Act.put, List.setIfInBounds_toArray, List.set_cons_zero, List.set_cons_succ]) | (refine Ord.wpOrd_take (v := ?_) ?_ ?_ ?_; rotate_left; (focus (go_simp; done)); (focus (intro w' hSw; (try dsimp only at hSw); go_simp; (try with_reducible rfl); done)); simp only [Act.put, List.setIfInBounds_toArray, List.set_cons_zero, List.set_cons_succ])))
    have ho8' := own_below (Ids.own_base_le ho8 (show wb.heap.size ≤ _ from hb7.size)) hb9
    refine Ord.wpOrd_app_row Use.elU8 ?_ (.tmp 24) (.tmp 27) rfl wb.heap.size v8 v9 (L1 ++ L2).length L3.length (bs (L1 ++ L2)) (bs L3) rfl rfl (bs_oneCell _) ho8' (Rd.of_own ho9) hb9'.size (by have := HL.out; omega) (fun v10 w10 ho10 hg10 hat10 => ?_)
    · go_simp
    have hb10 : Below wb.heap.size wb w10 := hb9'.grown hg10 hb9'.size (fun k hk => own_base ho8' k hk)
    have hB10 := below_go hb10 hbw
    obtain ⟨-, -, p2, -, p4, p5⟩ := Hcel.out _ hb10
    have hc10 : w10.cell? ⟨w.heap.size, 2, none⟩ = some (.slice A n c) ∧ w10.cell? ⟨w.heap.size, 4, none⟩ = some (.string (str ky)) ∧ w10.cell? ⟨w.heap.size, 5, none⟩ = some (.string (str vl)) := ⟨p2, p4, p5⟩
    refine ⟨hc10, ?_⟩
    have hr10 : Rd w10 1 v10 (L1 ++ L2 ++ L3).length (bs (L1 ++ L2 ++ L3)) := by have h := Rd.of_own ho10; rw [← bs_append, ← List.length_append] at h; exact h
    have Hr10 := Lib.hid hr10
    clear hr10 ho10 hg10 hat10 ho8' ho8 ho9
    ((try simp only [Act.put, List.setIfInBounds_toArray, List.set_cons_zero, List.set_cons_succ]); repeat (first | (refine Ord.wpOrd_skip ?_ ?_; (focus (go_simp; (try (intro h; cases h)); done)); simp only [Act.put, List.setIfInBounds_toArray, List.set_cons_zero, List.set_cons_succ]) | (refine Ord.wpOrd_take (v := ?_) ?_ ?_ ?_; rotate_left; (focus (go_simp; done)); (focus (intro w' hSw; (try dsimp only at hSw); go_simp; (try with_reducible rfl); done)); simp only [Act.put, List.setIfInBounds_toArray, List.set_cons_zero, List.set_cons_succ])))
    refine Ord.wpOrd_nil ?_
    go_wp2_with fail
    go_ret2
    exact ⟨_, rfl, Hr10.out, hB10⟩
end Go.Proofs.Ytcjabfdjngekfaa.Upd
