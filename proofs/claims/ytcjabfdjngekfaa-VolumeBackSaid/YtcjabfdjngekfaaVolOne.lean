/- law21.one: a volume that is known. -/
import Derived.Test.YtcjabfdjngekfaaVolKinW
import Derived.Test.YtcjabfdjngekfaaVolRead
import Derived.Test.YtcjabfdjngekfaaRef21B
import Derived.Test.YtcjabfdjngekfaaOrdS
set_option linter.unusedVariables false
set_option linter.unusedSimpArgs false
namespace Go.Proofs.Ytcjabfdjngekfaa.Vol
open Go.RowKit Go.Proofs.Ytcjabfdjngekfaa.Wd

def V1 : V := ⟨zbd, 0, 1, 0, 0, [0]⟩
theorem V1_right : V1.right = true := rfl
theorem V1_bd : V1.bd.length = 32 := rfl
theorem V1_in {w : World} {vp : Value} (h : Rd w 1 vp 1 (bs [0])) : VIn w V1 vp := ⟨rfl, by show I64 0; unfold I64; omega, by show I64 1; unfold I64; omega, by show I64 0; unfold I64; omega, by show I64 0; unfold I64; omega, h⟩
theorem V1_len : V1.put.length = 76 := by rw [V1.put_length rfl]; rfl
theorem V1_magic : V1.put.take 4 = magic := by simp [V.put, V.body, V.head, magic]
theorem kin_self (v : V) : kin v v = true := by simp [kin]
theorem built_one (A : Option Addr) (n c : Nat) : Try.prog.built 46 [(2, .int .i64 1), (5, .slice A n c)] = some (vcells V1 (.slice A n c)).toArray := by kernel_rfl
set_option maxRecDepth 100000 in
set_option maxHeartbeats 1000000 in
theorem one21_any (w : World) : Calls Try.prog 31 #[] w fun e w' => e = .returned (.bool true) ∧ Below w.heap.size w w' := by
  have hrd := Rd.lit w 1 1 (bs [0]) 5 rfl (by simp [maxLen])
  obtain ⟨vp, hvp⟩ : ∃ v, v = Value.slice (some ⟨w.heap.size, 0, none⟩) 1 1 := ⟨_, rfl⟩
  obtain ⟨L, hL⟩ : ∃ L, L = vcells V1 vp := ⟨_, rfl⟩
  have hbl : Try.prog.built 46 [(2, .int .i64 1), (5, .slice (some ⟨w.heap.size, 0, none⟩) 1 1)] = some L.toArray := by rw [hL, hvp]; exact built_one _ _ _
  have hLl : L.length = 37 := by rw [hL]; exact vcells_length _ _ rfl
  have hL1 : ∀ u ∈ L, u.oneCell' = true := by rw [hL, hvp]; exact vcells_one _ _ rfl
  have hin : ∀ W, Below (w.alloc (.cells (bs [0]).toArray 5)).heap.size (w.alloc (.cells (bs [0]).toArray 5)) W → VIn W V1 vp := by intro W hW; rw [hvp]; exact V1_in (hrd.below hW)
  have Hi : Hid ((Try.prog.info? 46).map (·.size) = some L.length) := by show _ = _; rw [hLl]; exact infoVol
  have hput : ∀ W, VIn W V1 vp → Calls Try.prog 33 #[.agg L.toArray] W fun e w' => ∃ v', e = .returned (.tuple #[v', .int .i64 0]) ∧ w'.ownsRow W.heap.size 5 1 v' 76 (bs V1.put) ∧ Below W.heap.size W w' := by
    intro W h; rw [hL]; have := put_ok V1 vp W h rfl; rw [V1_len] at this; exact this
  have hread : ∀ W vb, Rd W 1 vb 76 (bs V1.put) → Calls Try.prog 34 #[vb] W fun e w' => ∃ vp2, e = .returned (.tuple #[.agg (vcells V1 vp2).toArray, .int .i64 0]) ∧ Rd w' 1 vp2 1 (bs [0]) ∧ Below W.heap.size W w' := by
    intro W vb h
    have := read_any vb V1.put W (by rw [V1_len]; exact h) (by rw [V1_len]; omega)
    rw [V.read_put V1 rfl rfl] at this
    exact this
  have hkin : ∀ W vp2, VIn W V1 vp2 → VIn W V1 vp → Calls Try.prog 30 #[.agg (vcells V1 vp2).toArray, .agg L.toArray] W fun e w' => e = .returned (.bool true) ∧ Below W.heap.size W w' := by
    intro W vp2 h1 h2; rw [hL, ← kin_self V1]; exact kin_any V1 V1 vp2 vp W h1 h2
  have hsh : ∀ W, Calls Try.prog 28 #[.int .i64 7, .int .i64 3] W fun e w' => e = .returned (.int .i64 3) ∧ w' = W := fun W => shard_any 7 3 (by unfold I64; omega) (by unfold I64; omega) W
  have hs4 : ∀ W A c, Rd W 1 (.slice A 76 c) 76 (bs V1.put) → (convert 23 9 (.slice A 4 c)).run Try.prog W = .ok (.string (str [83, 66, 86, 49])) W := by
    intro W A c h
    have h1 := Sha.Rd.take h 4 (by omega)
    rw [Nat.mul_one, show (bs V1.put).take 4 = bs magic by rw [← V1_magic]; simp [bs, List.map_take]] at h1
    exact conv_rd magic h1
  have Hbl := Lib.hid hbl
  have HL1 := Lib.hid hL1
  have HLl := Lib.hid hLl
  have Hin := Lib.hid hin
  have Hput := Lib.hid hput
  have Hread := Lib.hid hread
  have Hkin := Lib.hid hkin
  have Hs4 := Lib.hid hs4
  have Hsh := Lib.hid hsh
  clear hbl hL1 hLl hin hput hread hkin hs4 hrd hL hvp hsh
  go_enter Try.func31, Try.ntmps31
  go_wp2_with (first
    | (refine Sha.wpList_build_to rfl _ _ rfl L.toArray ?_ ?_; focus (simp only [List.map_toArray]; exact Hbl.out))
    | (refine Sha.wpList_store_all rfl 46 _ _ rfl (w.heap.size + 1) L zcells rfl rfl HL1.out (HLl.out.trans (vcells_length _ _ rfl).symm) Hi.out 46 (alloc_at w _ _) ?_; intro w3 hw3 hg3; have hv3 : VIn w3 V1 vp := Hin.out w3 (((Below.refl _ _).alloc (Nat.le_refl _) _).grown hg3 (by simp) (fun k hk => by injection hk with hk; rw [alloc_size]; omega)); have hB3 : Below w.heap.size w w3 := (below_two w _ _).grown hg3 (below_two w _ _).size (fun k hk => by injection hk with hk; omega); have Hr1 := Lib.hid (fun (W : World) (hW : Below w3.heap.size w3 W) => range_all (blk_below hw3.out hW)); clear hw3 hg3)
    | (refine wpList_load_mid rfl _ _ rfl (w.heap.size + 1) 0 rfl L _ (Hr1.out _ (by first | exact hb6 | exact Below.refl _ _)) Try.underlying46 rfl Hi.out ?_)
    | (go_at_call 33; refine (Hput.out _ hv3).mono ?_; rintro e w4 ⟨v4, rfl, ho4, hb4⟩; obtain ⟨A4, c4, rfl, hc4, hc5, -⟩ := (Rd.of_own ho4).slice_; unfold maxLen at hc5; have hr4 := Lib.hid (Rd.of_own ho4); clear ho4)
    | (go_at_call 34; refine (Hread.out _ _ hr4.out).mono ?_; rintro e w5 ⟨vp2, rfl, hr5, hb5⟩; obtain ⟨L2, hL2⟩ : ∃ L2, L2 = vcells V1 vp2 := ⟨_, rfl⟩; have HL2 := Lib.hid hL2; obtain ⟨A5, c5, hvp2, -, -, -⟩ := hr5.slice_; have HL21 : Hid (∀ u ∈ L2, u.oneCell' = true) := (by show _; rw [hL2, hvp2]; exact vcells_one _ _ rfl); have HL2l : Hid (L2.length = 37) := (by show _; rw [hL2]; exact vcells_length _ _ rfl); have Hi2 : Hid ((Try.prog.info? 46).map (·.size) = some L2.length) := (by show _ = _; rw [HL2l.out]; exact infoVol); have hb34 := below_go hb5 hb4; have hr5' := Lib.hid hr5; rw [← hL2]; clear hL2 hvp2 hr5)
    | (refine Sha.wpList_store_all rfl 46 _ _ rfl w5.heap.size L2 zcells rfl rfl HL21.out (HL2l.out.trans (vcells_length _ _ rfl).symm) Hi2.out 46 (heap_alloc_new w5 _) ?_; intro w6 hw6 hg6; have hb56 : Below w5.heap.size w5 w6 := ((Below.refl _ _).alloc (Nat.le_refl _) _).grown hg6 (by simp) (fun k hk => by injection hk with hk; omega); have hb6 := below_go hb56 hb34; have hr6 := hr4.out.below (below_go hb56 hb5); have ks := Hs4.out _ _ _ hr6; have Hr2 := Lib.hid (range_all hw6.out); have hv62 := V1_in (hr5'.out.below hb56); have hv61 := hv3.below hb6; clear hr6 hg6 hb56 hw6)
    | (refine Ord.wpList_load_g rfl _ _ rfl w5.heap.size 0 rfl L2 _ Hr2.out Try.underlying46 rfl Hi2.out ?_)
    | (refine Ord.wpList_load_g rfl _ _ rfl (w.heap.size + 1) 0 rfl L _ (Hr1.out _ hb6) Try.underlying46 rfl Hi.out ?_)
    | (go_at_call 30; rw [HL2.out]; refine (Hkin.out _ _ hv62 hv61).mono ?_; rintro e w7 ⟨rfl, hb7⟩; have hb8 := below_go hb7 hb6; clear ks)
    | (go_at_call 29; refine (size_any 1 (by omega) (by omega) _).mono ?_; rintro e w8 ⟨rfl, rfl⟩)
    | (go_at_call 28; refine (Hsh.out _).mono ?_; rintro e w8 ⟨rfl, rfl⟩))
  go_ret
  exact ⟨rfl, below_go hb8 hB3⟩
end Go.Proofs.Ytcjabfdjngekfaa.Vol
