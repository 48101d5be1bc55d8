/- A volume's bytes are laid. -/
import Derived.Test.YtcjabfdjngekfaaVolW
import Derived.Test.YtcjabfdjngekfaaShaParts
import Derived.ArgAppend
set_option linter.unusedVariables false
set_option linter.unusedSimpArgs false
namespace Go.Proofs.Ytcjabfdjngekfaa.Vol
open Go.RowKit Go.Proofs.Ytcjabfdjngekfaa.Wd

section
variable {P : Program} {ops : Array Oper} {rest : List Oper} {o : Oper} {a : Act} {Q : Exit → Act → World → Prop}
/-- append onto a full row that is only read: a new row is made -/
theorem app_grow {W : World} {t e : TypeId} {z : Value} {size bytes : Nat} (E : El P t e z size bytes) (hgd : o.guard = none) (s x : Operand)
    (ho : o.op = .call { callee := .builtin .append, args := #[s, x], argTypes := #[t, t] })
    (b off n cap m : Nat) (y : Value) (xs ys : List Value) (hs : a.eval s = .slice (some ⟨b, off, none⟩) n cap) (hx : a.eval x = y) (HS : Rd W size (.slice (some ⟨b, off, none⟩) n cap) n xs) (hn : 0 < n) (HR : Rd W size y m ys) (hm : 0 < m)
    (hgr : cap < n + m) (hl : (n + m) * bytes ≤ 140737488355328)
    (h : ∀ v1 w1, w1.ownsRow W.heap.size e size v1 (n + m) (xs ++ ys) → W.grownBy w1 none → wpList P ops Q rest (a.put o.dst v1) w1) :
    wpList P ops Q (o :: rest) a W := by
  obtain ⟨ht, hinfo, hz, hs0, hb0⟩ := E
  obtain ⟨i0, hi, hzz⟩ := Option.map_eq_some_iff.1 hinfo
  simp only [Prod.mk.injEq] at hzz
  obtain ⟨hz0, hz1, hz2⟩ := hzz
  have hlen : n + m ≤ 140737488355328 := Nat.le_trans (Nat.le_mul_of_pos_right _ hb0) hl
  obtain ⟨A, c, rfl, hmc, hcm, hyl⟩ := HR.slice_
  obtain ⟨b2, off2, rfl, -, -, -, hc2⟩ := HR.at_ hm
  obtain ⟨b1, off1, hA, -, -, -, hc1⟩ := HS.at_ hn
  injection hA with hA
  injection hA with hA1 hA2
  subst hA1 hA2
  obtain ⟨v1, w1, hr, h2, h3⟩ := run_append_arg_grows (P := P) W t o.type e i0 z size bytes ht hi hz0 hz1 hz2 hz hs0 ⟨b, off, none⟩ n cap xs HS.1 (fun j u hu => by
      have hj : j < xs.length := (List.getElem?_eq_some_iff.1 hu).1
      rw [add_plain, hc1 j hj, ← hu, List.getElem?_eq_getElem]) ⟨b2, off2, none⟩ m c ys hyl (fun j u hu => by
      have hj : j < ys.length := (List.getElem?_eq_some_iff.1 hu).1
      rw [add_plain, hc2 j hj, ← hu, List.getElem?_eq_getElem]) hgr (by simp only [maxLen]; omega) hl
  refine wpList_plain hgd fun K hK => ?_
  unfold Oper.wp execOp
  simp only [ho, resolve, invoke, builtin, Sem.run_bind, Sem.run_pure, Result.andThen_ok, List.map_toArray, List.map_cons, List.map_nil, hs, hx, hr]
  exact hK _ _ (h v1 w1 h2 h3)
end
theorem elU8 : El Try.prog 23 5 (.int .u8 0) 1 1 := ⟨Try.underlying23, by kernel_rfl, rfl, by decide, by decide⟩
/-- a row of bytes at the head of a block -/
theorem Rd.head {w : World} {g : Nat} {t : TypeId} {cs : List Value} (hg : w.heap[g]? = some (.cells cs.toArray t (0, 0))) (l : List UInt8) (hl : cs.take l.length = bs l) (hm : l.length ≤ maxLen) : Rd w 1 (.slice (some ⟨g, 0, none⟩) l.length l.length) l.length (bs l) := by
  refine ⟨by rw [bs_length, Nat.mul_one], _, _, rfl, Nat.le_refl _, hm, fun _ => ⟨g, 0, rfl, fun i hi => ?_⟩⟩
  rw [Nat.zero_add, blk_cell hg i]
  simp only [List.getElem?_toArray]
  rw [← hl, List.getElem?_take, if_pos (by omega)]
set_option maxRecDepth 100000 in
set_option maxHeartbeats 2000000 in
theorem put_no (v : V) (vp : Value) (w0 w : World) (hv : VIn w0 v vp) (hr : v.right = false) : Calls Try.prog 33 #[.agg (vcells v vp).toArray] w fun e w' => e = .returned (.tuple #[.slice none 0 0, .int .i64 2]) ∧ Below w.heap.size w w' := by
  obtain ⟨A, c, rfl, hp1, hp2, -⟩ := hv.pc.slice_
  obtain ⟨L, hL⟩ : ∃ L, L = vcells v (.slice A v.pc.length c) := ⟨_, rfl⟩
  have hri := fun W => right_any v (.slice A v.pc.length c) w0 W hv
  have hLl : L.length = 37 := by rw [hL, vcells_length _ _ hv.bd]
  have Hi : Hid ((Try.prog.info? 46).map (·.size) = some L.length) := by show _ = _; rw [hLl]; exact infoVol
  rw [← hL, hr] at hri
  rw [← hL]
  have Hri := Lib.hid hri
  have hrg : w.alloc (.cells L.toArray 46) |>.rangeAt w.heap.size 0 L := Sha.rangeAt_alloc w L _
  have Hrg := Lib.hid hrg
  clear hri hL hrg hLl hr hv
  go_enter Try.func33, Try.ntmps33
  go_wp2_with (first
    | (refine wpList_load_mid rfl _ _ rfl w.heap.size 0 rfl L _ Hrg.out Try.underlying46 rfl Hi.out ?_)
    | (go_at_call 32; refine (Hri.out _).mono ?_; rintro e w1 ⟨rfl, hb1⟩))
  go_ret2
  exact ⟨rfl, ((Below.refl _ _).alloc (Nat.le_refl _) _).trans (hb1.mono (by rw [alloc_size]; omega))⟩
/-- the row that is laid, and the volume's own block -/
structure PF (w W : World) (L : List Value) (v : Value) (l : List UInt8) : Prop where
  own : W.ownsRow (w.heap.size + 1) 5 1 v l.length (bs l)
  g : W.heap[w.heap.size]? = some (.cells L.toArray 46 (0, 0))
  b : Below w.heap.size w W
theorem PF.alloc {w W : World} {L : List Value} {v : Value} {l : List UInt8} (h : PF w W L v l) (o : Obj) : PF w (W.alloc o) L v l := ⟨Sha.own_alloc h.own o, blk_alloc h.g o, h.b.alloc h.b.size o⟩
theorem PF.step {w W W1 : World} {L : List Value} {v v1 : Value} {l l1 : List UInt8} (h : PF w W L v l) (ho : W1.ownsRow (w.heap.size + 1) 5 1 v1 l1.length (bs l1)) (hg : W.grownBy W1 v.ownBlock) : PF w W1 L v1 l1 :=
  ⟨ho, blk_grown h.g hg (fun e => by have := own_base h.own _ e.symm; omega), h.b.grown hg h.b.size (fun k hk => by have := own_base h.own _ hk; omega)⟩
theorem PF.other {w W W1 : World} {L : List Value} {v : Value} {l : List UInt8} {g : Nat} (h : PF w W L v l) (hg : W.grownBy W1 (some g)) (h1 : w.heap.size < g) (h2 : v.ownBlock ≠ some g) : PF w W1 L v l :=
  ⟨Sha.own_grown h.own hg (fun k hk e => h2 (by rw [e, hk])), blk_grown h.g hg (by intro e; injection e with e; omega), h.b.grown hg h.b.size (fun k hk => by injection hk with hk; omega)⟩
theorem PF.lt {w W : World} {L : List Value} {v : Value} {l : List UInt8} (h : PF w W L v l) : w.heap.size + 1 ≤ W.heap.size := blk_lt h.g
theorem PF.below {w W W1 : World} {L : List Value} {v : Value} {l : List UInt8} (h : PF w W L v l) (hb : Below W.heap.size W W1) : PF w W1 L v l := ⟨Sha.own_below h.own hb, blk_below h.g hb, h.b.trans (hb.mono h.b.size)⟩
theorem own_bs {W : World} {base n : Nat} {v : Value} {a b c : List UInt8} (h : W.ownsRow base 5 1 v n (bs a ++ bs b)) (hn : n = c.length) (hc : c = a ++ b) : W.ownsRow base 5 1 v c.length (bs c) := by
  rw [← hn, hc, bs_append]; exact h
theorem body_le (v : V) (hb : v.bd.length = 32) (hr : v.Ok) : v.body.length ≤ 43 + 65536 ∧ v.pc.length ≤ 65536 := by
  have h1 : (v.pc.length : Int) ≤ 65536 := by
    rw [hr.p]; unfold shardN
    rw [if_neg (by have := hr.l1; have := hr.d1; omega)]
    split
    · omega
    · have := Int.ediv_le_self v.dt (show 0 ≤ v.lg - 1 by have := hr.l1; omega); have := hr.l2; omega
  rw [V.body, List.length_append, v.head_length hb]; omega
set_option maxRecDepth 100000 in
set_option maxHeartbeats 4000000 in
theorem put_ok (v : V) (vp : Value) (w : World) (hv : VIn w v vp) (hr : v.right = true) : Calls Try.prog 33 #[.agg (vcells v vp).toArray] w fun e w' => ∃ v', e = .returned (.tuple #[v', .int .i64 0]) ∧ w'.ownsRow w.heap.size 5 1 v' v.put.length (bs v.put) ∧ Below w.heap.size w w' := by
  obtain ⟨A, c, rfl, hp1, hp2, -⟩ := hv.pc.slice_
  obtain ⟨L, hL⟩ : ∃ L, L = vcells v (.slice A v.pc.length c) := ⟨_, rfl⟩
  have hri := fun W => right_any v (.slice A v.pc.length c) w W hv
  have hok := v.ok.1 hr
  have hLl : L.length = 37 := by rw [hL, vcells_length _ _ hv.bd]
  have Hi : Hid ((Try.prog.info? 46).map (·.size) = some L.length) := by show _ = _; rw [hLl]; exact infoVol
  have hvc := fun (W : World) (g : Nat) (h : W.heap[g]? = some (Obj.cells L.toArray 46 (0, 0))) => vol_cells (v := v) (vp := .slice A v.pc.length c) hv.bd (by rw [← hL]; exact h)
  have hbdc : L.take v.bd.length = bs v.bd := by rw [hL, vcells, List.take_append_of_le_length (by rw [bs_length]; omega), List.take_of_length_le (by rw [bs_length]; omega)]
  rw [← hL, hr] at hri
  rw [← hL]
  have hble := body_le v hv.bd hok
  have Hri := Lib.hid hri
  have Hvc := Lib.hid hvc
  have Hbdc := Lib.hid hbdc
  have hrg : w.alloc (.cells L.toArray 46) |>.rangeAt w.heap.size 0 L := Sha.rangeAt_alloc w L _
  have Hrg := Lib.hid hrg
  have Hpc := Lib.hid hv.pc
  have Hbd := Lib.hid hv.bd
  obtain ⟨bd, ix, dt, mr, lg, pc⟩ := v
  obtain ⟨d1, d2, m1, m2, i1, i2, l1, l2, -⟩ := hok
  simp only at d1 d2 m1 m2 i1 i2 l1 l2 hp1
  have hbs3 : [Value.int .u8 ix, .int .u8 dt, .int .u8 mr] = bs [b8 ix, b8 dt, b8 mr] := by simp only [bs, List.map_cons, List.map_nil]; rw [b8_id ix i1 (by omega), b8_id dt (by omega) (by omega), b8_id mr m1 (by omega)]
  have Hbs3 := Lib.hid hbs3
  clear hbs3
  have kc := fun (w : World) (C : Array Value) (n c : Nat) => Lib.run_convert_bytes_const (P := Try.prog) w 23 5 C n c Try.underlying23 Try.underlying5
  clear hri hL hrg hLl hr hv hvc hbdc
  go_enter Try.func33, Try.ntmps33
  go_wp2_with (first
    | (refine wpList_load_mid rfl _ _ rfl w.heap.size 0 rfl L _ Hrg.out Try.underlying46 rfl Hi.out ?_)
    | (go_at_call 32; refine (Hri.out _).mono ?_; rintro e w1 ⟨rfl, hb1⟩; have g1 := Lib.hid (blk_below (heap_alloc_new w (.cells L.toArray 46)) hb1); have hB1 : Below w.heap.size w w1 := (((Below.refl _ _).alloc (Nat.le_refl _) _).trans (hb1.mono (by rw [alloc_size]; omega))); have hz1 : w.heap.size < w1.heap.size := blk_lt g1.out; have HS1 := Sha.Rd.marked w1 1 4 (bs magic) 5 (4, 5) rfl (by simp [maxLen]); have HR1 := Rd.head (blk_alloc g1.out (.cells (bs magic).toArray 5 (4, 5))) bd Hbdc.out (by rw [Hbd.out]; simp [maxLen]); rw [Hbd.out] at HR1; clear hb1)
    | (at_builtin; (refine app_grow elU8 rfl (.tmp 11) (.tmp 13) rfl w1.heap.size 0 4 4 32 _ (bs magic) (bs bd) rfl rfl HS1 (by omega) HR1 (by omega) (by omega) (by omega) ?_); intro v2 w2 ho2 hg2; have P2 : PF w w2 L v2 (magic ++ bd) := ⟨own_lower (own_bs (c := magic ++ bd) ho2 (by rw [List.length_append, Hbd.out]; rfl) rfl) (by rw [alloc_size]; omega), blk_grown (blk_alloc g1.out _) hg2 (by simp), (hB1.alloc hB1.size _).grown hg2 (by rw [alloc_size]; have := hB1.size; omega) (by simp)⟩; obtain ⟨c32, c33, c34, c35, c36⟩ := Hvc.out w2 w.heap.size P2.g; clear HS1 HR1 ho2 hg2 hB1 g1)
    | (at_builtin; (refine app_row elU8 rfl (.tmp 15) (.tmp 25) rfl (w.heap.size + 1) _ _ (magic ++ bd).length 3 (bs (magic ++ bd)) [.int .u8 ix, .int .u8 dt, .int .u8 mr] rfl rfl (by intro u hu; simp at hu; rcases hu with rfl | rfl | rfl <;> rfl) (P2.alloc _).own (Rd.lit w2 1 3 [.int .u8 ix, .int .u8 dt, .int .u8 mr] 5 rfl (by simp [maxLen])) (Below.refl _ _) (P2.alloc _).lt (by rw [List.length_append, Hbd.out]; simp [magic]) ?_); intro v3 w3 ho3 hB3 hg3 hat3; rw [Hbs3.out] at ho3; have P3 : PF w w3 L v3 (magic ++ bd ++ [b8 ix, b8 dt, b8 mr]) := (P2.alloc _).step (own_bs ho3 (by simp only [List.length_append, List.length_cons, List.length_nil]) rfl) hg3; clear hB3 hg3 hat3 ho3 c32 c33 c34 c35 c36 P2))
  obtain ⟨x, hx⟩ : ∃ x : Nat, lg = (x : Int) := ⟨lg.toNat, by omega⟩
  subst hx
  go_loopw [4, 5] (fun v i wi => ∃ k : Nat, k ≤ 4 ∧ i = .int .i64 (3 - (k : Int)) ∧ PF w wi L v (magic ++ bd ++ [b8 ix, b8 dt, b8 mr] ++ (Lay.be 4 x).take k)) (fun _ i _ => (intOf i + 1).toNat)
  case atStart => exact ⟨0, Nat.zero_le _, rfl, by simpa using P3⟩
  case round =>
    clear P3
    obtain ⟨k, hk, rfl, hP⟩ := hrel
    have hl4 : (magic ++ bd ++ [b8 ix, b8 dt, b8 mr] ++ (Lay.be 4 x).take k).length + 1 ≤ 140737488355328 := by simp only [List.length_append, List.length_take, Hbd.out, Lay.be_length, magic, List.length_cons, List.length_nil]; omega
    obtain ⟨c32, c33, c34, c35, c36⟩ := Hvc.out wr w.heap.size hP.g
    by_cases hk4 : k < 4
    · go_wp2_with (at_builtin; go_must (refine app1b elU8 rfl (.tmp 31) (.tmp 38) rfl (w.heap.size + 1) _ _ _ rfl rfl (by omega) (by omega) hP.own (Below.refl _ wr) hP.lt hl4 ?_); intro v4 w4 ho4 hB4 hg4 hat4)
      have hbe : (Lay.be 4 x).take (k + 1) = (Lay.be 4 x).take k ++ [UInt8.ofNat (((x : Int) / 2 ^ (8 * (4 - 1 - k)) % 256).toNat)] := by rw [Lay.be_step 4 k x hk4, Lay.byte_shift]
      refine ⟨⟨k + 1, by omega, by congr 1; omega, hP.step ?_ hg4⟩, by simp only [intOf]; omega⟩
      rw [hbe, ← List.append_assoc]
      exact ho4
    · obtain rfl : k = 4 := by omega
      obtain ⟨hd, hhd⟩ : ∃ h, h = V.head ⟨bd, ix, dt, mr, (x : Int), pc⟩ := ⟨_, rfl⟩
      have hh : magic ++ bd ++ [b8 ix, b8 dt, b8 mr] ++ (Lay.be 4 x).take 4 = hd := by rw [hhd, List.take_of_length_le (by rw [Lay.be_length]; exact Nat.le_refl 4)]; rfl
      rw [hh] at hP hl4
      obtain ⟨bod, hbod⟩ : ∃ b, b = V.body ⟨bd, ix, dt, mr, (x : Int), pc⟩ := ⟨_, rfl⟩
      have hb2 : bod = hd ++ pc := by rw [hbod, hhd]; rfl
      have hbl : bod.length ≤ 43 + 65536 := by rw [hbod]; exact hble.1
      have Hhd := Lib.hid hhd
      have Hbod := Lib.hid hbod
      have Hb2 := Lib.hid hb2
      have hbl2 : hd.length + pc.length = bod.length := by rw [hb2, List.length_append]
      have hput : V.put ⟨bd, ix, dt, mr, (x : Int), pc⟩ = bod ++ Sha.sha bod := by rw [hbod]; rfl
      have Hput := Lib.hid hput
      have hsl := Sha.sha_length bod
      obtain ⟨sm, hsm⟩ : ∃ s, s = Sha.sha bod := ⟨_, rfl⟩
      rw [← hsm] at hsl
      have Hsm := Lib.hid hsm
      have Hsl := Lib.hid hsl
      have hcap : (bod ++ sm).length = bod.length + 32 := by rw [List.length_append, hsl]
      have Hcap := Lib.hid hcap
      have Hpc2 := Lib.hid (Hpc.out.below hP.b)
      clear hh hhd hbod hb2 hput hsm hsl hcap
      go_wp2_with (first
        | (at_builtin; (refine app_row elU8 rfl (.tmp 40) (.tmp 42) rfl (w.heap.size + 1) _ _ hd.length pc.length (bs hd) (bs pc) rfl rfl (bs_oneCell pc) hP.own Hpc2.out (Below.refl _ wr) hP.lt (by omega) ?_); intro v5 w5 ho5 hB5 hg5 hat5; have P5 : PF w w5 L v5 bod := hP.step (own_bs ho5 hbl2 Hb2.out) hg5; clear hB5 hg5 hat5 ho5)
        | (go_at_call 92; refine (Sha.of_any _ bod _ (Rd.of_own P5.own) (by omega)).mono ?_; rintro e w6 ⟨he, hb6⟩; rw [← Hsm.out] at he; subst he; have P6 := P5.below hb6; clear hb6)
        | (refine Sha.wpList_store_sum rfl _ _ rfl w6.heap.size sm (List.replicate 32 0) Hsl.out rfl rfl rfl (heap_alloc_new w6 _) ?_; intro w7 hw7 hg7; have P7 : PF w w7 L v5 bod := (P6.alloc _).other hg7 (by have := P6.lt; omega) (fun e => by have := (P6.own.lt _ e).2; omega); have hz7 := P6.lt; have HS7 := Rd.head hw7 sm (by rw [List.take_of_length_le (by rw [bs_length]; exact Nat.le_refl _)]) (by rw [Hsl.out]; simp [maxLen]); rw [Hsl.out] at HS7)
        | (at_builtin; (refine app_row elU8 rfl (.tmp 46) (.tmp 47) rfl (w.heap.size + 1) _ _ bod.length 32 (bs bod) (bs sm) rfl rfl (bs_oneCell sm) P7.own HS7 (Below.refl _ w7) P7.lt (by omega) ?_); intro v8 w8 ho8 hB8 hg8 hat8; have P8 : PF w w8 L v8 (bod ++ sm) := P7.step (own_bs ho8 Hcap.out.symm rfl) hg8))
      go_ret2
      refine ⟨v8, rfl, ?_, P8.b⟩
      rw [Hput.out, ← Hsm.out]
      exact own_lower P8.own (by omega)
end Go.Proofs.Ytcjabfdjngekfaa.Vol
