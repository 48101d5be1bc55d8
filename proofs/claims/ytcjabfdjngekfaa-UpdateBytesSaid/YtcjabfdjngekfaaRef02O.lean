/- The sum by definition. -/
import Derived.Test.YtcjabfdjngekfaaRef02B
import Derived.StillTailTactics
set_option linter.unusedVariables false
set_option linter.unusedSimpArgs false
namespace Go.Proofs.Ytcjabfdjngekfaa.Sha
open Go.RowKit Go.Proofs.Ytcjabfdjngekfaa.Wd

/-- the state behind n blocks -/
def blocks (l : List UInt8) (s : St) : Nat → St
  | 0 => s
  | n + 1 => mixSt K0 (blocks l s n) ((l.drop (64 * n)).take 64)
/-- whole blocks fed -/
theorem feed_block (h : Hs) (l : List UInt8) (hb : h.buf.length = 64) (hn : h.n % 64 = 0) (hl : l.length = 64) : h.feed l = ⟨mixSt K0 h.st l, l, h.n + 64⟩ := by
  have e := feed_chunk h l hb (by intro e; rw [e] at hl; simp at hl) (by omega)
  rw [e, hn, hl]
  have hs : splb h.buf 0 l = l := by unfold splb; simp [List.drop_of_length_le, hb, hl]
  rw [hs]; simp
theorem feed_blocks (s : St) (b0 : List UInt8) (hb0 : b0.length = 64) (l : List UInt8) (n : Nat) (hl : 64 * n ≤ l.length) :
    ∃ b, b.length = 64 ∧ (Hs.mk s b0 0).feed (l.take (64 * n)) = ⟨blocks l s n, b, 64 * n⟩ := by
  induction n with
  | zero => exact ⟨b0, hb0, rfl⟩
  | succ n ih =>
    obtain ⟨b, hb, e⟩ := ih (by omega)
    have e1 : l.take (64 * (n + 1)) = l.take (64 * n) ++ (l.drop (64 * n)).take 64 := by rw [Nat.mul_add, Nat.mul_one]; exact List.take_add
    have h64 : ((l.drop (64 * n)).take 64).length = 64 := by rw [List.length_take, List.length_drop]; omega
    refine ⟨_, h64, ?_⟩
    rw [e1, feed_append, e, feed_block _ _ hb (by simp only; omega) h64]
    simp only [blocks]
    congr 1
/-- the text with its tail, as the reference lays it -/
def padded (l : List UInt8) : List UInt8 := l ++ tailOf l.length
theorem padded_len (l : List UInt8) : (padded l).length % 64 = 0 := by
  rw [padded, List.length_append, tailOf_eq, List.length_append, pad_length, be64_length]
  unfold padLen; omega
theorem sha_blocks (l : List UInt8) : sha l = sumBytes (blocks (padded l) F0 ((padded l).length / 64)) := by
  have hm := padded_len l
  obtain ⟨b, hb, e⟩ := feed_blocks F0 (List.replicate 64 0) rfl (padded l) ((padded l).length / 64) (by omega)
  rw [List.take_of_length_le (by omega)] at e
  have e2 : Hs.new.feed (padded l) = ⟨blocks (padded l) F0 ((padded l).length / 64), b, 64 * ((padded l).length / 64)⟩ := e
  unfold sha Hs.sum
  rw [feed_n, show Hs.new.n = 0 from rfl, Nat.zero_add, ← feed_append, show l ++ tailOf l.length = padded l from rfl, e2]
theorem wpStill_load_mid {P : Program} {ops : Array Oper} {rest : List Oper} {o : Oper} {a : Act} {w : World} {Q : Act → Prop} (hgd : o.guard = none) (ty : TypeId) (x : Operand) (ho : o.op = .load ty x)
    (b off : Nat) (hx : a.eval x = .pointer (some ⟨b, off, none⟩)) (cs : List Value) (d : TypeDesc) (hc : w.rangeAt b off cs)
    (hu : P.underlying ty = some d) (hd : d.isRow = true) (hi : (P.info? ty).map (·.size) = some cs.length)
    (h : wpStill P ops w Q rest (a.put o.dst (.agg cs.toArray))) : wpStill P ops w Q (o :: rest) a := by
  unfold wpStill
  rw [if_pos (by simp [Region.wanted, hgd])]
  unfold Oper.still execOp
  simp only [ho, hx, Instr.loadAt, Instr.sureAddr, Sem.run_bind, Sem.run_pure, Result.andThen_ok, run_loadVar_mid w b off ty cs d hc hu hd hi]
  exact ⟨rfl, h⟩
theorem str_extract (l : List UInt8) (a b : Nat) : (str l).extract a b = str ((l.drop a).take (b - a)) := by
  apply ByteArray.ext
  simp [str, ByteArray.data_extract]
/-- the call's own blocks -/
structure OF (w W : World) (C : List Value) : Prop where
  c : W.heap[w.heap.size]? = some (.cells C.toArray 114 (0, 0))
  r : W.heap[w.heap.size + 1]? = some (.cells (bpart [] 32).toArray 43 (0, 0))
  b : Below w.heap.size w W
theorem OF.alloc {w W : World} {C : List Value} (h : OF w W C) (o : Obj) : OF w (W.alloc o) C := ⟨blk_alloc h.c _, blk_alloc h.r _, h.b.alloc h.b.size _⟩
theorem OF.grown {w W W1 : World} {C : List Value} {g : Nat} (h : OF w W C) (hg : W.grownBy W1 (some g)) (hn : w.heap.size + 2 ≤ g) : OF w W1 C :=
  ⟨blk_grown h.c hg (by intro e; injection e with e; omega), blk_grown h.r hg (by intro e; injection e with e; omega), h.b.grown hg h.b.size (fun k hk => by injection hk with hk; omega)⟩
theorem OF.below {w W W1 : World} {C : List Value} (h : OF w W C) (hb : Below W.heap.size W W1) : OF w W1 C := ⟨blk_below h.c hb, blk_below h.r hb, h.b.trans (hb.mono h.b.size)⟩
theorem OF.lt {w W : World} {C : List Value} (h : OF w W C) : w.heap.size + 2 ≤ W.heap.size := by have := blk_lt h.r; omega
theorem str_append1 (l : List UInt8) (x : UInt8) : str l ++ ⟨#[x]⟩ = str (l ++ [x]) := str_append l [x]
set_option maxRecDepth 100000 in
set_option maxHeartbeats 4000000 in
theorem cof_any (l : List UInt8) (hl : l.length ≤ 1000000) (w : World) :
    Calls Try.prog 131 #[.agg (ws (K0 ++ F0.list)).toArray, .string (str l)] w fun e w' => e = .returned (.agg (bs (sha l)).toArray) ∧ Below w.heap.size w w' := by
  obtain ⟨C, hC⟩ : ∃ C, C = ws (K0 ++ F0.list) := ⟨_, rfl⟩
  rw [← hC]
  have HC := Lib.hid hC
  clear hC
  go_enter Try.func131, Try.ntmps131
  go_wp2_with fail
  rw [str_append1]
  have hp64 := padLen_lt l.length
  have hO : OF w ((w.alloc (.cells C.toArray 114)).alloc (.cells (bpart [] 32).toArray 43)) C := by
    refine ⟨blk_alloc (heap_alloc_new _ _) _, ?_, ((Below.refl _ _).alloc (Nat.le_refl _) _).alloc (by rw [alloc_size]; omega) _⟩
    have := heap_alloc_new (w.alloc (.cells C.toArray 114)) (.cells (bpart [] 32).toArray 43)
    rw [alloc_size] at this; exact this
  change Code.wp _ _ _ _ ((w.alloc (.cells C.toArray 114)).alloc (.cells (bpart [] 32).toArray 43))
  generalize (w.alloc (.cells C.toArray 114)).alloc (.cells (bpart [] 32).toArray 43) = W0 at hO ⊢
  go_loop [1] (fun v => ∃ (j : Nat) (sb : ByteArray), j ≤ padLen l.length ∧ v = .string sb ∧ Hid (sb = str (l ++ pad j))) (fun v => l.length + 64 - (match v with | .string s => s.size | _ => 0))
  case atStart => exact ⟨0, _, Nat.zero_le _, rfl, rfl⟩
  case round =>
    obtain ⟨j, sb, hj, rfl, Hsb⟩ := hrel
    have he := padLen_end l.length j hj
    obtain ⟨q, hq⟩ : ∃ q, q = (l.length + (j + 1)) % 64 := ⟨_, rfl⟩
    have hsz : sb.size = l.length + (j + 1) := by rw [Hsb.out, str_size, List.length_append, pad_length]
    rw [← hq] at he
    obtain ⟨m, hm⟩ : ∃ m, m = sb.size := ⟨_, rfl⟩
    have hss := hm.symm
    have r3 : (m : Int) % 64 = (q : Int) := by omega
    have r4 : (m : Int).tmod 64 = (q : Int) := by rw [Int.tmod_eq_emod_of_nonneg (by omega)]; exact r3
    have r5 : m ≤ 1000064 := by omega
    have Hm := Lib.hid hm
    have Hq := Lib.hid hq
    have Hsz := Lib.hid hsz
    clear hm hq hsz
    by_cases hjp : j = padLen l.length
    · have hq56 := he.2 hjp
      subst hq56
      have Hjp := Lib.hid hjp
      have d0 : (((56 : Nat) : Int) == 56) = true := rfl
      have d1 : (((56 : Nat) : Int) != 56) = false := rfl
      obtain ⟨x, hx⟩ : ∃ x, x = l.length * 8 := ⟨_, rfl⟩
      have hx1 : (l.length : Int) * 8 = (x : Int) := by omega
      have Hx := Lib.hid hx
      clear hjp he hx
      go_wp2_with fail
      clear r3 r4 hss
      go_loopw [1, 6] (fun v i wi => ∃ (k : Nat) (sc : ByteArray), k ≤ 8 ∧ i = .int .i64 (7 - (k : Int)) ∧ v = .string sc ∧ Hid (sc = str (l ++ pad j ++ (be64 x).take k)) ∧ OF w wi C) (fun _ i _ => (intOf i + 1).toNat)
      case atStart => exact ⟨0, sb, Nat.zero_le _, rfl, rfl, by show _ = _; rw [Hsb.out]; simp, hO⟩
      case round =>
        obtain ⟨k, sc, hk, rfl, rfl, Hsc, hO1⟩ := hrel
        have hscs : sc.size = l.length + (j + 1) + k := by rw [Hsc.out, str_size, List.length_append, List.length_append, pad_length, List.length_take, be64_length]; omega
        have hsc2 : sc.size ≤ 1000200 := by omega
        have kc := fun (y : Int) (W : World) => conv_lit1 (P := Try.prog) Try.underlying23 Try.underlying5 Try.underlying9 y W
        by_cases hk8 : k < 8
        · clear hscs
          go_wp2_with fail
          refine ⟨⟨k + 1, _, by omega, by congr 1; omega, rfl, ?_, hO1.alloc _⟩, by simp only [intOf]; omega⟩
          show _ = _
          rw [Hsc.out, str_append, be64_step x k hk8]; simp
        · obtain rfl : k = 8 := by omega
          obtain ⟨p, hp⟩ : ∃ p, p = padded l := ⟨_, rfl⟩
          have hsp : sc = str p := by
            rw [Hsc.out, hp, padded, tailOf_eq, List.take_of_length_le (by rw [be64_length]; exact Nat.le_refl 8), Hjp.out, Hx.out, Nat.mod_eq_of_lt (by omega), List.append_assoc]
          have hpm : p.length % 64 = 0 := by rw [hp]; exact padded_len l
          have hps : sc.size = p.length := by rw [hsp, str_size]
          have hpl : p.length ≤ 1000200 := by omega
          obtain ⟨M, hM⟩ : ∃ M, M = p.length / 64 := ⟨_, rfl⟩
          have hpM : p.length = 64 * M := by omega
          rw [hpM] at hps
          have HF : Hid (wr.rangeAt w.heap.size 64 (ws F0.list)) := by
            intro j v hv
            rw [blk_cell hO1.c (64 + j), HC.out, ws_append]
            simp only [List.getElem?_toArray]
            rw [List.getElem?_append_right (by rw [ws_length]; show 64 ≤ _; omega), ws_length, show K0.length = 64 from rfl, Nat.add_sub_cancel_left]
            exact hv
          have HiF : Hid ((Try.prog.info? 112).map (·.size) = some (ws F0.list).length) := by show _ = _; rw [ws_length]; rfl
          have Hsp := Lib.hid hsp
          have Hp := Lib.hid hp
          have HpM := Lib.hid hpM
          have HM := Lib.hid hM
          have Hps := Lib.hid hps
          have hz := hO1.lt
          have e78 : (7 : Int) - ((8 : Nat) : Int) = -1 := rfl
          clear hsp hpm hps hp hpM hM hk8 hscs Hsc Hsb Hjp Hx kc
          simp only [e78]
          generalize hFL : ws F0.list = FL at HF HiF
          have hFo : ∀ v ∈ FL, v.oneCell' = true := by rw [← hFL]; exact ws_one _
          have HFL := Lib.hid hFL
          have HFl : Hid (FL.length = 8) := by show _ = _; rw [← hFL, ws_length]; rfl
          clear hFL
          obtain ⟨wo, rfl⟩ : ∃ wo : World, wo = wr := ⟨_, rfl⟩
          go_wp2_with (first
            | (refine wpList_load_mid rfl _ _ rfl w.heap.size 64 rfl FL _ HF.out Try.underlying112 rfl HiF.out ?_)
            | (refine wpList_store_all rfl 112 _ _ rfl wo.heap.size FL (part [] 8) rfl rfl hFo (by rw [HFl.out]; rfl) HiF.out 112 (heap_alloc_new _ _) ?_; intro wp hwp hgp))
          have hOp : OF w wp C := (hO1.alloc _).grown hgp hz
          have hGp := blk_lt hwp.out
          generalize hGG : wo.heap.size = G at hwp hz hGp ⊢
          rw [← HFL.out] at hwp
          clear hgp hGG HF
          go_loopw [8] (fun i wi => ∃ k : Nat, k ≤ M ∧ i = .int .i64 ((64 * k : Nat) : Int) ∧ OF w wi C ∧ Hid (wi.heap[G]? = some (.cells (ws (blocks p F0 k).list).toArray 112 (0, 0)))) (fun i _ => 64 * M - (intOf i).toNat)
          case atStart => exact ⟨0, Nat.zero_le _, rfl, hOp, hwp⟩
          case round =>
            clear hOp hwp hGp
            obtain ⟨k, hk, rfl, hO2, HG⟩ := hrel
            by_cases hkM : k < M
            · skip
              obtain ⟨q, hq⟩ : ∃ q, q = 64 * k := ⟨_, rfl⟩
              obtain ⟨q2, hq2⟩ : ∃ q, q = 64 * k + 64 := ⟨_, rfl⟩
              obtain ⟨st, hst⟩ : ∃ s, s = blocks p F0 k := ⟨_, rfl⟩
              have hst2 : blocks p F0 (k + 1) = mixSt K0 st ((p.drop q).take 64) := by rw [hst, hq]; rfl
              rw [← hst] at HG
              have hb64 : ((p.drop q).take 64).length = 64 := by rw [List.length_take, List.length_drop, HpM.out]; omega
              have hext : sc.extract q q2 = str ((p.drop q).take 64) := by rw [Hsp.out, str_extract, show q2 - q = 64 by omega]
              have hqs : q2 ≤ sc.size := by rw [Hps.out]; omega
              have hblk : ∀ W, Calls Try.prog 163 #[.agg C.toArray, .agg (ws st.list).toArray, .string (sc.extract q q2)] W fun e w' => e = .returned (.agg (ws (blocks p F0 (k + 1)).list).toArray) ∧ Below W.heap.size W w' := by
                intro W
                rw [hext, HC.out, hst2]
                exact block_any st _ hb64 W
              obtain ⟨st2, hs2⟩ : ∃ s, s = blocks p F0 (k + 1) := ⟨_, rfl⟩
              rw [← hs2] at hblk
              have Hblk := Lib.hid hblk
              have Hs2 := Lib.hid hs2
              have hrC : wr.rangeAt w.heap.size 0 C := fun j v hv => by rw [Nat.zero_add, blk_cell hO2.c j]; simpa using hv
              have hrG : wr.rangeAt G 0 (ws st.list) := fun j v hv => by rw [Nat.zero_add, blk_cell HG.out j]; simpa using hv
              have HiC : Hid ((Try.prog.info? 114).map (·.size) = some C.length) := by show _ = _; rw [HC.out, ws_length]; rfl
              have HiG : ∀ s : St, (Try.prog.info? 112).map (·.size) = some (ws s.list).length := by intro s; rw [ws_length]; rfl
              have HiG' := Lib.hid HiG
              have HrC := Lib.hid hrC
              have HrG := Lib.hid hrG
              have z1 : (q : Int) < (sc.size : Int) := by omega
              have z2 : (q2 : Int) ≤ (sc.size : Int) := by omega
              have z3 : (q : Int) ≤ (q2 : Int) := by omega
              have z4 : IntKind.i64.wrap ((q : Int) + 64) = (q2 : Int) := by rw [IntKind.wrap_i64]; omega
              have z5 : (q : Int) + 64 = (q2 : Int) := by omega
              have z7 : IntKind.i64.wrap (q2 : Int) = (q2 : Int) := by rw [IntKind.wrap_i64]; omega
              have z8 : (0 : Int) ≤ (q2 : Int) := by omega
              have z6 : (0 : Int) ≤ (q : Int) := by omega
              have Hq := Lib.hid hq
              have Hq2 := Lib.hid hq2
              have hd1' : ((64 * k : Nat) : Int) = (q : Int) := by rw [hq]
              rw [hd1']
              clear hq hq2 hst hst2 hb64 hext hblk hs2 hrC hrG HiG hd1'
              go_wp2_with fail
              refine wp_region_still_tail 7 (by kernel_rfl) (by kernel_rfl) ?_
              simp only [List.take_succ_cons, List.take_zero, List.drop_succ_cons, List.drop_zero]
              refine wpStill_load_mid rfl 114 _ rfl w.heap.size 0 rfl C _ HrC.out Try.underlying114 rfl HiC.out ?_
              simp only [Act.put, List.setIfInBounds_toArray, List.set_cons_zero, List.set_cons_succ]
              refine wpStill_load_mid rfl 112 _ rfl G 0 rfl (ws st.list) _ HrG.out Try.underlying112 rfl (HiG'.out st) ?_
              simp only [Act.put, List.setIfInBounds_toArray, List.set_cons_zero, List.set_cons_succ]
              repeat still_step
              refine wpStill_nil ?_
              change wpList _ _ _ _ _ wr.drew
              go_wp2_with (first
                | (go_at_call 163; go_must (refine (Hblk.out _).mono ?_); rintro e w3 ⟨rfl, hb3⟩)
                | (refine wpList_store_all rfl 112 _ _ rfl G (ws st2.list) (ws st.list) rfl rfl (ws_one _) (by rw [ws_length, ws_length]; rfl) (HiG'.out st2) 112 (blk_below (w := wr.drew) HG.out hb3) ?_; intro w4 hw4 hg4))
              have hO3 : OF w w3 C := OF.below (W := wr.drew) ⟨hO2.c, hO2.r, hO2.b.drew⟩ hb3
              refine ⟨⟨k + 1, by omega, ?_, hO3.grown hg4 hz, ?_⟩, by simp only [intOf]; have := Hq.out; omega⟩
              · have := Hq.out; congr 1; omega
              · rw [← Hs2.out]; exact hw4
            · obtain rfl : k = M := by omega
              have hsha : sha l = sumBytes (blocks p F0 k) := by
                rw [sha_blocks, ← Hp.out, HM.out]
              obtain ⟨st, hst⟩ : ∃ s, s = blocks p F0 k := ⟨_, rfl⟩
              rw [← hst] at hsha HG
              have Hsha := Lib.hid hsha
              have z1 : decide (((64 * k : Nat) : Int) < (sc.size : Int)) = false := decide_eq_false (by rw [Hps.out]; omega)
              have z2 : decide (64 * k < sc.size) = false := decide_eq_false (by rw [Hps.out]; omega)
              have hz2 := hO2.lt
              have hGl := blk_lt HG.out
              clear hsha hst
              obtain ⟨q, hq⟩ : ∃ q, q = 64 * k := ⟨_, rfl⟩
              rw [← hq] at z1 z2 ⊢
              clear hq
              obtain ⟨wo2, rfl⟩ : ∃ wo : World, wo = wr := ⟨_, rfl⟩
              go_wp2_with fail
              generalize hG2 : wo2.heap.size = G2 at hz2 hGl ⊢
              go_loopw [10] (fun i wi => ∃ i0 : Nat, i0 ≤ 32 ∧ i = .int .i64 i0 ∧ OF w wi C ∧ Hid (wi.heap[G]? = some (.cells (ws st.list).toArray 112 (0, 0))) ∧ Hid (wi.heap[G2]? = some (.cells (bpart ((sumBytes st).take i0) 32).toArray 43 (0, 0)))) (fun i _ => 32 - (intOf i).toNat)
              case atStart => exact ⟨0, Nat.zero_le _, rfl, hO2.alloc _, blk_alloc HG.out _, by rw [← hG2]; exact heap_alloc_new _ _⟩
              case round =>
                clear hO2 HG hG2
                obtain ⟨i0, hi, rfl, hO3, HG, HG2⟩ := hrel
                by_cases hi32 : i0 < 32
                · obtain ⟨a, ha⟩ : ∃ a, a = i0 / 4 := ⟨_, rfl⟩
                  obtain ⟨d, hd⟩ : ∃ d, d = 8 * (3 - i0 % 4) := ⟨_, rfl⟩
                  have hq1 : (i0 : Int) / 4 = (a : Int) := by omega
                  have hd1 : 24 - 8 * ((i0 : Int) % 4) = (d : Int) := by omega
                  have hq8 : (a : Int) < 8 := by omega
                  have hd3 : (d : Int) ≤ 24 := by omega
                  have hd4 : (0 : Int) ≤ (d : Int) := by omega
                  have c1 : wr.cell? ⟨G, a, none⟩ = some (.int .u32 ((gw st.list a).toNat : Int)) := by
                    rw [blk_cell HG.out a]; simp only [List.getElem?_toArray]
                    rw [ws_get _ _ (by rw [St.list_length]; omega)]; rfl
                  have hbo : byteOf st i0 = UInt8.ofNat ((gw st.list a).toNat / 2 ^ d) := by rw [byteOf, ← ha, ← hd]
                  obtain ⟨y, hy⟩ : ∃ x, x = gw st.list a := ⟨_, rfl⟩
                  rw [← hy] at c1 hbo
                  have Hbo := Lib.hid hbo
                  have hl5 : ((sumBytes st).take i0).length = i0 := by rw [List.length_take, sumBytes_length]; omega
                  have hcell : ∃ v, wr.cell? ⟨G2, i0, none⟩ = some v := by
                    rw [blk_cell HG2.out i0]
                    simp only [List.getElem?_toArray]
                    exact ⟨_, List.getElem?_eq_getElem (by rw [bpart_length _ _ (by rw [hl5]; omega)]; omega)⟩
                  obtain ⟨v0, hv0⟩ := hcell
                  have hvf := blk_frozen HG2.out i0
                  have Hl5 := Lib.hid hl5
                  have hk33 : (i0 : Int) < 32 := by omega
                  clear hy hbo ha hd hl5 z1 z2
                  go_wp2_with fail
                  have hby : (y.toNat : Int) / 2 ^ d % 256 = ((byteOf st i0).toNat : Int) := by
                    rw [Hbo.out, UInt8.toNat_ofNat', show (y.toNat : Int) / 2 ^ d = ((y.toNat / 2 ^ d : Nat) : Int) by rw [Int.natCast_ediv, Int.natCast_pow]; rfl]
                    omega
                  refine ⟨⟨i0 + 1, by omega, by go_num, hO3.grown (grown_setCell _ _ _ _) hz2, blk_far HG.out (by simp only; omega) _, ?_⟩, by simp only [intOf]; omega⟩
                  rw [sum_step _ _ hi32, hby]
                  exact bpart_put HG2.out Hl5.out hi32 _
                · obtain rfl : i0 = 32 := by omega
                  obtain ⟨L, hL⟩ : ∃ L, L = bs (sha l) := ⟨_, rfl⟩
                  have hbp : bpart ((sumBytes st).take 32) 32 = L := by
                    rw [hL, Hsha.out, List.take_of_length_le (by rw [sumBytes_length]; exact Nat.le_refl 32), bpart_full _ _ (sumBytes_length _)]
                  rw [hbp] at HG2
                  have hsl : L.length = 32 := by rw [hL, bs_length, sha_length]
                  have h1c : ∀ v ∈ L, v.oneCell' = true := by rw [hL]; exact bs_oneCell _
                  have hr1 : wr.rangeAt G2 0 L := fun j v hv => by rw [Nat.zero_add, blk_cell HG2.out j]; simpa using hv
                  have Hr1 := Lib.hid hr1
                  have Hi1 : Hid ((Try.prog.info? 43).map (·.size) = some L.length) := by show _ = _; rw [hsl]; rfl
                  have HL := Lib.hid hL
                  have Hsl := Lib.hid hsl
                  clear hr1 hL hsl hbp
                  go_wp2_with (first
                    | (refine wpList_load_mid rfl _ _ rfl G2 0 rfl L _ Hr1.out Try.underlying43 rfl Hi1.out ?_)
                    | (refine wpList_store_all rfl 43 _ _ rfl (w.heap.size + 1) L (bpart [] 32) rfl rfl h1c (by rw [Hsl.out]; rfl) Hi1.out 43 hO3.r ?_; intro w4 hw4 hg4))
                  have hr2 : w4.rangeAt (w.heap.size + 1) 0 L := fun j v hv => by rw [Nat.zero_add, blk_cell hw4.out j]; simpa using hv
                  refine bodyPost_ret (v := .agg L.toArray) (results_cell_mid rfl _ _ (w.heap.size + 1) L _ rfl hr2 Try.underlying43 rfl Hi1.out) rfl ⟨by rw [HL.out], ?_⟩
                  exact hO3.b.grown hg4 hO3.b.size (fun k hk => by injection hk with hk; omega)
    · have hq56 : ¬ q = 56 := fun e => hjp (he.1 e)
      have d1 : ((q : Int) == 56) = false := by rw [Bool.eq_false_iff]; intro e; rw [beq_iff_eq] at e; omega
      have d2 : ((q : Int) != 56) = true := by simp [bne, d1]
      have hpq : j < padLen l.length := by omega
      clear he hjp
      go_wp2_with fail
      refine ⟨⟨j + 1, _, by omega, rfl, ?_⟩, ?_⟩
      · show _ = _
        rw [Hsb.out, str_append1, pad_succ, List.append_assoc]; rfl
      · have h1 : (sb ++ ⟨#[0]⟩).size = m + 1 := by rw [Hsb.out, str_append1, str_size]; have := Hsz.out; have := Hm.out; simp [pad_length]; omega
        simp only [h1, hss]
        have := Hsz.out; have := Hm.out; omega
set_option maxRecDepth 100000 in
set_option maxHeartbeats 1000000 in
theorem rof_any (l : List UInt8) (hl : l.length ≤ 1000000) (w : World) :
    Calls Try.prog 113 #[.string (str l)] w fun e w' => e = .returned (.agg (bs (sha l)).toArray) ∧ Below w.heap.size w w' := by
  obtain ⟨C, hC⟩ : ∃ C, C = ws (K0 ++ F0.list) := ⟨_, rfl⟩
  obtain ⟨L, hL⟩ : ∃ L, L = bs (sha l) := ⟨_, rfl⟩
  obtain ⟨sb, hsb⟩ : ∃ s, s = str l := ⟨_, rfl⟩
  have H1 := Lib.hid all_any
  have H2 := Lib.hid (cof_any l hl)
  rw [← hC] at H1 H2
  rw [← hL, ← hsb] at H2
  rw [← hsb, ← hL]
  have hsl : L.length = 32 := by rw [hL, bs_length, sha_length]
  have h1c : ∀ v ∈ L, v.oneCell' = true := by rw [hL]; exact bs_oneCell _
  have Hi1 : Hid ((Try.prog.info? 43).map (·.size) = some L.length) := by show _ = _; rw [hsl]; rfl
  have Hsl := Lib.hid hsl
  clear hC hL hsb hsl
  go_enter Try.func113, Try.ntmps113
  go_wp2_with (first
    | (go_at_call 72; refine (H1.out _).mono ?_; rintro e w1 ⟨rfl, hb1⟩; have q1 : w1.heap[w.heap.size]? = some (.cells (bpart [] 32).toArray 43 (0, 0)) := blk_below (heap_alloc_new _ _) hb1; have Q1 := Lib.hid q1; have hB1 : Below w.heap.size w w1 := (((Below.refl _ _).alloc (Nat.le_refl _) _).trans (hb1.mono (by rw [alloc_size]; omega))); clear q1 hb1)
    | (go_at_call 131; refine (H2.out _).mono ?_; rintro e w2 ⟨rfl, hb2⟩)
    | (refine wpList_store_all rfl 43 _ _ rfl w.heap.size L (bpart [] 32) rfl rfl h1c (by rw [Hsl.out]; rfl) Hi1.out 43 (blk_below Q1.out hb2) ?_; intro w4 hw4 hg4))
  have hr2 : w4.rangeAt w.heap.size 0 L := fun j v hv => by rw [Nat.zero_add, blk_cell hw4.out j]; simpa using hv
  refine bodyPost_ret (v := .agg L.toArray) (results_cell_mid rfl _ _ w.heap.size L _ rfl hr2 Try.underlying43 rfl Hi1.out) rfl ⟨rfl, ?_⟩
  exact (hB1.trans (hb2.mono hB1.size)).grown hg4 (by have := hB1.size; have := hb2.size; omega) (fun k hk => by injection hk with hk; omega)
end Go.Proofs.Ytcjabfdjngekfaa.Sha
