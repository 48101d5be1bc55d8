/- Ids' walks: Read. -/
import Derived.Test.YtpldkplfdbjidaaIdsW
import Derived.Test.YtpldkplfdbjidaaRdrW
import Derived.Test.YtpldkplfdbjidaaTurnLaw
import Derived.Test.YtpldkplfdbjidaaShaTake
import Derived.Lib.LazyBuf
import Derived.Great.BuildSlice
set_option linter.unusedVariables false
set_option linter.unusedSimpArgs false
namespace Go.Proofs.Ytpldkplfdbjidaa.Ids
open Go.RowKit Go.Proofs.Ytpldkplfdbjidaa.Wd Go.Proofs.Ytpldkplfdbjidaa.Use Go.Proofs.Ytpldkplfdbjidaa.Lay

def zid : Id := List.replicate 32 0
theorem elSet : El Try.prog 34 23 (.agg (bs zid).toArray) 32 32 := ⟨Try.underlying34, by kernel_rfl, rfl, by decide, by decide⟩
theorem ix_append (l m : List Id) : ix (l ++ m) = ix l ++ ix m := by simp [ix, bs_append]
theorem ix_one (x : Id) : ix [x] = bs x := by simp [ix]
theorem ix_oneCell (l : List Id) : ∀ v ∈ ix l, v.oneCell' = true := bs_oneCell _
theorem pad_full {s : Id} (h : s.length = 32) : pad s = s := by simp [pad, h]
theorem pad_none : pad [] = zid := by simp [pad, zid]
theorem rd_cells (g : Nat) : ∀ (vs : List Value) (o : Nat) (w : World), w.grownBy (w.setCells g o vs) (some g)
  | [], o, w => World.grownBy.refl w _
  | v :: r, o, w => by rw [World.setCells]; exact (grown_setCell w g o v).trans (rd_cells g r (o + 1) _)
/-- a whole array's copy from a text of 32 bytes, or of none -/
theorem copy_pad {w : World} {G : Nat} {t ty : TypeId} {s : List UInt8} (h : w.heap[G]? = some (.cells (bs zid).toArray t (0, 0))) (hs : s.length = 32 ∨ s = []) :
    ∃ W6, (Builtin.copy_ #[39, 9] ty #[.slice (some ⟨G, 0, none⟩) 32 32, .string (str s)]).run Try.prog w = .ok (goInt s.length) W6 ∧ W6.heap[G]? = some (.cells (bs (pad s)).toArray t (0, 0)) ∧ w.grownBy W6 (some G) := by
  have hzl : (bs zid).length = 32 := by rw [bs_length]; rfl
  have hsz : (str s).size = s.length := by rw [Lib.size_eq, str_data]
  have h1 := Go.run_copy_string (P := Try.prog) w 39 9 ty 5 G 0 32 32 (str s) Try.underlying39 (fun w => by go_simp) (by rw [hsz]; rcases hs with h | rfl
                                                                                                                         · omega
                                                                                                                         · exact Nat.zero_le _)
    (fun j hj => by
      have hj2 : j < 32 := by
        rw [hsz] at hj
        rcases hs with h | rfl
        · omega
        · exact absurd hj (Nat.not_lt_zero _)
      rw [Nat.zero_add, blk_cell h j]; simp only [List.getElem?_toArray]; rw [List.getElem?_eq_getElem (by rw [hzl]; omega)]; rfl)
    (fun j hj => by rw [Nat.zero_add]; exact blk_frozen h j)
  rw [str_data, hsz] at h1
  refine ⟨_, h1, ?_, rd_cells _ _ _ _⟩
  rcases hs with hs | rfl
  · rw [pad_full hs]
    exact Sha.heap_setCells_all G t (bs s) w _ h (by rw [List.size_toArray, hzl, bs_length, hs])
  · rw [pad_none]; exact h
/-- a row of one sum -/
theorem wpList_build_one {ops : Array Oper} {rest : List Oper} {o : Oper} {a : Act} {w : World} {Q : Exit → Act → World → Prop} (hg : o.guard = none) (x : Operand) (ho : o.op = .buildSlice 34 1 #[(0, x)]) (X : List Value) (hx : a.eval x = .agg X.toArray) (hX : X.length = 32)
    (h : wpList Try.prog ops Q rest (a.put o.dst (.slice (some ⟨w.heap.size, 0, none⟩) 1 1)) (w.alloc (.cells X.toArray 23))) : wpList Try.prog ops Q (o :: rest) a w := by
  obtain ⟨ht, hinfo, hz, -, -⟩ := elSet
  obtain ⟨i0, hi, hzz⟩ := Option.map_eq_some_iff.1 hinfo
  simp only [Prod.mk.injEq] at hzz
  obtain ⟨hz0, hz1, -⟩ := hzz
  refine wpList_buildSlice hg 34 23 1 #[(0, x)] ho X.toArray i0 _ Try.underlying34 hi hz0 (by rw [hz1]; decide) (by rw [hz1]; decide) ?_ h
  have hf := Great.fill_whole (s := 32) (by decide) [Value.agg X.toArray] ((Array.range (1 * i0.size)).map ((Value.agg (bs zid).toArray).cells[· % (Value.agg (bs zid).toArray).cells.size]!)) (by intro v hv; simp at hv; subst hv; simp [Value.cells, hX]) (by simp [hz1])
  rw [hz1] at hf ⊢
  simp only [Value.cells, List.flatMap_cons, List.flatMap_nil, List.append_nil] at hf
  rw [← hf, show (#[(0, x)].map fun (i, x) => (i, a.eval x)).toList = (([Value.agg X.toArray].zipIdx 0).map fun x => (x.2, x.1)) by simp [hx]]
  rfl
/-- what a reading holds: the reader, the ids so far -/
structure RI (w W : World) (g : Nat) (r : Rdr) (ov : Value) (out : List Id) : Prop where
  rd : RdrAt W g r
  own : W.ownsRow (w.heap.size + 1) 23 32 ov out.length (ix out)
  eg : g = w.heap.size
  b : Below w.heap.size w W
variable {w W W1 : World} {g : Nat} {r r' : Rdr} {ov : Value} {out : List Id}
theorem RI.below (h : RI w W g r ov out) (hb : Below W.heap.size W W1) : RI w W1 g r ov out := ⟨h.rd.below hb, own_below h.own hb, h.eg, below_go hb h.b⟩
theorem RI.drew (h : RI w W g r ov out) : RI w W.drew g r ov out := ⟨h.rd, h.own, h.eg, h.b.drew⟩
theorem RI.left (h : RI w W g r ov out) (hl : Lay.Left W g r' W1) : RI w W1 g r' ov out :=
  ⟨hl.1, own_grown h.own hl.2 (fun k hk e => by injection hk with hk; have := own_base h.own k (by rw [e]); have := h.eg; omega), h.eg, h.b.grown hl.2 h.b.size (fun k hk => by injection hk with hk; have := h.eg; omega)⟩
theorem RI.other (h : RI w W g r ov out) {G : Nat} (hg : W.grownBy W1 (some G)) (h1 : G ≠ g) (h2 : ov.ownBlock ≠ some G) (h3 : w.heap.size ≤ G) : RI w W1 g r ov out :=
  ⟨blk_grown h.rd hg (by intro e; injection e with e; exact h1 e.symm), own_grown h.own hg (fun k hk e => by injection hk with hk; subst hk; exact h2 e), h.eg, h.b.grown hg h.b.size (fun k hk => by injection hk with hk; omega)⟩
theorem RI.app (h : RI w W g r ov out) {v1 : Value} {out' : List Id} (ho : W1.ownsRow (w.heap.size + 1) 23 32 v1 out'.length (ix out')) (hg : W.grownBy W1 ov.ownBlock) : RI w W1 g r v1 out' :=
  ⟨blk_grown h.rd hg (fun e => by have := own_base h.own g e.symm; have := h.eg; omega), ho, h.eg, h.b.grown hg h.b.size (fun k hk => by have := own_base h.own k hk; omega)⟩
theorem RI.lt (h : RI w W g r ov out) : ∀ k, ov.ownBlock = some k → k < W.heap.size := fun k hk => (h.own.lt k hk).2
theorem rnum_len (r : Rdr) (h : r.number.2.bad = 0) : r.number.2.b.length ≤ r.b.length := by
  unfold Rdr.number at *
  split
  · split
    · simp [Rdr.stop]
    · rename_i hb c l e
      rw [e]
      split
      · simp [Rdr.stop]
      · split
        · simp [Rdr.stop]
        · split
          · simp [Rdr.stop]
          · simp only [List.length_drop, List.length_cons]; omega
  · simp
theorem rsmall_len (r : Rdr) (most : Int) : (r.small most).2.bad = 0 → (r.small most).2.b.length ≤ r.b.length := by
  unfold Rdr.small
  split
  · rename_i h; intro h2; simp [Rdr.stop]
  · exact rnum_len r
/-- how the ids read so far and the bytes that are left stand to the bytes -/
def Fits (b : List UInt8) (r : Rdr) (out : List Id) : Prop := out.length * 32 ≤ b.length + 32 ∧ (r.bad = 0 → out.length * 32 + r.b.length ≤ b.length)
theorem Fits.next {b : List UInt8} {r : Rdr} {out : List Id} (h : Fits b r out) (h0 : r.bad = 0) : Fits b (r.raw 32).2 (out ++ [pad (r.raw 32).1]) := by
  have h1 := h.2 h0
  rcases raw_len r 32 with ⟨-, k1, k2, -⟩ | ⟨-, k2⟩
  · rw [show ((32 : Nat) : Int) = 32 from rfl] at k1
    refine ⟨by rw [List.length_append, List.length_singleton]; omega, fun _ => by rw [List.length_append, List.length_singleton]; omega⟩
  · rw [show ((32 : Nat) : Int) = 32 from rfl] at k2
    refine ⟨by rw [List.length_append, List.length_singleton]; omega, fun h => absurd h k2⟩
theorem raw_or (r : Rdr) : (r.raw 32).1.length = 32 ∨ (r.raw 32).1 = [] := by
  rcases raw_len r 32 with ⟨h, -⟩ | ⟨h, -⟩
  · exact .inl h
  · exact .inr h
theorem rl_bad (n : Nat) (r : Rdr) (out : List Id) (h : r.bad ≠ 0) : rl n r out = (r, out) := by
  cases n with
  | zero => rfl
  | succ n => rw [rl, if_neg h]
theorem rl_ok (n : Nat) (r : Rdr) (out : List Id) (h : r.bad = 0) : rl (n + 1) r out = rl n (r.raw 32).2 (out ++ [pad (r.raw 32).1]) := by rw [rl, if_pos h]
theorem fin_ok {r : Rdr} (h : r.bad = 0) : r.fin = 0 ∨ r.fin = 11 := by unfold Rdr.fin; split <;> simp [h]
theorem own_base_le' {w : World} {base : Nat} {e : TypeId} {size n : Nat} {v : Value} {xs : List Value} (h : w.ownsRow (base + 1) e size v n xs) : w.ownsRow base e size v n xs :=
  ⟨h.1, h.2.elim .inl (fun ⟨g, cap, cur, e, h1, r⟩ => .inr ⟨g, cap, cur, e, by omega, r⟩)⟩
set_option maxRecDepth 100000 in
set_option maxHeartbeats 8000000 in
theorem Read_any (b : List UInt8) (most : Int) (hb : b.length ≤ 1000000) (hm : most < 9223372036854775808) (w : World) :
    Calls Try.prog 26 #[.string (str b), .int .i64 most] w fun e w' => ∃ v, e = .returned (.tuple #[v, .int .i64 ((read b most).2 : Int)]) ∧ W32 (read b most).1 ∧ w'.ownsRow w.heap.size 23 32 v (read b most).1.length (ix (read b most).1) ∧ Below w.heap.size w w' := by
  obtain ⟨N, hN⟩ : ∃ N, N = ((⟨b, 0⟩ : Rdr).small most).1 := ⟨_, rfl⟩
  obtain ⟨r2, hr2⟩ : ∃ r2, r2 = ((⟨b, 0⟩ : Rdr).small most).2 := ⟨_, rfl⟩
  have hNlt : N < 9223372036854775808 := by rw [hN]; exact Rdr.small_le _ _ hm
  have hF0 : Fits b r2 [] := ⟨by simp, fun h => by have := rsmall_len ⟨b, 0⟩ most (by rw [← hr2]; exact h); rw [← hr2] at this; simpa using this⟩
  have hrd := fun W => Lay.Read_any b W
  have hsm := fun W g (h : RdrAt W g ⟨b, 0⟩) => Small_any g ⟨b, 0⟩ most W h hm
  rw [← hN, ← hr2] at hsm
  have Hrd := Lib.hid hrd
  have Hsm := Lib.hid hsm
  have HN := Lib.hid hN
  have Hr2 := Lib.hid hr2
  have HF0 := Lib.hid hF0
  have Hb := Lib.hid hb
  clear hrd hsm hN hr2 hF0 hb
  go_enter Try.func26, Try.ntmps26
  go_wp2_with (first
    | (go_at_call 75; refine (Hrd.out _).mono ?_; rintro e w1 ⟨rfl, hr1, hb1⟩)
    | (go_at_call 76; refine (Hsm.out _ _ hr1).mono ?_; rintro e w2 ⟨rfl, hl2⟩; have R2 := Lib.hid (show RI w w2 w.heap.size r2 (.slice none 0 0) [] from ⟨hl2.1, own_nil _ _ _ _, rfl, hb1.grown hl2.2 hb1.size (fun k hk => by injection hk with hk; omega)⟩); clear hl2 hr1 hb1))
  obtain ⟨g, hg⟩ : ∃ g, g = w.heap.size := ⟨_, rfl⟩
  rw [← hg] at R2
  simp only [← hg]
  clear hg
  go_loopw [7, 8] (fun ov i wr => ∃ (k : Nat) (r : Rdr) (out : List Id), i = .int .i64 (k : Int) ∧ k ≤ N ∧ Hid (rl k r out = rl N r2 []) ∧ Hid (RI w wr g r ov out) ∧ Hid (W32 out) ∧ Hid (Fits b r out)) (fun _ i _ => (intOf i).toNat)
  case atStart => exact ⟨N, r2, [], rfl, Nat.le_refl _, Lib.hid rfl, R2, Lib.hid W32.nil, HF0⟩
  case round =>
    clear R2
    obtain ⟨k, r, out, rfl, hk, Hrl, HR, H32, HF⟩ := hrel
    obtain ⟨ov, hov⟩ : ∃ ov, ov = u7 := ⟨_, rfl⟩
    rw [← hov] at HR
    obtain ⟨A, c, hA, -, -, -⟩ := (Rd.of_own HR.out.own).slice_
    obtain ⟨m, hm2⟩ : ∃ m, m = out.length := ⟨_, rfl⟩
    rw [← hm2] at hA
    rw [hA] at hov
    subst hov
    have Hm := Lib.hid hm2
    have HA := Lib.hid hA
    clear hm2 hA
    by_cases hk0 : k = 0
    · subst hk0
      have hd0 : decide ((0 : Int) < ((0 : Nat) : Int)) = false := rfl
      have Ht := Lib.hid (show rl N r2 [] = (r, out) by rw [← Hrl.out]; rfl)
      clear Hrl
      have hrd := HR.out.rd
      have Hbad := Lib.hid (fun W (h : Below wr.heap.size wr W) => Bad_any g r W (hrd.below h))
      have Hend := Lib.hid (fun W (h : Below wr.heap.size wr W) => End_any g r W (hrd.below h))
      have Hri := Lib.hid (fun W (h : Below wr.heap.size wr W) => Right_any ov out H32.out (by have := HF.out.1; have := Hb.out; omega) W ((Rd.of_own HR.out.own).below h))
      rw [HA.out] at Hri
      obtain ⟨bd, hbd⟩ : ∃ x, x = r.bad := ⟨_, rfl⟩
      have Hread0 := Lib.hid (show read b most = if r.bad ≠ 0 then ([], r.bad) else if r.fin ≠ 0 ∨ up out = false then ([], 11) else (out, 0) by rw [read]; simp only [← Hr2.out, ← HN.out, Ht.out])
      rw [← hbd] at Hbad Hread0
      by_cases hb0 : bd = 0
      rotate_left
      · have hne : ((bd : Int) != 0) = true := by rw [bne_iff_ne]; omega
        have heq : ((bd : Int) == 0) = false := by rw [beq_eq_false_iff_ne]; omega
        have Hread := Lib.hid (show read b most = ([], bd) by rw [Hread0.out, if_pos hb0])
        clear hbd Hread0 hrd
        go_wp2_with (go_at_call 77; refine (Hbad.out _ (Below.refl _ _)).mono ?_; rintro e w' ⟨rfl, rfl⟩)
        go_ret2
        exact ⟨_, by rw [Hread.out]; rfl, by rw [Hread.out]; exact W32.nil, by rw [Hread.out]; exact own_nil _ _ _ _, HR.out.b⟩
      subst hb0
      have hfin := fin_ok hbd.symm
      have hbd' := hbd
      obtain ⟨fn, hfn⟩ : ∃ x, x = r.fin := ⟨_, rfl⟩
      rw [← hfn] at Hend Hread0 hfin
      rcases hfin with rfl | rfl
      rotate_left
      · have Hread := Lib.hid (show read b most = ([], 11) by rw [Hread0.out, if_neg (by decide), if_pos (Or.inl (by decide))])
        clear hbd hbd' hfn Hread0 hrd
        go_wp2_with (first
          | (go_at_call 77; refine (Hbad.out _ (Below.refl _ _)).mono ?_; rintro e w' ⟨rfl, rfl⟩)
          | (go_at_call 79; refine (Hend.out _ (Below.refl _ _)).mono ?_; rintro e w' ⟨rfl, rfl⟩))
        go_ret2
        exact ⟨_, by rw [Hread.out]; rfl, by rw [Hread.out]; exact W32.nil, by rw [Hread.out]; exact own_nil _ _ _ _, HR.out.b⟩
      clear hbd hbd' hfn hrd
      cases hup : up out
      · have Hread := Lib.hid (show read b most = ([], 11) by rw [Hread0.out, if_neg (by decide), if_pos (Or.inr hup)])
        rw [hup] at Hri
        clear hup Hread0
        go_wp2_with (first
          | (go_at_call 77; refine (Hbad.out _ (Below.refl _ _)).mono ?_; rintro e w' ⟨rfl, rfl⟩)
          | (go_at_call 79; refine (Hend.out _ (Below.refl _ _)).mono ?_; rintro e w' ⟨rfl, rfl⟩)
          | (go_at_call 25; refine (Hri.out _ (Below.refl _ _)).mono ?_; rintro e w5 ⟨rfl, hb5⟩))
        go_ret2
        exact ⟨_, by rw [Hread.out]; rfl, by rw [Hread.out]; exact W32.nil, by rw [Hread.out]; exact own_nil _ _ _ _, below_go hb5 HR.out.b⟩
      · have Hread := Lib.hid (show read b most = (out, 0) by rw [Hread0.out, if_neg (by decide), if_neg (by rintro (h | h); exact h rfl; rw [hup] at h; cases h)])
        rw [hup] at Hri
        clear hup Hread0
        go_wp2_with (first
          | (go_at_call 77; refine (Hbad.out _ (Below.refl _ _)).mono ?_; rintro e w' ⟨rfl, rfl⟩)
          | (go_at_call 79; refine (Hend.out _ (Below.refl _ _)).mono ?_; rintro e w' ⟨rfl, rfl⟩)
          | (go_at_call 25; refine (Hri.out _ (Below.refl _ _)).mono ?_; rintro e w5 ⟨rfl, hb5⟩))
        go_ret2
        exact ⟨_, by rw [Hread.out]; rfl, by rw [Hread.out]; exact H32.out, by rw [Hread.out]; have h := own_base_le' (own_below HR.out.own hb5); rw [HA.out] at h; exact h, below_go hb5 HR.out.b⟩
    by_cases hbad : r.bad = 0
    rotate_left
    · have Ht := Lib.hid (show rl N r2 [] = (r, out) by rw [← Hrl.out]; exact rl_bad _ _ _ hbad)
      have hd0 : decide ((0 : Int) < (k : Int)) = true := decide_eq_true (by omega)
      clear Hrl
      have hrd := HR.out.rd
      have Hbad := Lib.hid (fun W (h : Below wr.heap.size wr W) => Bad_any g r W (hrd.below h))
      obtain ⟨bd, hbd⟩ : ∃ x, x = r.bad := ⟨_, rfl⟩
      have Hread0 := Lib.hid (show read b most = if r.bad ≠ 0 then ([], r.bad) else if r.fin ≠ 0 ∨ up out = false then ([], 11) else (out, 0) by rw [read]; simp only [← Hr2.out, ← HN.out, Ht.out])
      rw [← hbd] at Hbad Hread0 hbad
      have hne : ((bd : Int) != 0) = true := by rw [bne_iff_ne]; omega
      have heq : ((bd : Int) == 0) = false := by rw [beq_eq_false_iff_ne]; omega
      have Hread := Lib.hid (show read b most = ([], bd) by rw [Hread0.out, if_pos hbad])
      clear hbd Hread0 hrd hbad
      go_wp2_with (go_at_call 77; refine (Hbad.out _ (Below.refl _ _)).mono ?_; rintro e w' ⟨rfl, rfl⟩)
      go_ret2
      exact ⟨_, by rw [Hread.out]; rfl, by rw [Hread.out]; exact W32.nil, by rw [Hread.out]; exact own_nil _ _ _ _, HR.out.b⟩
    obtain ⟨k', rfl⟩ : ∃ k', k = k' + 1 := ⟨k - 1, by omega⟩
    obtain ⟨x, hx⟩ : ∃ x, x = (r.raw 32).1 := ⟨_, rfl⟩
    obtain ⟨r', hr'⟩ : ∃ r', r' = (r.raw 32).2 := ⟨_, rfl⟩
    have hxo := raw_or r
    have hpl := pad_raw r
    have hnx := rl_ok k' r out hbad
    have hfx := HF.out.next hbad
    have hrd := HR.out.rd
    have hbd := fun W (h : Below wr.heap.size wr W) => Bad_any g r W (hrd.below h)
    rw [hbad] at hbd
    have hraw := fun W (h : RdrAt W g r) => Raw_any g r 32 W h
    rw [← hx, ← hr'] at hraw hnx hfx
    rw [← hx] at hxo hpl
    have Hxo := Lib.hid hxo
    have Hpl := Lib.hid hpl
    have Hnx := Lib.hid hnx
    have Hfx := Lib.hid hfx
    have Hbd := Lib.hid hbd
    have Hraw := Lib.hid hraw
    have hd0 : decide ((0 : Int) < ((k' + 1 : Nat) : Int)) = true := decide_eq_true (by omega)
    have hwr : IntKind.i64.wrap (((k' + 1 : Nat) : Int) - 1) = (k' : Int) := by rw [IntKind.wrap_i64]; omega
    clear hxo hpl hnx hfx hbd hraw hrd hx hr' hbad
    go_upto_region 7 with (first
      | (go_at_call 77; refine (Hbd.out _ (Below.refl _ _)).mono ?_; rintro e w' ⟨rfl, rfl⟩))
    have hz : (wr.alloc (.cells #[.int .u8 0, .int .u8 0, .int .u8 0, .int .u8 0, .int .u8 0, .int .u8 0, .int .u8 0, .int .u8 0, .int .u8 0, .int .u8 0, .int .u8 0, .int .u8 0, .int .u8 0, .int .u8 0, .int .u8 0, .int .u8 0, .int .u8 0, .int .u8 0, .int .u8 0, .int .u8 0, .int .u8 0, .int .u8 0, .int .u8 0, .int .u8 0, .int .u8 0, .int .u8 0, .int .u8 0, .int .u8 0, .int .u8 0, .int .u8 0, .int .u8 0, .int .u8 0] 23)).heap[wr.heap.size]? = some (.cells (bs zid).toArray 23 (0, 0)) := heap_alloc_new _ _
    have R1 := HR.out.below (below_one wr (.cells #[.int .u8 0, .int .u8 0, .int .u8 0, .int .u8 0, .int .u8 0, .int .u8 0, .int .u8 0, .int .u8 0, .int .u8 0, .int .u8 0, .int .u8 0, .int .u8 0, .int .u8 0, .int .u8 0, .int .u8 0, .int .u8 0, .int .u8 0, .int .u8 0, .int .u8 0, .int .u8 0, .int .u8 0, .int .u8 0, .int .u8 0, .int .u8 0, .int .u8 0, .int .u8 0, .int .u8 0, .int .u8 0, .int .u8 0, .int .u8 0, .int .u8 0, .int .u8 0] 23))
    have hGl : wr.heap.size < (wr.alloc (.cells #[.int .u8 0, .int .u8 0, .int .u8 0, .int .u8 0, .int .u8 0, .int .u8 0, .int .u8 0, .int .u8 0, .int .u8 0, .int .u8 0, .int .u8 0, .int .u8 0, .int .u8 0, .int .u8 0, .int .u8 0, .int .u8 0, .int .u8 0, .int .u8 0, .int .u8 0, .int .u8 0, .int .u8 0, .int .u8 0, .int .u8 0, .int .u8 0, .int .u8 0, .int .u8 0, .int .u8 0, .int .u8 0, .int .u8 0, .int .u8 0, .int .u8 0, .int .u8 0] 23)).heap.size := by rw [alloc_size]; omega
    generalize wr.alloc (.cells #[.int .u8 0, .int .u8 0, .int .u8 0, .int .u8 0, .int .u8 0, .int .u8 0, .int .u8 0, .int .u8 0, .int .u8 0, .int .u8 0, .int .u8 0, .int .u8 0, .int .u8 0, .int .u8 0, .int .u8 0, .int .u8 0, .int .u8 0, .int .u8 0, .int .u8 0, .int .u8 0, .int .u8 0, .int .u8 0, .int .u8 0, .int .u8 0, .int .u8 0, .int .u8 0, .int .u8 0, .int .u8 0, .int .u8 0, .int .u8 0, .int .u8 0, .int .u8 0] 23) = w1 at hz R1 hGl ⊢
    have hoG : ov.ownBlock ≠ some wr.heap.size := fun e => by have := HR.out.lt _ e; omega
    have hgG : wr.heap.size ≠ g := by have := HR.out.rd.lt; omega
    have hwG : w.heap.size ≤ wr.heap.size := HR.out.b.size
    generalize wr.heap.size = G at hz hGl hoG hgG hwG ⊢
    have Hz := Lib.hid hz
    have R1' := Lib.hid R1
    clear hz R1 HR Hbd
    (refine Ord.wp_region_ord [(false, 0), (false, 1), (true, 2), (true, 3)] (fun W => True) (by kernel_rfl) (by kernel_rfl) (by kernel_rfl) (by kernel_rfl) (by trivial) ?_; simp only [Ord.ordOps, List.filterMap_cons, List.filterMap_nil, List.getElem?_toArray, List.getElem?_cons_succ, List.getElem?_cons_zero, Option.map_some]; repeat (first | (refine Ord.wpOrd_skip ?_ ?_; (focus (go_simp; (try (intro h; cases h)); done)); simp only [Act.put, List.setIfInBounds_toArray, List.set_cons_zero, List.set_cons_succ]) | (refine Ord.wpOrd_take (v := ?_) ?_ ?_ ?_; rotate_left; (focus (go_simp; done)); (focus (intro w' hSw; (try dsimp only at hSw); go_simp; (try with_reducible rfl); done)); simp only [Act.put, List.setIfInBounds_toArray, List.set_cons_zero, List.set_cons_succ])))
    (refine Ord.wpOrd_call ?_ (fun K hK => ?_); (focus (go_simp; done)); go_simp)
    go_at_call 78
    refine (Hraw.out _ R1'.out.drew.rd).mono ?_
    rintro e w5 ⟨rfl, hl5⟩
    have R5 := R1'.out.drew.left hl5
    have hz5 := blk_grown (show w1.drew.heap[G]? = _ from Hz.out) hl5.2 (by intro e; injection e with e; exact hgG e)
    (refine hK _ _ (trivial) ?_; clear hK K; (try simp only [Act.put, List.setIfInBounds_toArray, List.set_cons_zero, List.set_cons_succ]); repeat (first | (refine Ord.wpOrd_skip ?_ ?_; (focus (go_simp; (try (intro h; cases h)); done)); simp only [Act.put, List.setIfInBounds_toArray, List.set_cons_zero, List.set_cons_succ]) | (refine Ord.wpOrd_take (v := ?_) ?_ ?_ ?_; rotate_left; (focus (go_simp; done)); (focus (intro w' hSw; (try dsimp only at hSw); go_simp; (try with_reducible rfl); done)); simp only [Act.put, List.setIfInBounds_toArray, List.set_cons_zero, List.set_cons_succ])))
    obtain ⟨w6, hc6, hz6, hg6⟩ := copy_pad (ty := 3) hz5 Hxo.out
    have R6 := Lib.hid (R5.other hg6 hgG hoG hwG)
    have Hz6 := Lib.hid hz6
    refine Ord.wpOrd_copy_run ?_ (.tmp 24) (.tmp 26) 39 9 rfl (.slice (some ⟨G, 0, none⟩) 32 32) (.string (str x)) rfl rfl hc6 ⟨trivial, ?_⟩
    · go_simp
    clear hl5 R5 hz5 hc6 hz6 hg6 Hz R1'
    ((try simp only [Act.put, List.setIfInBounds_toArray, List.set_cons_zero, List.set_cons_succ]); repeat (first | (refine Ord.wpOrd_skip ?_ ?_; (focus (go_simp; (try (intro h; cases h)); done)); simp only [Act.put, List.setIfInBounds_toArray, List.set_cons_zero, List.set_cons_succ]) | (refine Ord.wpOrd_take (v := ?_) ?_ ?_ ?_; rotate_left; (focus (go_simp; done)); (focus (intro w' hSw; (try dsimp only at hSw); go_simp; (try with_reducible rfl); done)); simp only [Act.put, List.setIfInBounds_toArray, List.set_cons_zero, List.set_cons_succ])))
    refine Ord.wpOrd_nil ?_
    obtain ⟨X, hX⟩ : ∃ X, X = bs (pad x) := ⟨_, rfl⟩
    have HX := Lib.hid hX
    have HXl := Lib.hid (show X.length = 32 by rw [hX, bs_length, Hpl.out])
    have Hi1 := Lib.hid (show (Try.prog.info? 23).map (·.size) = some X.length by rw [HXl.out]; rfl)
    rw [← hX] at Hz6
    have Hra := Lib.hid (range_all Hz6.out)
    clear hX Hz6
    have HM : m ≤ 40000 := by have h1 := HF.out.1; have h2 := Hb.out; have h3 := Hm.out; omega
    go_wp2_with (first
      | (refine wpList_load_mid rfl 23 _ rfl G 0 rfl X _ Hra.out Try.underlying23 rfl Hi1.out ?_)
      | (refine wpList_build_one rfl _ rfl X rfl HXl.out ?_)
      | (refine wpList_plain rfl (fun K hK => Ord.wp_app_row elSet (.tmp 28) (.tmp 30) rfl (w.heap.size + 1) (.slice A m c) _ m 1 (ix out) X rfl rfl (by rw [HX.out]; exact bs_oneCell _) (by have h := (R6.out.below (below_one w6 (.cells X.toArray 23))).own; rw [HA.out, ← Hm.out] at h; exact h) (Rd.lit w6 32 1 X 23 (by rw [HXl.out]) (by simp [maxLen])) (by have h1 := R6.out.b.size; have h2 := R6.out.rd.lt; have h3 := R6.out.eg; rw [alloc_size]; omega) (by omega) (fun v1 w7 ho7 hg7 hat7 => hK _ _ ?_)); have R7 := Lib.hid ((R6.out.below (below_one w6 (.cells X.toArray 23))).app (out' := out ++ [pad x]) (by rw [List.length_append, ix_append, ix_one, ← HX.out, ← Hm.out]; exact ho7) (by rw [HA.out]; exact hg7))))
    exact ⟨⟨k', r', out ++ [pad x], rfl, by omega, Lib.hid (by rw [← Hrl.out, Hnx.out]), R7, Lib.hid (H32.out.app (W32.one Hpl.out)), Hfx⟩, by simp only [intOf]; omega⟩
end Go.Proofs.Ytpldkplfdbjidaa.Ids
