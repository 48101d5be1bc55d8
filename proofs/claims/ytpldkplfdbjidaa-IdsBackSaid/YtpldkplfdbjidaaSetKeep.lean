/- Ids' walks: ids.Set.keep, at the two function values that it gets. -/
import Derived.Test.YtpldkplfdbjidaaIdsP
import Derived.Test.YtpldkplfdbjidaaIdsR
import Derived.Test.YtpldkplfdbjidaaIdsH
import Derived.Test.YtpldkplfdbjidaaSetPure
import Derived.Great.BuildSlice
set_option linter.unusedVariables false
set_option linter.unusedSimpArgs false
namespace Go.Proofs.Ytpldkplfdbjidaa.Ids
open Go.RowKit Go.Shelf Go.Proofs.Ytpldkplfdbjidaa.Wd Go.Proofs.Ytpldkplfdbjidaa.Use Go.Proofs.Ytpldkplfdbjidaa.Lay
attribute [local go_sem] Oper.semAt_some

theorem wpListIn_build_one {F : Fence} (hF : F.plain = Fence.wide) {n : Nat} {ops : Array Oper} {rest : List Oper} {o : Oper} {a : Act} {w : World} {Q : Exit → Act → World → Prop} (hg : o.guard = none) (x : Operand) (ho : o.op = .buildSlice 34 1 #[(0, x)]) (X : List Value) (hx : a.eval x = .agg X.toArray) (hX : X.length = 32)
    (h : wpListIn F n Try.prog ops Q rest (a.put o.dst (.slice (some ⟨w.heap.size, 0, none⟩) 1 1)) (w.alloc (.cells X.toArray 23))) : wpListIn F n Try.prog ops Q (o :: rest) a w := by
  obtain ⟨ht, hinfo, hz, -, -⟩ := elSet
  obtain ⟨i0, hi, hzz⟩ := Option.map_eq_some_iff.1 hinfo
  simp only [Prod.mk.injEq] at hzz
  obtain ⟨hz0, hz1, -⟩ := hzz
  refine Ord.wpListIn_of_wp hF hg (fun c => by rw [ho]; intro h; cases h) fun _ hK => wp_buildSlice 34 23 1 #[(0, x)] ho X.toArray i0 _ Try.underlying34 hi hz0 (by rw [hz1]; decide) (by rw [hz1]; decide) ?_ (hK _ _ h)
  have hf := Great.fill_whole (s := 32) (by decide) [Value.agg X.toArray] ((Array.range (1 * i0.size)).map ((Value.agg (bs zid).toArray).cells[· % (Value.agg (bs zid).toArray).cells.size]!)) (by intro v hv; simp at hv; subst hv; simp [Value.cells, hX]) (by simp [hz1])
  rw [hz1] at hf ⊢
  simp only [Value.cells, List.flatMap_cons, List.flatMap_nil, List.append_nil] at hf
  rw [← hf, show (#[(0, x)].map fun (i, x) => (i, a.eval x)).toList = (([Value.agg X.toArray].zipIdx 0).map fun x => (x.2, x.1)) by simp [hx]]
  rfl
theorem wpListIn_app_row {F : Fence} (hF : F.plain = Fence.wide) {n' : Nat} {P : Program} {ops : Array Oper} {rest : List Oper} {o : Oper} {a : Act} {W : World} {Q : Exit → Act → World → Prop} {t e : TypeId} {z : Value} {size bytes : Nat} (E : El P t e z size bytes) (hgd : o.guard = none) (s x : Operand)
    (ho : o.op = .call { callee := .builtin .append, args := #[s, x], argTypes := #[t, t] })
    (base : Nat) (v y : Value) (n m : Nat) (xs ys : List Value) (hs : a.eval s = v) (hx : a.eval x = y) (h1 : ∀ u ∈ ys, u.oneCell' = true)
    (HO : W.ownsRow base e size v n xs) (HR : Rd W size y m ys) (hbase : base ≤ W.heap.size) (hl : (n + m) * bytes ≤ 140737488355328)
    (h : ∀ v1 w1, w1.ownsRow base e size v1 (n + m) (xs ++ ys) → W.grownBy w1 v.ownBlock → (v1.ownBlock = v.ownBlock ∨ ∃ b, v1.ownBlock = some b ∧ W.heap.size ≤ b) → wpListIn F n' P ops Q rest (a.put o.dst v1) w1) :
    wpListIn F n' P ops Q (o :: rest) a W :=
  Ord.wpListIn_of_wp hF hgd (fun c => by rw [ho]; intro h; cases h) fun _ hK => Ord.wp_app_row E s x ho base v y n m xs ys hs hx h1 HO HR hbase hl fun v1 w1 a1 a2 a3 => hK _ _ (h v1 w1 a1 a2 a3)

/-- a rising list is its own right set -/
theorem right_any (v : Value) (l : List Id) (h32 : W32 l) (hs : Sorted l) (hn : l.length ≤ 1000000) (w : World) (hv : Rd w 32 v l.length (ix l)) :
    Calls Try.prog 70 #[v] w fun e w' => e = .returned v ∧ Below w.heap.size w w' := by
  have hri := Right_any v l h32 hn w hv
  rw [(up_iff l).2 hs] at hri
  have Hri := Lib.hid hri
  clear hri hv hs h32
  go_enter Try.func70, Try.ntmps70
  go_wp2_with (go_at_call 25; refine Hri.out.mono ?_; rintro r w2 ⟨rfl, hb2⟩)
  go_ret
  exact ⟨rfl, hb2⟩

/-- what is kept, so far -/
def kept (p : Id → Bool) (pre : List I32) : List Id := (vals pre).filter p
theorem kept_snoc (p : Id → Bool) (pre : List I32) (x : I32) : kept p (pre ++ [x]) = if p x.1 = true then kept p pre ++ [x.1] else kept p pre := by
  rw [kept, vals, List.map_append, List.map_singleton, filter_snoc]; rfl
theorem kept_w (p : Id → Bool) (pre : List I32) : W32 (kept p pre) := fun i hi => vals_w pre i (List.mem_filter.1 hi).1
theorem kept_len (p : Id → Bool) (pre : List I32) : (kept p pre).length ≤ pre.length := by rw [← vals_len pre]; exact List.length_filter_le _ _
set_option maxRecDepth 100000 in
set_option maxHeartbeats 8000000 in
theorem keepHas_any (p : Id → Bool) (l : List Id) (h32 : W32 l) (hlen : l.length ≤ 1000000) (hs : Sorted l) (v : Value) (u : Value) (w : World) (hv : Rd w 32 v l.length (ix l))
    (hf : ∀ x W, x.length = 32 → Below w.heap.size w W → Calls Try.prog 66 #[u, .agg (bs x).toArray] W fun r W' => r = .returned (.bool (p x)) ∧ Below W.heap.size W W') :
    Calls Try.prog 71 #[v, .func (.func 66) #[u] #[]] w fun e w' => ∃ v', e = .returned v' ∧ w'.ownsRow w.heap.size 23 32 v' (l.filter p).length (ix (l.filter p)) ∧ Below w.heap.size w w' := by
  have HR := Lib.hid (fun W (h : Below w.heap.size w W) => right_any v l h32 hs hlen W (hv.below h))
  obtain ⟨zs, rfl⟩ := vals_of h32
  have hvl := vals_len zs
  rw [hvl] at hv hlen
  obtain ⟨A, c, rfl, hc1, hc2, -⟩ := hv.slice_
  have Hv := Lib.hid hv
  have HF := Lib.hid hf
  have hBa := below_two w (.cells #[.func (.func 66) #[u] #[]] 78) (.cells #[.slice none 0 0] 34)
  clear hv h32 hf hs
  refine callsIn_wide (n := 10).1 ?_
  refine callsIn_of_wp_marks Try.func71 rfl trivial ?_ rfl
  simp only [Try.ntmps71, List.size_toArray, List.length_cons, List.length_nil, Nat.reduceAdd, Nat.reduceSub, Array.replicate_succ, Array.replicate_zero, List.push_toArray, List.append_toArray, List.nil_append, List.cons_append]
  gi_wp2_with (first
    | (refine ⟨trivial, ?_⟩; gi_at_call 70; refine (Ord.callsIn_of_calls rfl (HR.out _ hBa)).mono ?_; rintro e w1 ⟨rfl, hb1⟩)
    | (refine ⟨trivial, ?_⟩; gi_at_call 85; refine (All_in _ _ _ _ _).mono ?_; rintro e w' ⟨rfl, rfl⟩))
  obtain ⟨w0, hw0⟩ : ∃ w0, w.alloc (.cells #[.func (.func 66) #[u] #[]] 78) = w0 := ⟨_, rfl⟩
  have hs0 : w0.heap.size = w.heap.size + 1 := by rw [← hw0]; simp
  have hB0 : Below w.heap.size w w0 := by rw [← hw0]; exact below_one _ _
  have bP : Boxed w0 w.heap.size 78 (.func (.func 66) #[u] #[]) := by rw [← hw0]; exact Boxed.new w _ _
  rw [hw0] at hb1 hBa
  have hb01 : Below w0.heap.size w0 w1 := below_go hb1 (below_one _ _)
  have bO := (((Boxed.new w0 34 (.slice none 0 0)).kept (grown_below hb1 none) (by simp))).alloc (.cells #[.slice A zs.length c] 34)
  have bN := Boxed.new w1 34 (.slice A zs.length c)
  have hB3 := hb01.alloc hb01.size (.cells #[.slice A zs.length c] 34)
  have hs1 : w0.heap.size + 1 ≤ w1.heap.size := by have := hb1.size; simpa using this
  have hsz : (w1.alloc (.cells #[.slice A zs.length c] 34)).heap.size = w1.heap.size + 1 := by simp
  obtain ⟨W0, hW0⟩ : ∃ W0, w1.alloc (.cells #[.slice A zs.length c] 34) = W0 := ⟨_, rfl⟩
  rw [hW0] at hB3 bO bN hsz ⊢
  clear hW0 hb1 hw0 hb01
  obtain ⟨P, hPe⟩ : ∃ P, P = w.heap.size := ⟨_, rfl⟩
  obtain ⟨B, hBe⟩ : ∃ B, B = P + 1 := ⟨_, rfl⟩
  rw [hs0, ← hPe, ← hBe] at bO
  rw [← hPe] at bP
  rw [← hPe, ← hBe]
  have hBn : w0.heap.size = B := by rw [hs0, hBe, hPe]
  obtain ⟨n₀, hn₀⟩ : ∃ n₀, n₀ = w0.heap.size := ⟨_, rfl⟩
  have hPn : P < n₀ := by omega
  have hnB : n₀ ≤ B := by omega
  have hnW : n₀ ≤ w1.heap.size := by omega
  obtain ⟨Z, hZe⟩ : ∃ Z, Z = w1.heap.size := ⟨_, rfl⟩
  rw [← hZe] at bN hsz hs1 hnW ⊢
  rw [← hn₀] at hB3
  have hvR : ∀ W, Below n₀ w0 W → Below w.heap.size w W := fun W h => hB0.trans (h.mono (by rw [hn₀]; exact hB0.size))
  have HvR := Lib.hid hvR
  have HbP := Lib.hid bP
  have hlz := vals_len zs
  have HPe := Lib.hid hPe
  have HBe := Lib.hid hBe
  have HZe := Lib.hid hZe
  have Hn₀ := Lib.hid hn₀
  have Hs0 := Lib.hid hs0
  have hwn : w.heap.size ≤ n₀ := by omega
  clear hBa hvR bP
  refine wpIn_rangeFunc_ownH rfl (by omega) (gf := 170) (lb := #[.pointer (some ⟨Z, 0, none⟩)]) rfl trivial (enters_of Try.func170 (by kernel_rfl) rfl)
    (values_stops 9 (by omega) Z n₀ A c zs hlen W0 (by omega) (by omega) bN.cell (fun W' h => Hv.out.below (HvR.out _ (hB3.trans h)))) belowK_t (belowK_b (by omega)) (Below.refl _ _) (fun _ => rfl)
    (fun pre W => (∃ v, Boxed W B 34 v ∧ W.ownsRow n₀ 23 32 v (kept p pre).length (ix (kept p pre)) ∧ True) ∧ Below n₀ w0 W)
    (fun _ _ _ => False)
    (OwnFrom.and (Own.from (holdsRow_own n₀ B 34 23 32 (fun pre => (kept p pre).length) (fun pre => ix (kept p pre)) (fun _ _ => True)) _) (ownFrom_below (by omega) (by omega)))
    (fun _ _ _ _ _ hs _ _ => hs)
    ⟨⟨_, bO, own_nil _ _ _ _, trivial⟩, hB3⟩
    (fun x a' W => ∃ Bx, B < Bx ∧ W.heap[Bx]? = some (.cells (bs x.1).toArray 23 (0, 0)) ∧ a' = { tmps := #[.slice A zs.length c, .func (.func 66) #[u] #[], undef, .pointer (some ⟨P, 0, none⟩), .slice none 0 0, .pointer (some ⟨B, 0, none⟩), .pointer (some ⟨Bx, 0, none⟩), .slice A zs.length c, .slice A zs.length c, .func (.func 170) #[] #[.pointer (some ⟨Z, 0, none⟩)], sv x, undef, undef, undef, undef, undef, undef, undef, undef], defers := [] })
    (fun x a' _ X Y row hs hg hr => by
      obtain ⟨Bx, h1, h2, h3⟩ := hs
      refine ⟨Bx, h1, (hg.block Bx (Array.getElem?_eq_some_iff.1 h2).1 (fun e => ?_)).trans h2, h3⟩
      obtain ⟨o, ho, hc⟩ := (hr Bx e.symm).2
      rw [h2] at ho; cases ho; cases hc)
    ?assign ?body ?done ?stop
  all_goals clear hPe hBe hZe hn₀ hs0 hBn
  case assign =>
    rintro l pre x W K ⟨⟨v, hb, ho, -⟩, hB⟩ hK
    have Hi1 := Lib.hid (show (Try.prog.info? 23).map (·.size) = some (bs x.1).length by rw [bs_length, x.2]; rfl)
    have hone := Lib.hid (show (bs x.1).toArray.all (·.oneCell') = true from all_oneCell_toArray (bs_oneCell x.1))
    have HXl := Lib.hid (show (bs x.1).length = 32 by rw [bs_length, x.2])
    have HK := Lib.hid hK
    have hBs : n₀ ≤ W.heap.size := by have := hB.size; have := Hn₀.out; omega
    clear hK
    gi_wp2_with (refine Ord.wpListIn_store_new rfl rfl 23 _ _ rfl (bs x.1) rfl rfl (by rw [HXl.out]; rfl) Hi1.out hone.out ?_)
    exact HK.out _ _ ((KeepsOthers.alloc _ _).from _) ((Below.refl _ W).alloc hBs _) ⟨⟨v, hb.alloc _, own_alloc ho _, trivial⟩, hB.alloc hBs _⟩ ⟨W.heap.size, hb.lt, heap_alloc_new _ _, rfl⟩
  case body =>
    rintro l pre x a' W hl _ ⟨⟨v, hb, ho, -⟩, hB⟩ ⟨Bx, hBx, hx, rfl⟩ hlt
    have hcP : W.cell? ⟨P, 0, none⟩ = some (.func (.func 66) #[u] #[]) := (show Boxed W P 78 _ from (hB.block P (by have := Hn₀.out; omega)).trans HbP.out).cell
    have hxr := range_all hx
    have hBs : n₀ ≤ W.heap.size := by have := hB.size; have := Hn₀.out; omega
    have hks := kept_snoc p pre x
    have hkl := kept_len p pre
    have HFx := Lib.hid (HF.out x.1 W x.2 (HvR.out _ hB))
    have Hi1 := Lib.hid (show (Try.prog.info? 23).map (·.size) = some (bs x.1).length by rw [bs_length, x.2]; rfl)
    have HXl := Lib.hid (show (bs x.1).length = 32 by rw [bs_length, x.2])
    obtain ⟨X, hX⟩ : ∃ X, X = bs x.1 := ⟨_, rfl⟩
    have HX := Lib.hid hX
    rw [← hX] at hx hxr HFx Hi1 HXl
    simp only [sv, ← hX]
    have Hxr := Lib.hid hxr
    have Hx := Lib.hid hx
    have Ho := Lib.hid ho
    have Hb := Lib.hid hb
    have Hks := Lib.hid hks
    clear hxr hx ho hb hks hX
    cases hq : p x.1 with
    | false =>
      rw [hq] at HFx Hks
      clear hq
      gi_wp2_with (first
        | (refine Ord.wpListIn_load_mid rfl rfl 23 _ rfl Bx 0 rfl X _ Hxr.out Try.underlying23 rfl Hi1.out ?_)
        | (refine ⟨trivial, ?_⟩; gi_at_call 66; refine (Ord.callsIn_of_calls rfl HFx.out).mono ?_; rintro e w5 ⟨rfl, hb5⟩))
      exact ⟨(KeepsOthers.of_grownBy (grown_below hb5 none) (by simp)).from _, hb5.mono hBs, ⟨v, Hb.out.kept (grown_below hb5 none) (by simp), by rw [Hks.out, if_neg (by decide)]; exact own_below Ho.out hb5, trivial⟩, hB.trans (hb5.mono hBs)⟩
    | true =>
      rw [hq] at HFx Hks
      clear hq
      obtain ⟨A2, c2, rfl, -, -, -⟩ := (Rd.of_own Ho.out).slice_
      obtain ⟨N2, hN2⟩ : ∃ N2, N2 = (kept p pre).length := ⟨_, rfl⟩
      rw [← hN2] at Hb Ho hkl
      have HN2 := Lib.hid hN2
      clear hN2
      gi_wp2_with (first
        | (refine Ord.wpListIn_load_mid rfl rfl 23 _ rfl Bx 0 rfl X _ Hx5.out Try.underlying23 rfl Hi1.out ?_)
        | (refine Ord.wpListIn_load_mid rfl rfl 23 _ rfl Bx 0 rfl X _ Hxr.out Try.underlying23 rfl Hi1.out ?_)
        | (refine ⟨trivial, ?_⟩; gi_at_call 66; refine (Ord.callsIn_of_calls rfl HFx.out).mono ?_; rintro e w5 ⟨rfl, hb5⟩; have hg5 := grown_below hb5 none; have hc5 := (Hb.out.kept hg5 (by simp)).cell; have Hx5 := Lib.hid (range_all (blk_below Hx.out hb5)))
        | (refine wpListIn_build_one rfl rfl _ rfl X rfl HXl.out ?_)
        | (gi_at_builtin; go_loud (refine wpListIn_app_row rfl elSet rfl (.tmp 14) (.tmp 16) rfl n₀ (.slice A2 N2 c2) _ N2 1 (ix (kept p pre)) X rfl rfl (by rw [HX.out]; exact bs_oneCell x.1) (own_alloc (own_below Ho.out hb5) _) (Rd.lit w5 32 1 X 23 (by rw [HXl.out]) (by simp [maxLen])) (by have := hb5.size; rw [World.size_alloc]; omega) (by omega) (fun v6 w6 ho6 hg6 hat6 => ?_)); obtain ⟨A6, c6, rfl, -, -, -⟩ := (Rd.of_own ho6).slice_; obtain ⟨q1, q2, q3, q4, q5⟩ := boxed_app ((Hb.out.kept hg5 (by simp)).alloc (.cells X.toArray 23)) (by decide) (own_alloc (own_below Ho.out hb5) _) (by have := hb5.size; rw [World.size_alloc]; omega) hnB ho6 hg6; have hc6 := q1.cell; have hf6 := q1.frozen))
      have hs5 : n₀ ≤ w5.heap.size := Nat.le_trans hBs hb5.size
      have hbf := ((hb5.mono hBs).alloc hs5 (.cells X.toArray 23)).trans q5
      exact ⟨(((KeepsOthers.of_grownBy hg5 (by simp)).trans (KeepsOthers.alloc _ _)).trans q4).from _, hbf, ⟨_, q2, by rw [Hks.out, if_pos trivial, List.length_append, List.length_singleton, ← HN2.out, ix_append, ix_one, ← HX.out]; exact q3, trivial⟩, hB.trans hbf⟩
  case done =>
    rintro D ys W hD rfl ⟨⟨v, hb, ho, -⟩, hB⟩ hK
    have hc := hb.cell
    gi_wp2
    refine ⟨by simp, .inl ⟨_, _, rfl, run_takeDeferred hK, ?_⟩⟩
    exact ⟨_, results_tmp rfl _ _ _, _, rfl, by
      have := ownsRow_putObj ho (.deferred none) hK rfl
      exact own_base_le this hwn, hB0.trans ((hB.trans (belowK_b (w := w0) (by have := Hn₀.out; omega) W D _ _ (by omega) hK rfl rfl)).mono hwn)⟩
  case stop =>
    rintro D c pre W _ _ h _
    exact h.elim
set_option maxRecDepth 100000 in
set_option maxHeartbeats 8000000 in
theorem keepLess_any (p : Id → Bool) (l : List Id) (h32 : W32 l) (hlen : l.length ≤ 1000000) (hs : Sorted l) (v : Value) (u : Nat) (w : World) (hv : Rd w 32 v l.length (ix l))
    (hf : ∀ x W, x.length = 32 → Below w.heap.size w W → Calls Try.prog 72 #[.agg (bs x).toArray, .pointer (some ⟨u, 0, none⟩)] W fun r W' => r = .returned (.bool (p x)) ∧ Below W.heap.size W W') :
    Calls Try.prog 71 #[v, .func (.func 72) #[] #[.pointer (some ⟨u, 0, none⟩)]] w fun e w' => ∃ v', e = .returned v' ∧ w'.ownsRow w.heap.size 23 32 v' (l.filter p).length (ix (l.filter p)) ∧ Below w.heap.size w w' := by
  have HR := Lib.hid (fun W (h : Below w.heap.size w W) => right_any v l h32 hs hlen W (hv.below h))
  obtain ⟨zs, rfl⟩ := vals_of h32
  have hvl := vals_len zs
  rw [hvl] at hv hlen
  obtain ⟨A, c, rfl, hc1, hc2, -⟩ := hv.slice_
  have Hv := Lib.hid hv
  have HF := Lib.hid hf
  have hBa := below_two w (.cells #[.func (.func 72) #[] #[.pointer (some ⟨u, 0, none⟩)]] 78) (.cells #[.slice none 0 0] 34)
  clear hv h32 hf hs
  refine callsIn_wide (n := 10).1 ?_
  refine callsIn_of_wp_marks Try.func71 rfl trivial ?_ rfl
  simp only [Try.ntmps71, List.size_toArray, List.length_cons, List.length_nil, Nat.reduceAdd, Nat.reduceSub, Array.replicate_succ, Array.replicate_zero, List.push_toArray, List.append_toArray, List.nil_append, List.cons_append]
  gi_wp2_with (first
    | (refine ⟨trivial, ?_⟩; gi_at_call 70; refine (Ord.callsIn_of_calls rfl (HR.out _ hBa)).mono ?_; rintro e w1 ⟨rfl, hb1⟩)
    | (refine ⟨trivial, ?_⟩; gi_at_call 85; refine (All_in _ _ _ _ _).mono ?_; rintro e w' ⟨rfl, rfl⟩))
  obtain ⟨w0, hw0⟩ : ∃ w0, w.alloc (.cells #[.func (.func 72) #[] #[.pointer (some ⟨u, 0, none⟩)]] 78) = w0 := ⟨_, rfl⟩
  have hs0 : w0.heap.size = w.heap.size + 1 := by rw [← hw0]; simp
  have hB0 : Below w.heap.size w w0 := by rw [← hw0]; exact below_one _ _
  have bP : Boxed w0 w.heap.size 78 (.func (.func 72) #[] #[.pointer (some ⟨u, 0, none⟩)]) := by rw [← hw0]; exact Boxed.new w _ _
  rw [hw0] at hb1 hBa
  have hb01 : Below w0.heap.size w0 w1 := below_go hb1 (below_one _ _)
  have bO := (((Boxed.new w0 34 (.slice none 0 0)).kept (grown_below hb1 none) (by simp))).alloc (.cells #[.slice A zs.length c] 34)
  have bN := Boxed.new w1 34 (.slice A zs.length c)
  have hB3 := hb01.alloc hb01.size (.cells #[.slice A zs.length c] 34)
  have hs1 : w0.heap.size + 1 ≤ w1.heap.size := by have := hb1.size; simpa using this
  have hsz : (w1.alloc (.cells #[.slice A zs.length c] 34)).heap.size = w1.heap.size + 1 := by simp
  obtain ⟨W0, hW0⟩ : ∃ W0, w1.alloc (.cells #[.slice A zs.length c] 34) = W0 := ⟨_, rfl⟩
  rw [hW0] at hB3 bO bN hsz ⊢
  clear hW0 hb1 hw0 hb01
  obtain ⟨P, hPe⟩ : ∃ P, P = w.heap.size := ⟨_, rfl⟩
  obtain ⟨B, hBe⟩ : ∃ B, B = P + 1 := ⟨_, rfl⟩
  rw [hs0, ← hPe, ← hBe] at bO
  rw [← hPe] at bP
  rw [← hPe, ← hBe]
  have hBn : w0.heap.size = B := by rw [hs0, hBe, hPe]
  obtain ⟨n₀, hn₀⟩ : ∃ n₀, n₀ = w0.heap.size := ⟨_, rfl⟩
  have hPn : P < n₀ := by omega
  have hnB : n₀ ≤ B := by omega
  have hnW : n₀ ≤ w1.heap.size := by omega
  obtain ⟨Z, hZe⟩ : ∃ Z, Z = w1.heap.size := ⟨_, rfl⟩
  rw [← hZe] at bN hsz hs1 hnW ⊢
  rw [← hn₀] at hB3
  have hvR : ∀ W, Below n₀ w0 W → Below w.heap.size w W := fun W h => hB0.trans (h.mono (by rw [hn₀]; exact hB0.size))
  have HvR := Lib.hid hvR
  have HbP := Lib.hid bP
  have hlz := vals_len zs
  have HPe := Lib.hid hPe
  have HBe := Lib.hid hBe
  have HZe := Lib.hid hZe
  have Hn₀ := Lib.hid hn₀
  have Hs0 := Lib.hid hs0
  have hwn : w.heap.size ≤ n₀ := by omega
  clear hBa hvR bP
  refine wpIn_rangeFunc_ownH rfl (by omega) (gf := 170) (lb := #[.pointer (some ⟨Z, 0, none⟩)]) rfl trivial (enters_of Try.func170 (by kernel_rfl) rfl)
    (values_stops 9 (by omega) Z n₀ A c zs hlen W0 (by omega) (by omega) bN.cell (fun W' h => Hv.out.below (HvR.out _ (hB3.trans h)))) belowK_t (belowK_b (by omega)) (Below.refl _ _) (fun _ => rfl)
    (fun pre W => (∃ v, Boxed W B 34 v ∧ W.ownsRow n₀ 23 32 v (kept p pre).length (ix (kept p pre)) ∧ True) ∧ Below n₀ w0 W)
    (fun _ _ _ => False)
    (OwnFrom.and (Own.from (holdsRow_own n₀ B 34 23 32 (fun pre => (kept p pre).length) (fun pre => ix (kept p pre)) (fun _ _ => True)) _) (ownFrom_below (by omega) (by omega)))
    (fun _ _ _ _ _ hs _ _ => hs)
    ⟨⟨_, bO, own_nil _ _ _ _, trivial⟩, hB3⟩
    (fun x a' W => ∃ Bx, B < Bx ∧ W.heap[Bx]? = some (.cells (bs x.1).toArray 23 (0, 0)) ∧ a' = { tmps := #[.slice A zs.length c, .func (.func 72) #[] #[.pointer (some ⟨u, 0, none⟩)], undef, .pointer (some ⟨P, 0, none⟩), .slice none 0 0, .pointer (some ⟨B, 0, none⟩), .pointer (some ⟨Bx, 0, none⟩), .slice A zs.length c, .slice A zs.length c, .func (.func 170) #[] #[.pointer (some ⟨Z, 0, none⟩)], sv x, undef, undef, undef, undef, undef, undef, undef, undef], defers := [] })
    (fun x a' _ X Y row hs hg hr => by
      obtain ⟨Bx, h1, h2, h3⟩ := hs
      refine ⟨Bx, h1, (hg.block Bx (Array.getElem?_eq_some_iff.1 h2).1 (fun e => ?_)).trans h2, h3⟩
      obtain ⟨o, ho, hc⟩ := (hr Bx e.symm).2
      rw [h2] at ho; cases ho; cases hc)
    ?assign ?body ?done ?stop
  all_goals clear hPe hBe hZe hn₀ hs0 hBn
  case assign =>
    rintro l pre x W K ⟨⟨v, hb, ho, -⟩, hB⟩ hK
    have Hi1 := Lib.hid (show (Try.prog.info? 23).map (·.size) = some (bs x.1).length by rw [bs_length, x.2]; rfl)
    have hone := Lib.hid (show (bs x.1).toArray.all (·.oneCell') = true from all_oneCell_toArray (bs_oneCell x.1))
    have HXl := Lib.hid (show (bs x.1).length = 32 by rw [bs_length, x.2])
    have HK := Lib.hid hK
    have hBs : n₀ ≤ W.heap.size := by have := hB.size; have := Hn₀.out; omega
    clear hK
    gi_wp2_with (refine Ord.wpListIn_store_new rfl rfl 23 _ _ rfl (bs x.1) rfl rfl (by rw [HXl.out]; rfl) Hi1.out hone.out ?_)
    exact HK.out _ _ ((KeepsOthers.alloc _ _).from _) ((Below.refl _ W).alloc hBs _) ⟨⟨v, hb.alloc _, own_alloc ho _, trivial⟩, hB.alloc hBs _⟩ ⟨W.heap.size, hb.lt, heap_alloc_new _ _, rfl⟩
  case body =>
    rintro l pre x a' W hl _ ⟨⟨v, hb, ho, -⟩, hB⟩ ⟨Bx, hBx, hx, rfl⟩ hlt
    have hcP : W.cell? ⟨P, 0, none⟩ = some (.func (.func 72) #[] #[.pointer (some ⟨u, 0, none⟩)]) := (show Boxed W P 78 _ from (hB.block P (by have := Hn₀.out; omega)).trans HbP.out).cell
    have hxr := range_all hx
    have hBs : n₀ ≤ W.heap.size := by have := hB.size; have := Hn₀.out; omega
    have hks := kept_snoc p pre x
    have hkl := kept_len p pre
    have HFx := Lib.hid (HF.out x.1 W x.2 (HvR.out _ hB))
    have Hi1 := Lib.hid (show (Try.prog.info? 23).map (·.size) = some (bs x.1).length by rw [bs_length, x.2]; rfl)
    have HXl := Lib.hid (show (bs x.1).length = 32 by rw [bs_length, x.2])
    obtain ⟨X, hX⟩ : ∃ X, X = bs x.1 := ⟨_, rfl⟩
    have HX := Lib.hid hX
    rw [← hX] at hx hxr HFx Hi1 HXl
    simp only [sv, ← hX]
    have Hxr := Lib.hid hxr
    have Hx := Lib.hid hx
    have Ho := Lib.hid ho
    have Hb := Lib.hid hb
    have Hks := Lib.hid hks
    clear hxr hx ho hb hks hX
    cases hq : p x.1 with
    | false =>
      rw [hq] at HFx Hks
      clear hq
      gi_wp2_with (first
        | (refine Ord.wpListIn_load_mid rfl rfl 23 _ rfl Bx 0 rfl X _ Hxr.out Try.underlying23 rfl Hi1.out ?_)
        | (refine ⟨trivial, ?_⟩; gi_at_call 72; refine (Ord.callsIn_of_calls rfl HFx.out).mono ?_; rintro e w5 ⟨rfl, hb5⟩))
      exact ⟨(KeepsOthers.of_grownBy (grown_below hb5 none) (by simp)).from _, hb5.mono hBs, ⟨v, Hb.out.kept (grown_below hb5 none) (by simp), by rw [Hks.out, if_neg (by decide)]; exact own_below Ho.out hb5, trivial⟩, hB.trans (hb5.mono hBs)⟩
    | true =>
      rw [hq] at HFx Hks
      clear hq
      obtain ⟨A2, c2, rfl, -, -, -⟩ := (Rd.of_own Ho.out).slice_
      obtain ⟨N2, hN2⟩ : ∃ N2, N2 = (kept p pre).length := ⟨_, rfl⟩
      rw [← hN2] at Hb Ho hkl
      have HN2 := Lib.hid hN2
      clear hN2
      gi_wp2_with (first
        | (refine Ord.wpListIn_load_mid rfl rfl 23 _ rfl Bx 0 rfl X _ Hx5.out Try.underlying23 rfl Hi1.out ?_)
        | (refine Ord.wpListIn_load_mid rfl rfl 23 _ rfl Bx 0 rfl X _ Hxr.out Try.underlying23 rfl Hi1.out ?_)
        | (refine ⟨trivial, ?_⟩; gi_at_call 72; refine (Ord.callsIn_of_calls rfl HFx.out).mono ?_; rintro e w5 ⟨rfl, hb5⟩; have hg5 := grown_below hb5 none; have hc5 := (Hb.out.kept hg5 (by simp)).cell; have Hx5 := Lib.hid (range_all (blk_below Hx.out hb5)))
        | (refine wpListIn_build_one rfl rfl _ rfl X rfl HXl.out ?_)
        | (gi_at_builtin; go_loud (refine wpListIn_app_row rfl elSet rfl (.tmp 14) (.tmp 16) rfl n₀ (.slice A2 N2 c2) _ N2 1 (ix (kept p pre)) X rfl rfl (by rw [HX.out]; exact bs_oneCell x.1) (own_alloc (own_below Ho.out hb5) _) (Rd.lit w5 32 1 X 23 (by rw [HXl.out]) (by simp [maxLen])) (by have := hb5.size; rw [World.size_alloc]; omega) (by omega) (fun v6 w6 ho6 hg6 hat6 => ?_)); obtain ⟨A6, c6, rfl, -, -, -⟩ := (Rd.of_own ho6).slice_; obtain ⟨q1, q2, q3, q4, q5⟩ := boxed_app ((Hb.out.kept hg5 (by simp)).alloc (.cells X.toArray 23)) (by decide) (own_alloc (own_below Ho.out hb5) _) (by have := hb5.size; rw [World.size_alloc]; omega) hnB ho6 hg6; have hc6 := q1.cell; have hf6 := q1.frozen))
      have hs5 : n₀ ≤ w5.heap.size := Nat.le_trans hBs hb5.size
      have hbf := ((hb5.mono hBs).alloc hs5 (.cells X.toArray 23)).trans q5
      exact ⟨(((KeepsOthers.of_grownBy hg5 (by simp)).trans (KeepsOthers.alloc _ _)).trans q4).from _, hbf, ⟨_, q2, by rw [Hks.out, if_pos trivial, List.length_append, List.length_singleton, ← HN2.out, ix_append, ix_one, ← HX.out]; exact q3, trivial⟩, hB.trans hbf⟩
  case done =>
    rintro D ys W hD rfl ⟨⟨v, hb, ho, -⟩, hB⟩ hK
    have hc := hb.cell
    gi_wp2
    refine ⟨by simp, .inl ⟨_, _, rfl, run_takeDeferred hK, ?_⟩⟩
    exact ⟨_, results_tmp rfl _ _ _, _, rfl, by
      have := ownsRow_putObj ho (.deferred none) hK rfl
      exact own_base_le this hwn, hB0.trans ((hB.trans (belowK_b (w := w0) (by have := Hn₀.out; omega) W D _ _ (by omega) hK rfl rfl)).mono hwn)⟩
  case stop =>
    rintro D c pre W _ _ h _
    exact h.elim
end Go.Proofs.Ytpldkplfdbjidaa.Ids
