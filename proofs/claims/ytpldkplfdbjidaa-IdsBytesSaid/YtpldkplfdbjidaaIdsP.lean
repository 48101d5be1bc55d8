/- Ids' walks: slices.Values at sums; All; Put. -/
import Derived.Test.YtpldkplfdbjidaaIn
import Derived.Test.YtpldkplfdbjidaaIdsW
import Derived.Test.YtpldkplfdbjidaaLayW
import Derived.Test.YtpldkplfdbjidaaAppO
import Derived.RangeFuncNested
import Derived.RangeFuncBound
import Derived.RangeFuncCalls
import Derived.RangeFuncLeaves
import Derived.Shelf.Abstract
import Derived.Shelf.RegionOpen
import Derived.WalkKit
import Derived.OwnWalkIn
import Derived.TacticsInMore
import Derived.LoopNIn
import Derived.LoopIn
set_option linter.unusedVariables false
set_option linter.unusedSimpArgs false
namespace Go.Proofs.Ytpldkplfdbjidaa.Ids
open Go.RowKit Go.Shelf Go.Proofs.Ytpldkplfdbjidaa.Wd Go.Proofs.Ytpldkplfdbjidaa.Use Go.Proofs.Ytpldkplfdbjidaa.Lay
attribute [local go_sem] Oper.semAt_some

/-- a sum's 32 bytes -/
abbrev I32 := { x : Id // x.length = 32 }
def vals (zs : List I32) : List Id := zs.map Subtype.val
theorem vals_w (zs : List I32) : W32 (vals zs) := by intro i hi; obtain ⟨x, _, rfl⟩ := List.mem_map.1 hi; exact x.2
theorem vals_len (zs : List I32) : (vals zs).length = zs.length := List.length_map _
theorem vals_of {l : List Id} (h : W32 l) : ∃ zs, vals zs = l := by
  induction l with
  | nil => exact ⟨[], rfl⟩
  | cons x l ih => obtain ⟨zs, h2⟩ := ih (fun i hi => h i (List.mem_cons_of_mem _ hi)); exact ⟨⟨x, h x List.mem_cons_self⟩ :: zs, by subst h2; rfl⟩
theorem take_snoc {α : Type} (l : List α) {k : Nat} (h : k < l.length) : l.take (k + 1) = l.take k ++ [l[k]] := by
  rw [List.take_add_one, List.getElem?_eq_getElem h]; rfl

abbrev sv (x : I32) : Value := .agg (bs x.1).toArray
set_option maxRecDepth 100000 in
set_option maxHeartbeats 2000000 in
theorem values1_in (n : Nat) (hn : 1 ≤ n) (l Bs n₀ : Nat) (A : Option Addr) (c : Nat) (zs : List I32) (hlen : zs.length ≤ 1000000) (J Jx : List I32 → World → Prop)
    (hY : ∀ pre x W, J pre W → pre.length < zs.length → YieldAt Fence.wide (n - 1) Try.prog l #[sv x] W fun e W' =>
      (e = .returned (.bool true) ∧ J (pre ++ [x]) W' ∧ Below n₀ W W') ∨ (e = .returned (.bool false) ∧ Jx (pre ++ [x]) W'))
    (hJ : ∀ pre W o, n₀ ≤ W.heap.size → J pre W → J pre (W.alloc o))
    (W : World) (hn₀ : n₀ ≤ W.heap.size) (hBs : W.cell? ⟨Bs, 0, none⟩ = some (.slice A zs.length c)) (hR : ∀ W', Below n₀ W W' → Rd W' 32 (.slice A zs.length c) zs.length (ix (vals zs))) (h0 : J [] W) :
    CallsIn Fence.wide n Try.prog 170 #[.func (.yield l) #[] #[], .pointer (some ⟨Bs, 0, none⟩)] W fun e W' => (∃ v, e = .returned v) ∧
      ((∃ ys, ys = zs ∧ J ys W') ∨ (∃ pre, pre <+: zs ∧ Jx pre W')) := by
  have HR := Lib.hid hR
  have HY := Lib.hid hY
  have HJ := Lib.hid hJ
  clear hR hY hJ
  refine callsIn_of_wp Try.func170 rfl trivial ?_ rfl
  simp only [Try.ntmps170, List.size_toArray, List.length_cons, List.length_nil, Nat.reduceAdd, Nat.reduceSub, Array.replicate_succ, Array.replicate_zero, List.push_toArray, List.append_toArray, List.nil_append, List.cons_append]
  gi_wp2
  gi_loopw [7] (fun i wr => ∃ k : Nat, k ≤ zs.length ∧ i = .int .i64 k ∧ J (zs.take k) wr ∧ Below n₀ W wr)
    (fun i _ => zs.length - (intOf i).toNat)
  case atStart => exact ⟨0, Nat.zero_le _, rfl, by simpa using h0, Below.refl _ _⟩
  case round =>
    obtain ⟨k, hk, rfl, hJs, hnx⟩ := hrel
    by_cases hlt : k < zs.length
    · have hvl := vals_len zs
      obtain ⟨b, off, rfl, hr⟩ := ix_at (HR.out _ hnx) (vals_w zs) hvl.symm (by omega)
      have hr1 := hr k hlt
      have hgx : (vals zs).getD k [] = (zs[k]'hlt).1 := by
        rw [List.getD_eq_getElem?_getD, List.getElem?_eq_getElem (by omega)]; simp [vals]
      rw [hgx] at hr1
      obtain ⟨x, hx⟩ : ∃ x, x = zs[k]'hlt := ⟨_, rfl⟩
      have hts := take_snoc zs hlt
      rw [← hx] at hr1 hts
      have hd1 : decide ((k : Int) < (zs.length : Int)) = true := decide_eq_true (by omega)
      have hi3 : (0 : Int) ≤ (k : Int) := by omega
      have hi4 : (k : Int) < (zs.length : Int) := by omega
      have hw0 : n₀ ≤ wr.heap.size := Nat.le_trans hn₀ hnx.size
      have hJ1 := HJ.out _ _ (.cells (bs x.1).toArray 23) hw0 hJs
      obtain ⟨fn, tmps, assign, body, hy, hRd⟩ := HY.out _ x _ hJ1 (by rw [List.length_take]; omega)
      obtain ⟨X, hX⟩ : ∃ X, X = bs x.1 := ⟨_, rfl⟩
      have Hi1 := Lib.hid (show (Try.prog.info? 23).map (·.size) = some X.length by rw [hX, bs_length, x.2]; rfl)
      have hone := Lib.hid (show X.toArray.all (·.oneCell') = true by rw [hX]; exact all_oneCell_toArray (bs_oneCell x.1))
      have hXl : X.length = 32 := by rw [hX, bs_length, x.2]
      have HXl := Lib.hid hXl
      rw [← hX] at hr1 hJ1 hRd
      simp only [sv, ← hX] at hy
      have Hr1 := Lib.hid hr1
      have Hra := Lib.hid (show (wr.alloc (.cells X.toArray 23)).rangeAt wr.heap.size 0 X from range_all (t := 23) (heap_alloc_new _ _))
      clear hr1 hr hgx hXl hX
      gi_wp2_with (first
        | (refine Ord.wpListIn_load_mid rfl rfl 23 _ rfl b (off + k * 32) rfl X _ Hr1.out Try.underlying23 rfl Hi1.out ?_)
        | (refine Ord.wpListIn_store_new rfl rfl 23 _ _ rfl X rfl rfl (by rw [HXl.out]; rfl) Hi1.out hone.out ?_)
        | (refine Ord.wpListIn_load_mid rfl rfl 23 _ rfl wr.heap.size 0 rfl X _ Hra.out Try.underlying23 rfl Hi1.out ?_))
      refine hRd.mono ?_
      clear hRd
      rintro e W3 (⟨rfl, hJ3, hk3⟩ | ⟨rfl, hJx3⟩)
      · have hB3 := (hnx.alloc hw0 (.cells X.toArray 23)).trans hk3
        rw [← hts] at hJ3
        gi_wp2
        go_roundw
        case rel => exact ⟨k + 1, by omega, by go_num, hJ3, hB3⟩
        case measure => simp [intOf]; omega
      · gi_wp2
        refine bodyPost_ret (results_none rfl _ _ _) rfl ?_
        exact ⟨⟨_, rfl⟩, .inr ⟨_, by rw [← hts]; exact List.take_prefix _ _, hJx3⟩⟩
    · obtain rfl : k = zs.length := by omega
      have hd1 : decide ((zs.length : Int) < (zs.length : Int)) = false := decide_eq_false (by omega)
      gi_wp2
      go_end0
      exact ⟨⟨_, rfl⟩, .inl ⟨_, rfl, by simpa using hJs⟩⟩
set_option maxHeartbeats 1000000 in
theorem values_in (n : Nat) (A : Option Addr) (m c : Nat) (w : World) :
    CallsIn Fence.wide n Try.prog 128 #[.slice A m c] w fun e w' => e = .returned (.func (.func 170) #[] #[.pointer (some ⟨w.heap.size, 0, none⟩)]) ∧ w' = w.alloc (.cells #[.slice A m c] 34) := by
  refine callsIn_of_wp Try.func128 rfl trivial ?_ rfl
  simp only [Try.ntmps128, List.size_toArray, List.length_cons, List.length_nil, Nat.reduceAdd, Nat.reduceSub, Array.replicate_succ, Array.replicate_zero, List.push_toArray, List.append_toArray, List.nil_append, List.cons_append]
  gi_wp2
  exact ⟨rfl, _, results_tmp rfl _ _ _, rfl, rfl⟩
set_option maxHeartbeats 1000000 in
theorem All_in (n : Nat) (A : Option Addr) (m c : Nat) (w : World) :
    CallsIn Fence.wide n Try.prog 85 #[.slice A m c] w fun e w' => e = .returned (.func (.func 170) #[] #[.pointer (some ⟨w.heap.size, 0, none⟩)]) ∧ w' = w.alloc (.cells #[.slice A m c] 34) := by
  refine callsIn_of_wp Try.func85 rfl trivial ?_ rfl
  simp only [Try.ntmps85, List.size_toArray, List.length_cons, List.length_nil, Nat.reduceAdd, Nat.reduceSub, Array.replicate_succ, Array.replicate_zero, List.push_toArray, List.append_toArray, List.nil_append, List.cons_append]
  gi_wp2_with (refine ⟨trivial, fun h => (by cases h), ?_⟩; refine (values_in (n - 1) A m c w).mono ?_; rintro e w' ⟨rfl, rfl⟩)
  exact ⟨rfl, _, results_tmp rfl _ _ _, rfl, rfl⟩
theorem values_stops (n : Nat) (hn : 1 ≤ n) (Bs n₀ : Nat) (A : Option Addr) (c : Nat) (zs : List I32) (hlen : zs.length ≤ 1000000) (w : World) (hBs : Bs < w.heap.size) (hn₀ : n₀ ≤ w.heap.size)
    (hc : w.cell? ⟨Bs, 0, none⟩ = some (.slice A zs.length c)) (hR : ∀ W', Below n₀ w W' → Rd W' 32 (.slice A zs.length c) zs.length (ix (vals zs))) :
    SeqStopsK Fence.wide n Try.prog 170 #[.pointer (some ⟨Bs, 0, none⟩)] (fun x : I32 => #[sv x]) (Below n₀) (fun ys => ys = zs) (fun pre => pre <+: zs) zs.length w := fun l J Jx W hW hJ _ hY h0 =>
  values1_in n hn l Bs n₀ A c zs hlen J Jx hY (fun pre W o _ h => hJ pre W (W.alloc o) none h (World.grownBy_alloc W o none) (fun r e => by cases e)) W (Nat.le_trans hn₀ hW.size)
    ((hW.cell (p := ⟨Bs, 0, none⟩) hBs).trans hc) (fun W' h => hR W' ((hW.mono hn₀).trans h)) h0

theorem own_base_le {w : World} {base base' : Nat} {e : TypeId} {size n : Nat} {v : Value} {xs : List Value} (h : w.ownsRow base e size v n xs) (hb : base' ≤ base) : w.ownsRow base' e size v n xs :=
  ⟨h.1, h.2.elim .inl (fun ⟨g, cap, cur, e, h1, r⟩ => .inr ⟨g, cap, cur, e, Nat.le_trans hb h1, r⟩)⟩
/-- what a loop that appends owes, where nothing is laid for what is appended -/
theorem boxed_app {W w1 : World} {n₀ B : Nat} {t e : TypeId} {size : Nat} {v v' : Value} {k m : Nat} {xs ys : List Value}
    (hv : Boxed W B t v) (hte : t ≠ e) (hrow : W.ownsRow n₀ e size v k xs) (hn₀ : n₀ ≤ W.heap.size) (hB : n₀ ≤ B)
    (hown' : w1.ownsRow n₀ e size v' m ys) (hgrow : W.grownBy w1 v.ownBlock) :
    Boxed w1 B t v ∧ Boxed (w1.setCell ⟨B, 0, none⟩ v') B t v' ∧ (w1.setCell ⟨B, 0, none⟩ v').ownsRow n₀ e size v' m ys ∧ KeepsOthers W (w1.setCell ⟨B, 0, none⟩ v') ∧ Below n₀ W (w1.setCell ⟨B, 0, none⟩ v') := by
  have hv1 : Boxed w1 B t v := hv.kept hgrow (hv.not_row hte hrow)
  refine ⟨hv1, hv1.set v', hown'.kept (grownBy_setCell' w1 B v') (.inr (hv1.not_row hte hown').symm), ?_, ?_⟩
  · refine (KeepsOthers.of_grownBy hgrow fun j o ej hj => ?_).trans (KeepsOthers.setCell _ _ _)
    rcases hrow.2 with ⟨rfl, _⟩ | ⟨g, cap, cur, rfl, _, hgb, _⟩
    · simp [Value.ownBlock] at ej
    · obtain rfl : g = j := by simpa [Value.ownBlock] using ej
      rw [hgb] at hj; cases hj; rfl
  · refine ((Below.refl n₀ W).grown hgrow hn₀ fun j ej => ?_).setCell (p := ⟨B, 0, none⟩) hB v'
    rcases hrow.2 with ⟨rfl, _⟩ | ⟨g, cap, cur, rfl, hb, _, _⟩
    · simp [Value.ownBlock] at ej
    · obtain rfl : g = j := by simpa [Value.ownBlock] using ej
      exact hb
theorem putN_le (v : Nat) (h : v < 18446744073709551616) : (putN v).length ≤ 9 := by rw [putN_length]; have := blen_le h; omega
/-- a set's bytes, so many ids through -/
def putTo (m : Nat) (pre : List I32) : List UInt8 := putN m ++ (vals pre).flatten
theorem putTo_snoc (m : Nat) (pre : List I32) (x : I32) : putTo m (pre ++ [x]) = putTo m pre ++ x.1 := by simp [putTo, vals]
theorem putTo_len (m : Nat) (pre : List I32) : (putTo m pre).length = (putN m).length + pre.length * 32 := by rw [putTo, List.length_append, (vals_w pre).flat, vals_len]
set_option maxRecDepth 100000 in
set_option maxHeartbeats 4000000 in
theorem Put_any (v : Value) (l : List Id) (h32 : W32 l) (hlen : l.length ≤ 1000000) (w : World) (hv : Rd w 32 v l.length (ix l)) :
    Calls Try.prog 28 #[v] w fun e w' => ∃ v', e = .returned v' ∧ w'.ownsRow w.heap.size 5 1 v' (put l).length (bs (put l)) ∧ Below w.heap.size w w' := by
  obtain ⟨zs, rfl⟩ := vals_of h32
  have hvl := vals_len zs
  rw [hvl] at hv hlen
  obtain ⟨A, c, rfl, hc1, hc2, -⟩ := hv.slice_
  have hN : zs.length < 18446744073709551616 := by omega
  have hpN := putN_le zs.length hN
  have HP : Hid (∀ W : World, Calls Try.prog 84 #[.slice none 0 0, .slice (some ⟨W.heap.size, 0, none⟩) 1 1] (W.alloc (.cells #[.int .u64 (zs.length : Int)] 67)) fun e w' => ∃ v, e = .returned v ∧ w'.ownsRow (W.alloc (.cells #[.int .u64 (zs.length : Int)] 67)).heap.size 5 1 v (putTo zs.length []).length (bs (putTo zs.length [])) ∧ Below (W.alloc (.cells #[.int .u64 (zs.length : Int)] 67)).heap.size (W.alloc (.cells #[.int .u64 (zs.length : Int)] 67)) w') := Lib.hid (fun W => by
    have hP := Lay.PutNumber_any _ _ [] [zs.length] _ (Rd.nil _ _) (Rd.lit W 1 1 [.int .u64 (zs.length : Int)] 67 rfl (by simp [maxLen])) (by simpa using hN) (by simp; omega)
    have he : [] ++ [zs.length].flatMap putN = putTo zs.length [] := by simp [putTo, vals]
    rw [he] at hP
    exact hP)
  have hw : IntKind.u64.wrap (zs.length : Int) = (zs.length : Int) := by rw [IntKind.wrap_u64]; omega
  have Hv := Lib.hid hv
  clear hv h32
  refine callsIn_wide (n := 10).1 ?_
  refine callsIn_of_wp_marks Try.func28 rfl trivial ?_ rfl
  simp only [Try.ntmps28, List.size_toArray, List.length_cons, List.length_nil, Nat.reduceAdd, Nat.reduceSub, Array.replicate_succ, Array.replicate_zero, List.push_toArray, List.append_toArray, List.nil_append, List.cons_append]
  gi_wp2_with (first
    | (refine ⟨trivial, ?_⟩; gi_at_call 84; refine (Ord.callsIn_of_calls rfl (HP.out w)).mono ?_; rintro e w1 ⟨v1, rfl, ho1, hb1⟩; obtain ⟨A1, c1, rfl, -, -, -⟩ := (Rd.of_own ho1).slice_)
    | (refine ⟨trivial, ?_⟩; gi_at_call 85; refine (All_in _ _ _ _ _).mono ?_; rintro e w' ⟨rfl, rfl⟩))
  have hB2 : Below w.heap.size w w1 := below_go hb1 (below_one _ _)
  have hB3 := (hB2.alloc hB2.size (.cells #[.slice A1 (putTo zs.length []).length c1] 39)).alloc (by have := hB2.size; simp; omega) (.cells #[.slice A zs.length c] 34)
  have bO := (Boxed.new w1 39 (.slice A1 (putTo zs.length []).length c1)).alloc (.cells #[.slice A zs.length c] 34)
  have bN := Boxed.new (w1.alloc (.cells #[.slice A1 (putTo zs.length []).length c1] 39)) 34 (.slice A zs.length c)
  rw [World.size_alloc] at bN
  have hsz : ((w1.alloc (.cells #[.slice A1 (putTo zs.length []).length c1] 39)).alloc (.cells #[.slice A zs.length c] 34)).heap.size = w1.heap.size + 2 := by simp
  have hO3 := own_alloc (own_alloc ((own_base_le ho1 (show w.heap.size ≤ _ by simp))) (.cells #[.slice A1 (putTo zs.length []).length c1] 39)) (.cells #[.slice A zs.length c] 34)
  have hs1 := hB2.size
  obtain ⟨W0, hW0⟩ : ∃ W0, (w1.alloc (.cells #[.slice A1 (putTo zs.length []).length c1] 39)).alloc (.cells #[.slice A zs.length c] 34) = W0 := ⟨_, rfl⟩
  rw [hW0] at hB3 bO bN hsz hO3 ⊢
  clear hW0 ho1 hb1
  obtain ⟨B, hBe⟩ : ∃ B, B = w1.heap.size := ⟨_, rfl⟩
  rw [← hBe] at bO bN hsz hs1 ⊢
  clear hBe
  refine wpIn_rangeFunc_ownH rfl (by omega) (gf := 170) (lb := #[.pointer (some ⟨B + 1, 0, none⟩)]) rfl trivial (enters_of Try.func170 (by kernel_rfl) rfl)
    (values_stops 9 (by omega) (B + 1) w.heap.size A c zs hlen W0 (by omega) (by omega) bN.cell (fun W' h => Hv.out.below (hB3.trans h))) belowK_t (belowK_b (by omega)) (Below.refl _ _) (fun _ => rfl)
    (fun pre W => (∃ v, Boxed W B 39 v ∧ W.ownsRow w.heap.size 5 1 v (putTo zs.length pre).length (bs (putTo zs.length pre)) ∧ True) ∧ Below w.heap.size w W)
    (fun _ _ _ => False)
    (OwnFrom.and (Own.from (holdsRow_own w.heap.size B 39 5 1 (fun pre => (putTo zs.length pre).length) (fun pre => bs (putTo zs.length pre)) (fun _ _ => True)) _) (ownFrom_below (Nat.le_refl _) (by omega)))
    (fun _ _ _ _ _ hs _ _ => hs)
    ⟨⟨_, bO, hO3, trivial⟩, hB3⟩
    (fun x a' W => ∃ Bx, B < Bx ∧ W.heap[Bx]? = some (.cells (bs x.1).toArray 23 (0, 0)) ∧ a' = { tmps := #[.slice A zs.length c, undef, .slice none 0 0, .pointer (some ⟨B, 0, none⟩), .pointer (some ⟨Bx, 0, none⟩), .slice A zs.length c, .int .i64 zs.length, .int .u64 zs.length, .slice (some ⟨w.heap.size, 0, none⟩) 1 1, .slice A1 (putTo zs.length []).length c1, .slice A zs.length c, .func (.func 170) #[] #[.pointer (some ⟨B + 1, 0, none⟩)], sv x, undef, undef, undef, undef], defers := [] })
    (fun x a' _ X Y row hs hg hr => by
      obtain ⟨Bx, h1, h2, h3⟩ := hs
      refine ⟨Bx, h1, (hg.block Bx (Array.getElem?_eq_some_iff.1 h2).1 (fun e => ?_)).trans h2, h3⟩
      obtain ⟨o, ho, hc⟩ := (hr Bx e.symm).2
      rw [h2] at ho; cases ho; cases hc)
    ?assign ?body ?done ?stop
  case assign =>
    rintro l pre x W K ⟨⟨v, hb, ho, -⟩, hB⟩ hK
    have Hi1 := Lib.hid (show (Try.prog.info? 23).map (·.size) = some (bs x.1).length by rw [bs_length, x.2]; rfl)
    have hone := Lib.hid (show (bs x.1).toArray.all (·.oneCell') = true from all_oneCell_toArray (bs_oneCell x.1))
    have HXl := Lib.hid (show (bs x.1).length = 32 by rw [bs_length, x.2])
    have HK := Lib.hid hK
    clear hK
    gi_wp2_with (refine Ord.wpListIn_store_new rfl rfl 23 _ _ rfl (bs x.1) rfl rfl (by rw [HXl.out]; rfl) Hi1.out hone.out ?_)
    exact HK.out _ _ ((KeepsOthers.alloc _ _).from _) ((Below.refl _ W).alloc hB.size _) ⟨⟨v, hb.alloc _, own_alloc ho _, trivial⟩, hB.alloc hB.size _⟩ ⟨W.heap.size, hb.lt, heap_alloc_new _ _, rfl⟩
  case body =>
    rintro l pre x a' W hl _ ⟨⟨v, hb, ho, -⟩, hB⟩ ⟨Bx, hBx, hx, rfl⟩ hlt
    obtain ⟨A2, c2, rfl, -, -, -⟩ := (Rd.of_own ho).slice_
    have hc := hb.cell
    have hpl := putTo_len zs.length pre
    obtain ⟨N2, hN2⟩ : ∃ N2, N2 = (putTo zs.length pre).length := ⟨_, rfl⟩
    rw [← hN2] at hb ho hc hpl
    have hwd : W.drew.heap.size = W.heap.size := rfl
    have hxr := rd_blk32 (W := W.drew) (g := Bx) (l := x.1) (t := 23) hx x.2
    rw [x.2] at hxr
    have Hx := Lib.hid hxr
    have Ho := Lib.hid ho
    have Hb := Lib.hid hb
    have Hpl := Lib.hid hpl
    have HN2 := Lib.hid hN2
    clear hxr ho hb hx hpl hN2
    gi_wp2_with fail
    (refine Ord.wpIn_region_ord rfl [(false, 1), (true, 0), (true, 2), (true, 3)] (fun W' => True) (by kernel_rfl) (by kernel_rfl) (by kernel_rfl) (by kernel_rfl) (by kernel_rfl) (by trivial) ?_; simp only [Ord.ordOps, List.filterMap_cons, List.filterMap_nil, List.getElem?_toArray, List.getElem?_cons_succ, List.getElem?_cons_zero, Option.map_some]; repeat (first | (refine Ord.wpOrd_skip ?_ ?_; (focus (go_simp; (try (intro h; cases h)); done)); simp only [Act.put, List.setIfInBounds_toArray, List.set_cons_zero, List.set_cons_succ]) | (refine Ord.wpOrd_take (v := ?_) ?_ ?_ ?_; rotate_left; (focus (go_simp; done)); (focus (intro w' hSw; (try dsimp only at hSw); go_simp; (try with_reducible rfl); done)); simp only [Act.put, List.setIfInBounds_toArray, List.set_cons_zero, List.set_cons_succ])))
    (refine Ord.wpOrd_call ?_ (fun K hK => ?_); (focus (go_simp; done)); go_simp)
    (refine hK _ _ (trivial) ?_; clear hK K; (try simp only [Act.put, List.setIfInBounds_toArray, List.set_cons_zero, List.set_cons_succ]); repeat (first | (refine Ord.wpOrd_skip ?_ ?_; (focus (go_simp; (try (intro h; cases h)); done)); simp only [Act.put, List.setIfInBounds_toArray, List.set_cons_zero, List.set_cons_succ]) | (refine Ord.wpOrd_take (v := ?_) ?_ ?_ ?_; rotate_left; (focus (go_simp; done)); (focus (intro w' hSw; (try dsimp only at hSw); go_simp; (try with_reducible rfl); done)); simp only [Act.put, List.setIfInBounds_toArray, List.set_cons_zero, List.set_cons_succ])))
    refine Ord.wpOrd_app_row Use.elU8 ?_ (.tmp 13) (.tmp 14) rfl w.heap.size (.slice A2 N2 c2) _ N2 32 (bs (putTo zs.length pre)) (bs x.1) rfl rfl (bs_oneCell x.1) Ho.out Hx.out (by rw [hwd]; exact hB.size) (by have := Hpl.out; omega) (fun v5 w5 ho5 hg5 hat5 => ?_)
    · go_simp
    obtain ⟨A5, c5, rfl, -, -, -⟩ := (Rd.of_own ho5).slice_
    obtain ⟨q1, q2, q3, q4, q5⟩ := boxed_app Hb.out (by decide) Ho.out hB.size hs1 ho5 ⟨hg5.os, hg5.tape, hg5.output, hg5.size, hg5.block⟩
    have hc5 := q1.cell
    have hf5 := q1.frozen
    refine ⟨trivial, ?_⟩
    have HI := Lib.hid (show KeepsFrom W0.heap.size W (w5.setCell ⟨B, 0, none⟩ (.slice A5 (N2 + 32) c5)) ∧ Below w.heap.size W (w5.setCell ⟨B, 0, none⟩ (.slice A5 (N2 + 32) c5)) ∧ (∃ v, Boxed (w5.setCell ⟨B, 0, none⟩ (.slice A5 (N2 + 32) c5)) B 39 v ∧ (w5.setCell ⟨B, 0, none⟩ (.slice A5 (N2 + 32) c5)).ownsRow w.heap.size 5 1 v (putTo zs.length (pre ++ [x])).length (bs (putTo zs.length (pre ++ [x]))) ∧ True) ∧ Below w.heap.size w (w5.setCell ⟨B, 0, none⟩ (.slice A5 (N2 + 32) c5)) from
      ⟨q4.from _, q5, ⟨_, q2, by rw [putTo_snoc, List.length_append, x.2, ← HN2.out, bs_append]; exact q3, trivial⟩, hB.trans q5⟩)
    clear q1 q2 q3 q4 q5 ho5 hg5 hat5
    ((try simp only [Act.put, List.setIfInBounds_toArray, List.set_cons_zero, List.set_cons_succ]); repeat (first | (refine Ord.wpOrd_skip ?_ ?_; (focus (go_simp; (try (intro h; cases h)); done)); simp only [Act.put, List.setIfInBounds_toArray, List.set_cons_zero, List.set_cons_succ]) | (refine Ord.wpOrd_take (v := ?_) ?_ ?_ ?_; rotate_left; (focus (go_simp; done)); (focus (intro w' hSw; (try dsimp only at hSw); go_simp; (try with_reducible rfl); done)); simp only [Act.put, List.setIfInBounds_toArray, List.set_cons_zero, List.set_cons_succ])))
    (refine Ord.wpOrd_call ?_ (fun K hK => ?_); (focus (go_simp; done)); go_simp)
    (refine hK _ _ (trivial) ?_; clear hK K; (try simp only [Act.put, List.setIfInBounds_toArray, List.set_cons_zero, List.set_cons_succ]); repeat (first | (refine Ord.wpOrd_skip ?_ ?_; (focus (go_simp; (try (intro h; cases h)); done)); simp only [Act.put, List.setIfInBounds_toArray, List.set_cons_zero, List.set_cons_succ]) | (refine Ord.wpOrd_take (v := ?_) ?_ ?_ ?_; rotate_left; (focus (go_simp; done)); (focus (intro w' hSw; (try dsimp only at hSw); go_simp; (try with_reducible rfl); done)); simp only [Act.put, List.setIfInBounds_toArray, List.set_cons_zero, List.set_cons_succ])))
    refine Ord.wpOrdIn_nil ?_
    gi_wp2_with fail
    exact HI.out
  case done =>
    rintro D ys W hD rfl ⟨⟨v, hb, ho, -⟩, hB⟩ hK
    obtain ⟨A2, c2, rfl, -, -, -⟩ := (Rd.of_own ho).slice_
    have hc := hb.cell
    gi_wp2
    refine ⟨by simp, .inl ⟨_, _, rfl, run_takeDeferred hK, ?_⟩⟩
    exact ⟨_, results_tmp rfl _ _ _, _, rfl, by
      have := ownsRow_putObj ho (.deferred none) hK rfl
      rw [show put (vals ys) = putTo ys.length ys by rw [put, vals_len]; rfl]; exact this, hB.trans (belowK_b (w := w) (Nat.le_refl _) W D _ _ (by omega) hK rfl rfl)⟩
  case stop =>
    rintro D c pre W _ _ h _
    exact h.elim
end Go.Proofs.Ytpldkplfdbjidaa.Ids
