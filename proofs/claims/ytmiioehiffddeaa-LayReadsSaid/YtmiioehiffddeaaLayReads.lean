/- LayReads' walk -/
import Derived.Test.YtmiioehiffddeaaLayOne
import Derived.Test.YtmiioehiffddeaaRef01W
import Derived.Test.YtmiioehiffddeaaOrd
import Derived.Deep.CutRange
set_option linter.unusedVariables false
set_option linter.unusedSimpArgs false
namespace Go.Proofs.Ytmiioehiffddeaa.Lay
open Go.RowKit Go.Proofs.Ytmiioehiffddeaa.Wd

/-- the document's reader, in memory -/
def XAt (w : World) (g : Nat) (r : Rdr) : Prop := w.heap[g]? = some (.cells #[.string (str r.b), .int .i64 (r.bad : Int)] 81 (0, 0))
theorem XAt.c0 {w : World} {g : Nat} {r : Rdr} (h : XAt w g r) : w.cell? ⟨g, 0, none⟩ = some (.string (str r.b)) := by rw [blk_cell h 0]; rfl
theorem XAt.c1 {w : World} {g : Nat} {r : Rdr} (h : XAt w g r) : w.cell? ⟨g, 1, none⟩ = some (.int .i64 (r.bad : Int)) := by rw [blk_cell h 1]; rfl
theorem XAt.f {w : World} {g : Nat} {r : Rdr} (h : XAt w g r) (i : Nat) : w.frozen? ⟨g, i, none⟩ = false := blk_frozen h i
theorem XAt.below {w w1 : World} {g : Nat} {r : Rdr} (h : XAt w g r) (hb : Below w.heap.size w w1) : XAt w1 g r := blk_below h hb
theorem XAt.lt {w : World} {g : Nat} {r : Rdr} (h : XAt w g r) : g < w.heap.size := blk_lt h
def ask2 (la : List (Int × Int)) : List Value := la.flatMap fun x => [Value.int .i64 x.1, Value.int .i64 x.2]

theorem ask2_get (la : List (Int × Int)) (k : Nat) (h : k < la.length) : (ask2 la)[2 * k]? = some (.int .i64 la[k].1) ∧ (ask2 la)[2 * k + 1]? = some (.int .i64 la[k].2) := by
  induction la generalizing k with
  | nil => simp at h
  | cons x l ih =>
    cases k with
    | zero => simp [ask2]
    | succ k =>
      have := ih k (by simpa using h)
      have e1 : ask2 (x :: l) = [Value.int .i64 x.1, Value.int .i64 x.2] ++ ask2 l := by simp [ask2]
      rw [e1, List.getElem?_append_right (by simp; omega), List.getElem?_append_right (by simp; omega)]
      simp only [List.length_cons, List.length_nil, List.getElem_cons_succ]
      rw [show 2 * (k + 1) - (0 + 1 + 1) = 2 * k by omega, show 2 * (k + 1) + 1 - (0 + 1 + 1) = 2 * k + 1 by omega]
      exact this
theorem ask2_length (la : List (Int × Int)) : (ask2 la).length = 2 * la.length := by
  induction la with
  | nil => rfl
  | cons x l ih => have e1 : ask2 (x :: l) = [Value.int .i64 x.1, Value.int .i64 x.2] ++ ask2 l := by simp [ask2]
                   rw [e1, List.length_append, ih]; simp; omega

/-- 'x = y' -/
theorem copyR {w : World} {gr gx : Nat} {r : Rdr} (h : RdrAt w gr r) (hne : gr ≠ gx) (u v : Value) : RdrAt ((w.setCell ⟨gx, 0, none⟩ u).setCell ⟨gx, 1, none⟩ v) gr r := blk_far (blk_far h hne _) hne _
theorem copyX {w : World} {gx : Nat} {r : Rdr} (h : XAt w gx r) (r' : Rdr) : XAt ((w.setCell ⟨gx, 0, none⟩ (.string (str r'.b))).setCell ⟨gx, 1, none⟩ (.int .i64 (r'.bad : Int))) gx r' := blk_set (blk_set h 0 _) 1 _
theorem copyB {B : Nat} {w0 w : World} {gx : Nat} (h : Below B w0 w) (hx : B ≤ gx) (u v : Value) : Below B w0 ((w.setCell ⟨gx, 0, none⟩ u).setCell ⟨gx, 1, none⟩ v) := (h.setCell hx _).setCell hx _
/-- behind a call that turned the reader -/
theorem XAt.left {w w' : World} {gr gx : Nat} {r r' : Rdr} (h : XAt w gx r) (hl : Left w gr r' w') (hne : gr ≠ gx) : XAt w' gx r := blk_grown h hl.2 (by intro e; injection e with e; exact hne e.symm)
theorem Left.bel {B : Nat} {w0 w w' : World} {gr : Nat} {r' : Rdr} (h : Below B w0 w) (hB : B ≤ w.heap.size) (hg : B ≤ gr) (hl : Left w gr r' w') : Below B w0 w' := h.grown hl.2 hB (fun k hk => by injection hk with hk; omega)

set_option maxRecDepth 100000 in
set_option maxHeartbeats 4000000 in
theorem LayReads_any (vb : Value) (lb : List UInt8) (va : Value) (la : List (Int × Int)) (w : World) (hb : Rd w 1 vb lb.length (bs lb))
    (ha : Rd w 2 va la.length (ask2 la)) (hla : ∀ x ∈ la, x.2 < 9223372036854775808) :
    Calls Try.prog 9 #[vb, va] w fun e w' => e = .returned (.bool true) ∧ Below w.heap.size w w' := by
  have HB := hb
  have HA := ha
  have Hla := Lib.hid hla
  clear hla
  obtain ⟨Ab, cb, rfl, hb1, hb2, _⟩ := hb.slice_
  obtain ⟨Aa, ca, rfl, ha1, ha2, _⟩ := ha.slice_
  clear hb ha
  by_cases h2 : 2000 < lb.length
  · go_enter Try.func9, Try.ntmps9
    go_wp2
    go_ret
    exact ⟨rfl, Below.refl _ _⟩
  have ks := fun (W : World) (hW : Below w.heap.size w W) => Rd.string (P := Try.prog) (w := W) (dst := 9) Try.underlying23 Try.underlying5 Try.underlying9 (HB.below hW)
  go_enter Try.func9, Try.ntmps9
  go_upto_region 3 with fail
  go_cut [5, 6] from 19 to 24 (fun s5 s6 wx => ∃ gr gx : Nat, s5 = .pointer (some ⟨gr, 0, none⟩) ∧ s6 = .pointer (some ⟨gx, 0, none⟩) ∧ gr ≠ gx ∧ w.heap.size ≤ gr ∧ w.heap.size ≤ gx ∧ RdrAt wx gr ⟨lb, 0⟩ ∧ XAt wx gx ⟨lb, 0⟩ ∧ Below w.heap.size w wx)
  case first =>
    have mk : ∀ W : World, Below w.heap.size w W → (convert 23 9 (.slice Ab lb.length cb)).run Try.prog W = .ok (.string (str lb)) W ∧ Below w.heap.size w W := fun W hW => ⟨ks W hW, hW⟩
    have h0 := Below.refl w.heap.size w
    clear ks
    go_region_held3 (fun w' => (convert 23 9 (.slice Ab lb.length cb)).run Try.prog w' = .ok (.string (str lb)) w' ∧ Below w.heap.size w w')
      (first | exact mk _ h0.drew | exact mk _ hB2 | exact mk _ (hB2.alloc hB2.size _) | exact mk _ (h0.alloc (Nat.le_refl _) _).drew | exact mk _ ((hB2.setCell (Nat.le_refl _) _).setCell (Nat.le_refl _) _))
      (first | (go_at_call 38; refine (Read_any lb _).mono ?_; rintro e w2 ⟨rfl, hr2, hb2⟩; have hHe := ‹_ ∧ Below w.heap.size w _›; have hB2 := below_then hHe.2 hHe.2.size hb2; clear hHe; (try (have hx2 : w2.heap[w.heap.size]? = some (.cells #[.string ⟨#[]⟩, .int .i64 0] 81 (0, 0)) := blk_below (w := (w.alloc (.cells #[.string ⟨#[]⟩, .int .i64 0] 81)).drew) (heap_alloc_new w _) hb2; have hxc0 := blk_cell hx2 0; have hxc1 := blk_cell hx2 1; have hxf := blk_frozen hx2))))
    all_goals (go_wp2_with fail; go_meet)
    · exact ⟨_, _, rfl, rfl, by have := hr2.lt; have h9 : w.drew.heap.size = w.heap.size := rfl; omega, Nat.le_refl _, hB2.size, hr2.below ((Below.refl _ _).alloc (Nat.le_refl _) _), heap_alloc_new _ _, hB2.alloc hB2.size _⟩
    · have hr3 : RdrAt w2 (w.heap.size + 1) ⟨lb, 0⟩ := by
        have h9 : (w.alloc (.cells #[.string ⟨#[]⟩, .int .i64 0] 81)).drew.heap.size = w.heap.size + 1 := alloc_size _ _
        rw [h9] at hr2
        exact hr2
      exact ⟨w.heap.size + 1, w.heap.size, rfl, rfl, by omega, by omega, Nat.le_refl _, blk_far (blk_far hr3 (by simp) _) (by simp) _, blk_set (blk_set hx2 0 _) 1 _, (hB2.setCell (Nat.le_refl _) _).setCell (Nat.le_refl _) _⟩
  case rest =>
    obtain ⟨gr, gx, rfl, rfl, hne, hgr, hgx, hr, hx, hB⟩ := hcut
    clear ks
    go_wp2_with fail
    go_loopw [7] (fun i wr => ∃ (k : Nat) (r : Rdr), k ≤ la.length ∧ i = .int .i64 k ∧ RdrAt wr gr r ∧ XAt wr gx r ∧ Below w.heap.size w wr) (fun i _ => la.length - (intOf i).toNat)
    case atStart => exact ⟨0, _, Nat.zero_le _, rfl, hr, hx, hB⟩
    case round =>
      clear hr hx hB
      obtain ⟨k, r, hk, rfl, hr, hx, hB⟩ := hrel
      by_cases hlt : k < la.length ∧ k < 60
      · obtain ⟨hlt, hk60⟩ := hlt
        obtain ⟨ba, off, rfl, _, _, _, hc⟩ := HA.at_ (by omega)
        have hg := ask2_get la k hlt
        have hlen := ask2_length la
        have hn9 := Hla.out la[k] (List.getElem_mem _)
        have hk0 := hc (2 * k) (by omega)
        have hk1 := hc (2 * k + 1) (by omega)
        obtain ⟨⟨kd, n⟩, hkn⟩ : ∃ x, x = la[k] := ⟨_, rfl⟩
        rw [(List.getElem?_eq_some_iff.1 hg.1).2, ← hkn] at hk0
        rw [(List.getElem?_eq_some_iff.1 hg.2).2, ← hkn] at hk1
        rw [← hkn] at hn9
        clear hc hg hlen hkn
        simp only at hk0 hk1 hn9
        rw [show off + 2 * k = off + k * 2 by omega] at hk0
        rw [show off + (2 * k + 1) = off + k * 2 + 1 by omega] at hk1
        have hk0' := cell_below hB hk0
        have hk1' := cell_below hB hk1
        have hbal : ba < w.heap.size := World.block_lt_of_cell? w _ hk0
        have hbx : gx ≠ ba := by omega
        have hbx2 : ba ≠ gx := by omega
        have hxc0 := hx.c0
        have hxc1 := hx.c1
        have hi1 : (0 : Int) ≤ (k : Int) := by omega
        have hi2 : (k : Int) < (la.length : Int) := by omega
        by_cases hd0 : kd = 0
        · subst hd0
          go_wp2_with (first
            | (go_at_call 45; go_must (refine (Ref01.Number_any r _).mono ?_); rintro e w2 ⟨rfl, hb2⟩; have hB2 := below_then hB hB.size hb2; have hr2 := hr.below hb2; have hx2 := hx.below hb2; have hx20 := hx2.c0; have hx21 := hx2.c1; have hxf := hx2.f; have hz2 := hx2.lt)
            | (go_at_call 39; go_must (refine (Number_any gr r _ (blk_alloc (copyR hr2 hne _ _) _)).mono ?_); rintro e w3 ⟨rfl, hl3⟩; have hr3 := hl3.1; have hx3 := XAt.left (blk_alloc (copyX hx2 r.number.2) _) hl3 hne; have hB3 := hl3.bel ((copyB hB2 hgx _ _).alloc (by simp only [setCell_size]; exact hB2.size) _) (by have := hB2.size; simp only [setCell_size, alloc_size]; omega) hgr))
          obtain ⟨rr, hrr⟩ : ∃ rr, rr = r.number.2 := ⟨_, rfl⟩
          rw [← hrr] at hr3 hx3
          clear hrr hl3 hr2 hx2 hB2 hx20 hx21 hxf hr hx hB hk0' hk1' hxc0 hxc1
          (refine Ord.wp_region_ord [(false, 0), (false, 2), (false, 3), (false, 4), (true, 1), (false, 5), (false, 6), (false, 7), (false, 9), (false, 10), (true, 8), (false, 11), (false, 12), (false, 13), (false, 14), (false, 16), (true, 15), (true, 17), (false, 18), (false, 19)] (fun w' => w'.cell? ⟨gx, 0, none⟩ = some (.string (str rr.b)) ∧ w'.cell? ⟨gx, 1, none⟩ = some (.int .i64 (rr.bad : Int))) (by kernel_rfl) (by kernel_rfl) (by kernel_rfl) (by kernel_rfl) (by exact ⟨hx3.c0, hx3.c1⟩) ?_; simp only [Ord.ordOps, List.filterMap_cons, List.filterMap_nil, List.getElem?_toArray, List.getElem?_cons_succ, List.getElem?_cons_zero, Option.map_some]; repeat (first | (refine Ord.wpOrd_skip ?_ ?_; (focus (go_simp; (try (intro h; cases h)); done)); simp only [Act.put, List.setIfInBounds_toArray, List.set_cons_zero, List.set_cons_succ]) | (refine Ord.wpOrd_take (v := ?_) ?_ ?_ ?_; rotate_left; (focus (go_simp; done)); (focus (intro w' hSw; (try dsimp only at hSw); go_simp; (try with_reducible rfl); done)); simp only [Act.put, List.setIfInBounds_toArray, List.set_cons_zero, List.set_cons_succ])))
          (refine Ord.wpOrd_call ?_ (fun K hK => ?_); (focus (go_simp; done)); go_simp)
          go_at_call 51
          refine (Left_any gr rr _ (by exact hr3)).mono ?_
          rintro e w4 ⟨rfl, rfl⟩
          (refine hK _ _ ((by exact ⟨hx3.c0, hx3.c1⟩)) ?_; clear hK K; (try simp only [Act.put, List.setIfInBounds_toArray, List.set_cons_zero, List.set_cons_succ]); repeat (first | (refine Ord.wpOrd_skip ?_ ?_; (focus (go_simp; (try (intro h; cases h)); done)); simp only [Act.put, List.setIfInBounds_toArray, List.set_cons_zero, List.set_cons_succ]) | (refine Ord.wpOrd_take (v := ?_) ?_ ?_ ?_; rotate_left; (focus (go_simp; done)); (focus (intro w' hSw; (try dsimp only at hSw); go_simp; (try with_reducible rfl); done)); simp only [Act.put, List.setIfInBounds_toArray, List.set_cons_zero, List.set_cons_succ])))
          (refine Ord.wpOrd_call ?_ (fun K hK => ?_); (focus (go_simp; done)); go_simp)
          go_at_call 52
          refine (Bad_any gr rr _ (by exact hr3)).mono ?_
          rintro e w4 ⟨rfl, rfl⟩
          (refine hK _ _ ((by exact ⟨hx3.c0, hx3.c1⟩)) ?_; clear hK K; (try simp only [Act.put, List.setIfInBounds_toArray, List.set_cons_zero, List.set_cons_succ]); repeat (first | (refine Ord.wpOrd_skip ?_ ?_; (focus (go_simp; (try (intro h; cases h)); done)); simp only [Act.put, List.setIfInBounds_toArray, List.set_cons_zero, List.set_cons_succ]) | (refine Ord.wpOrd_take (v := ?_) ?_ ?_ ?_; rotate_left; (focus (go_simp; done)); (focus (intro w' hSw; (try dsimp only at hSw); go_simp; (try with_reducible rfl); done)); simp only [Act.put, List.setIfInBounds_toArray, List.set_cons_zero, List.set_cons_succ])))
          (refine Ord.wpOrd_call ?_ (fun K hK => ?_); (focus (go_simp; done)); go_simp)
          go_at_call 41
          refine (End_any gr rr _ (by exact hr3)).mono ?_
          rintro e w4 ⟨rfl, rfl⟩
          (refine hK _ _ ((by exact ⟨hx3.c0, hx3.c1⟩)) ?_; clear hK K; (try simp only [Act.put, List.setIfInBounds_toArray, List.set_cons_zero, List.set_cons_succ]); repeat (first | (refine Ord.wpOrd_skip ?_ ?_; (focus (go_simp; (try (intro h; cases h)); done)); simp only [Act.put, List.setIfInBounds_toArray, List.set_cons_zero, List.set_cons_succ]) | (refine Ord.wpOrd_take (v := ?_) ?_ ?_ ?_; rotate_left; (focus (go_simp; done)); (focus (intro w' hSw; (try dsimp only at hSw); go_simp; (try with_reducible rfl); done)); simp only [Act.put, List.setIfInBounds_toArray, List.set_cons_zero, List.set_cons_succ])))
          (refine Ord.wpOrd_call ?_ (fun K hK => ?_); (focus (go_simp; done)); go_simp)
          go_at_call 53
          refine (Ref01.End_any rr _).mono ?_
          rintro e w5 ⟨rfl, hb5⟩
          have hx5 : XAt w5 gx rr := XAt.below (w := w3.drew) hx3 hb5
          have hr5 : RdrAt w5 gr rr := RdrAt.below (w := w3.drew) hr3 hb5
          (refine hK _ _ (⟨hx5.c0, hx5.c1⟩) ?_; clear hK K; (try simp only [Act.put, List.setIfInBounds_toArray, List.set_cons_zero, List.set_cons_succ]); repeat (first | (refine Ord.wpOrd_skip ?_ ?_; (focus (go_simp; (try (intro h; cases h)); done)); simp only [Act.put, List.setIfInBounds_toArray, List.set_cons_zero, List.set_cons_succ]) | (refine Ord.wpOrd_take (v := ?_) ?_ ?_ ?_; rotate_left; (focus (go_simp; done)); (focus (intro w' hSw; (try dsimp only at hSw); go_simp; (try with_reducible rfl); done)); simp only [Act.put, List.setIfInBounds_toArray, List.set_cons_zero, List.set_cons_succ])))
          refine Ord.wpOrd_nil ?_
          go_wp2
          refine ⟨⟨k + 1, rr, by omega, by go_num, hr5, hx5, below_then hB3.drew hB3.drew.size hb5⟩, by simp only [intOf]; omega⟩
        by_cases hd1 : kd = 1
        · subst hd1
          go_wp2_with fail
          go_cut [10, 11] from 76 to 85 (fun s1 s2 wx => ∃ g : Nat, s1 = .pointer (some ⟨g, 0, none⟩) ∧ s2 = .int .i64 ((r.small n).1 : Nat) ∧ g ≠ gr ∧ g ≠ gx ∧ RdrAt wx gr r ∧ XAt wx gx r ∧ XAt wx g (r.small n).2 ∧ Below w.heap.size w wx)
          case first =>
            have mk : ∀ W : World, XAt W gx r → Below w.heap.size w W → W.cell? ⟨gx, 0, none⟩ = some (.string (str r.b)) ∧ W.cell? ⟨gx, 1, none⟩ = some (.int .i64 (r.bad : Int)) ∧ W.cell? ⟨ba, off + k * 2 + 1, none⟩ = some (.int .i64 n) := fun W h1 h2 => ⟨h1.c0, h1.c1, cell_below h2 hk1⟩
            have hgl := hr.lt
            have hxl := hx.lt
            go_region_held3 (fun W => W.cell? ⟨gx, 0, none⟩ = some (.string (str r.b)) ∧ W.cell? ⟨gx, 1, none⟩ = some (.int .i64 (r.bad : Int)) ∧ W.cell? ⟨ba, off + k * 2 + 1, none⟩ = some (.int .i64 n))
              (first | exact mk _ hx hB.drew | exact mk _ hx2 hB2 | exact mk _ (blk_alloc hx2 _) (hB2.alloc hB2.size _) | exact mk _ (blk_alloc hx _) (hB.alloc hB.size _).drew | exact mk _ (blk_far (blk_far hx2 (by simp only; omega) _) (by simp only; omega) _) ((hB2.setCell hB.size _).setCell hB.size _))
              (first | (go_at_call 46; refine (Ref01.Small_any r n hn9 _).mono ?_; rintro e w2 ⟨rfl, hb2⟩; (first
                | (have hx2 : XAt w2 gx r := XAt.below (w := wr.drew) hx hb2; have hr2 : RdrAt w2 gr r := RdrAt.below (w := wr.drew) hr hb2; have hB2 := below_then hB.drew hB.drew.size hb2)
                | (have hx2 : XAt w2 gx r := XAt.below (w := (wr.alloc (.cells #[.string ⟨#[]⟩, .int .i64 0] 81)).drew) (blk_alloc hx _) hb2; have hr2 : RdrAt w2 gr r := RdrAt.below (w := (wr.alloc (.cells #[.string ⟨#[]⟩, .int .i64 0] 81)).drew) (blk_alloc hr _) hb2; have hB2 := below_then (hB.alloc hB.size (.cells #[.string ⟨#[]⟩, .int .i64 0] 81)).drew (hB.alloc hB.size (.cells #[.string ⟨#[]⟩, .int .i64 0] 81)).drew.size hb2; have hg2 : w2.heap[wr.heap.size]? = some (.cells #[.string ⟨#[]⟩, .int .i64 0] 81) := blk_below (w := (wr.alloc (.cells #[.string ⟨#[]⟩, .int .i64 0] 81)).drew) (heap_alloc_new wr _) hb2; have hgc0 := blk_cell hg2 0; have hgc1 := blk_cell hg2 1; have hgf := blk_frozen hg2))))
            all_goals (go_wp2_with fail; go_meet)
            · exact ⟨_, rfl, rfl, by have := hr2.lt; omega, by have := hx2.lt; omega, blk_alloc hr2 _, blk_alloc hx2 _, heap_alloc_new _ _, hB2.alloc hB2.size _⟩
            · exact ⟨_, rfl, rfl, by omega, by omega, blk_far (blk_far hr2 (by simp only; omega) _) (by simp only; omega) _, blk_far (blk_far hx2 (by simp only; omega) _) (by simp only; omega) _, blk_set (blk_set hg2 0 _) 1 _, (hB2.setCell hB.size _).setCell hB.size _⟩
          case rest =>
            obtain ⟨g, rfl, rfl, hg1, hg2, hr2, hx2, hg, hB2⟩ := hcut
            have hk2 := cell_below hB2 hk1
            have hx20 := hx2.c0
            have hx21 := hx2.c1
            have hxf := hx2.f
            have hgc0 := hg.c0
            have hgc1 := hg.c1
            clear hr hx hB hxc0 hxc1 hk0' hk1'
            go_wp2_with (go_at_call 47; go_must (refine (Small_any gr r n _ (copyR hr2 hne _ _) hn9).mono ?_); rintro e w3 ⟨rfl, hl3⟩; have hr3 := hl3.1; have hx3 := XAt.left (copyX hx2 (r.small n).2) hl3 hne; have hB3 := hl3.bel (copyB hB2 hgx _ _) (by have := hB2.size; simp only [setCell_size]; omega) hgr)
            obtain ⟨rr, hrr⟩ : ∃ rr, rr = (r.small n).2 := ⟨_, rfl⟩
            rw [← hrr] at hr3 hx3
            clear hrr hl3 hr2 hx2 hB2 hg hgc0 hgc1 hx20 hx21 hxf hk2
            (refine Ord.wp_region_ord [(false, 0), (false, 2), (false, 3), (false, 4), (true, 1), (false, 5), (false, 6), (false, 7), (false, 9), (false, 10), (true, 8), (false, 11), (false, 12), (false, 13), (false, 14), (false, 16), (true, 15), (true, 17), (false, 18), (false, 19)] (fun w' => w'.cell? ⟨gx, 0, none⟩ = some (.string (str rr.b)) ∧ w'.cell? ⟨gx, 1, none⟩ = some (.int .i64 (rr.bad : Int))) (by kernel_rfl) (by kernel_rfl) (by kernel_rfl) (by kernel_rfl) (by exact ⟨hx3.c0, hx3.c1⟩) ?_; simp only [Ord.ordOps, List.filterMap_cons, List.filterMap_nil, List.getElem?_toArray, List.getElem?_cons_succ, List.getElem?_cons_zero, Option.map_some]; repeat (first | (refine Ord.wpOrd_skip ?_ ?_; (focus (go_simp; (try (intro h; cases h)); done)); simp only [Act.put, List.setIfInBounds_toArray, List.set_cons_zero, List.set_cons_succ]) | (refine Ord.wpOrd_take (v := ?_) ?_ ?_ ?_; rotate_left; (focus (go_simp; done)); (focus (intro w' hSw; (try dsimp only at hSw); go_simp; (try with_reducible rfl); done)); simp only [Act.put, List.setIfInBounds_toArray, List.set_cons_zero, List.set_cons_succ])))
            (refine Ord.wpOrd_call ?_ (fun K hK => ?_); (focus (go_simp; done)); go_simp)
            go_at_call 51
            refine (Left_any gr rr _ (by exact hr3)).mono ?_
            rintro e w4 ⟨rfl, rfl⟩
            (refine hK _ _ ((by exact ⟨hx3.c0, hx3.c1⟩)) ?_; clear hK K; (try simp only [Act.put, List.setIfInBounds_toArray, List.set_cons_zero, List.set_cons_succ]); repeat (first | (refine Ord.wpOrd_skip ?_ ?_; (focus (go_simp; (try (intro h; cases h)); done)); simp only [Act.put, List.setIfInBounds_toArray, List.set_cons_zero, List.set_cons_succ]) | (refine Ord.wpOrd_take (v := ?_) ?_ ?_ ?_; rotate_left; (focus (go_simp; done)); (focus (intro w' hSw; (try dsimp only at hSw); go_simp; (try with_reducible rfl); done)); simp only [Act.put, List.setIfInBounds_toArray, List.set_cons_zero, List.set_cons_succ])))
            (refine Ord.wpOrd_call ?_ (fun K hK => ?_); (focus (go_simp; done)); go_simp)
            go_at_call 52
            refine (Bad_any gr rr _ (by exact hr3)).mono ?_
            rintro e w4 ⟨rfl, rfl⟩
            (refine hK _ _ ((by exact ⟨hx3.c0, hx3.c1⟩)) ?_; clear hK K; (try simp only [Act.put, List.setIfInBounds_toArray, List.set_cons_zero, List.set_cons_succ]); repeat (first | (refine Ord.wpOrd_skip ?_ ?_; (focus (go_simp; (try (intro h; cases h)); done)); simp only [Act.put, List.setIfInBounds_toArray, List.set_cons_zero, List.set_cons_succ]) | (refine Ord.wpOrd_take (v := ?_) ?_ ?_ ?_; rotate_left; (focus (go_simp; done)); (focus (intro w' hSw; (try dsimp only at hSw); go_simp; (try with_reducible rfl); done)); simp only [Act.put, List.setIfInBounds_toArray, List.set_cons_zero, List.set_cons_succ])))
            (refine Ord.wpOrd_call ?_ (fun K hK => ?_); (focus (go_simp; done)); go_simp)
            go_at_call 41
            refine (End_any gr rr _ (by exact hr3)).mono ?_
            rintro e w4 ⟨rfl, rfl⟩
            (refine hK _ _ ((by exact ⟨hx3.c0, hx3.c1⟩)) ?_; clear hK K; (try simp only [Act.put, List.setIfInBounds_toArray, List.set_cons_zero, List.set_cons_succ]); repeat (first | (refine Ord.wpOrd_skip ?_ ?_; (focus (go_simp; (try (intro h; cases h)); done)); simp only [Act.put, List.setIfInBounds_toArray, List.set_cons_zero, List.set_cons_succ]) | (refine Ord.wpOrd_take (v := ?_) ?_ ?_ ?_; rotate_left; (focus (go_simp; done)); (focus (intro w' hSw; (try dsimp only at hSw); go_simp; (try with_reducible rfl); done)); simp only [Act.put, List.setIfInBounds_toArray, List.set_cons_zero, List.set_cons_succ])))
            (refine Ord.wpOrd_call ?_ (fun K hK => ?_); (focus (go_simp; done)); go_simp)
            go_at_call 53
            refine (Ref01.End_any rr _).mono ?_
            rintro e w5 ⟨rfl, hb5⟩
            have hx5 : XAt w5 gx rr := XAt.below (w := w3.drew) hx3 hb5
            have hr5 : RdrAt w5 gr rr := RdrAt.below (w := w3.drew) hr3 hb5
            (refine hK _ _ (⟨hx5.c0, hx5.c1⟩) ?_; clear hK K; (try simp only [Act.put, List.setIfInBounds_toArray, List.set_cons_zero, List.set_cons_succ]); repeat (first | (refine Ord.wpOrd_skip ?_ ?_; (focus (go_simp; (try (intro h; cases h)); done)); simp only [Act.put, List.setIfInBounds_toArray, List.set_cons_zero, List.set_cons_succ]) | (refine Ord.wpOrd_take (v := ?_) ?_ ?_ ?_; rotate_left; (focus (go_simp; done)); (focus (intro w' hSw; (try dsimp only at hSw); go_simp; (try with_reducible rfl); done)); simp only [Act.put, List.setIfInBounds_toArray, List.set_cons_zero, List.set_cons_succ])))
            refine Ord.wpOrd_nil ?_
            go_wp2
            refine ⟨⟨k + 1, rr, by omega, by go_num, hr5, hx5, below_then hB3.drew hB3.drew.size hb5⟩, by simp only [intOf]; omega⟩
        by_cases hd2 : kd = 2
        · subst hd2
          go_wp2_with fail
          go_cut [12, 13] from 98 to 107 (fun s1 s2 wx => ∃ g : Nat, s1 = .pointer (some ⟨g, 0, none⟩) ∧ s2 = .string (str (r.text n).1) ∧ g ≠ gr ∧ g ≠ gx ∧ RdrAt wx gr r ∧ XAt wx gx r ∧ XAt wx g (r.text n).2 ∧ Below w.heap.size w wx)
          case first =>
            have mk : ∀ W : World, XAt W gx r → Below w.heap.size w W → W.cell? ⟨gx, 0, none⟩ = some (.string (str r.b)) ∧ W.cell? ⟨gx, 1, none⟩ = some (.int .i64 (r.bad : Int)) ∧ W.cell? ⟨ba, off + k * 2 + 1, none⟩ = some (.int .i64 n) := fun W h1 h2 => ⟨h1.c0, h1.c1, cell_below h2 hk1⟩
            have hgl := hr.lt
            have hxl := hx.lt
            go_region_held3 (fun W => W.cell? ⟨gx, 0, none⟩ = some (.string (str r.b)) ∧ W.cell? ⟨gx, 1, none⟩ = some (.int .i64 (r.bad : Int)) ∧ W.cell? ⟨ba, off + k * 2 + 1, none⟩ = some (.int .i64 n))
              (first | exact mk _ hx hB.drew | exact mk _ hx2 hB2 | exact mk _ (blk_alloc hx2 _) (hB2.alloc hB2.size _) | exact mk _ (blk_alloc hx _) (hB.alloc hB.size _).drew | exact mk _ (blk_far (blk_far hx2 (by simp only; omega) _) (by simp only; omega) _) ((hB2.setCell hB.size _).setCell hB.size _))
              (first | (go_at_call 48; refine (Ref01.Text_any r n hn9 _).mono ?_; rintro e w2 ⟨rfl, hb2⟩; (first
                | (have hx2 : XAt w2 gx r := XAt.below (w := wr.drew) hx hb2; have hr2 : RdrAt w2 gr r := RdrAt.below (w := wr.drew) hr hb2; have hB2 := below_then hB.drew hB.drew.size hb2)
                | (have hx2 : XAt w2 gx r := XAt.below (w := (wr.alloc (.cells #[.string ⟨#[]⟩, .int .i64 0] 81)).drew) (blk_alloc hx _) hb2; have hr2 : RdrAt w2 gr r := RdrAt.below (w := (wr.alloc (.cells #[.string ⟨#[]⟩, .int .i64 0] 81)).drew) (blk_alloc hr _) hb2; have hB2 := below_then (hB.alloc hB.size (.cells #[.string ⟨#[]⟩, .int .i64 0] 81)).drew (hB.alloc hB.size (.cells #[.string ⟨#[]⟩, .int .i64 0] 81)).drew.size hb2; have hg2 : w2.heap[wr.heap.size]? = some (.cells #[.string ⟨#[]⟩, .int .i64 0] 81) := blk_below (w := (wr.alloc (.cells #[.string ⟨#[]⟩, .int .i64 0] 81)).drew) (heap_alloc_new wr _) hb2; have hgc0 := blk_cell hg2 0; have hgc1 := blk_cell hg2 1; have hgf := blk_frozen hg2))))
            all_goals (go_wp2_with fail; go_meet)
            · exact ⟨_, rfl, rfl, by have := hr2.lt; omega, by have := hx2.lt; omega, blk_alloc hr2 _, blk_alloc hx2 _, heap_alloc_new _ _, hB2.alloc hB2.size _⟩
            · exact ⟨_, rfl, rfl, by omega, by omega, blk_far (blk_far hr2 (by simp only; omega) _) (by simp only; omega) _, blk_far (blk_far hx2 (by simp only; omega) _) (by simp only; omega) _, blk_set (blk_set hg2 0 _) 1 _, (hB2.setCell hB.size _).setCell hB.size _⟩
          case rest =>
            obtain ⟨g, rfl, rfl, hg1, hg2, hr2, hx2, hg, hB2⟩ := hcut
            have hk2 := cell_below hB2 hk1
            have hx20 := hx2.c0
            have hx21 := hx2.c1
            have hxf := hx2.f
            have hgc0 := hg.c0
            have hgc1 := hg.c1
            clear hr hx hB hxc0 hxc1 hk0' hk1'
            go_wp2_with (go_at_call 40; go_must (refine (Text_any gr r n _ (copyR hr2 hne _ _) hn9).mono ?_); rintro e w3 ⟨rfl, hl3⟩; have hr3 := hl3.1; have hx3 := XAt.left (copyX hx2 (r.text n).2) hl3 hne; have hB3 := hl3.bel (copyB hB2 hgx _ _) (by have := hB2.size; simp only [setCell_size]; omega) hgr)
            obtain ⟨rr, hrr⟩ : ∃ rr, rr = (r.text n).2 := ⟨_, rfl⟩
            rw [← hrr] at hr3 hx3
            clear hrr hl3 hr2 hx2 hB2 hg hgc0 hgc1 hx20 hx21 hxf hk2
            (refine Ord.wp_region_ord [(false, 0), (false, 2), (false, 3), (false, 4), (true, 1), (false, 5), (false, 6), (false, 7), (false, 9), (false, 10), (true, 8), (false, 11), (false, 12), (false, 13), (false, 14), (false, 16), (true, 15), (true, 17), (false, 18), (false, 19)] (fun w' => w'.cell? ⟨gx, 0, none⟩ = some (.string (str rr.b)) ∧ w'.cell? ⟨gx, 1, none⟩ = some (.int .i64 (rr.bad : Int))) (by kernel_rfl) (by kernel_rfl) (by kernel_rfl) (by kernel_rfl) (by exact ⟨hx3.c0, hx3.c1⟩) ?_; simp only [Ord.ordOps, List.filterMap_cons, List.filterMap_nil, List.getElem?_toArray, List.getElem?_cons_succ, List.getElem?_cons_zero, Option.map_some]; repeat (first | (refine Ord.wpOrd_skip ?_ ?_; (focus (go_simp; (try (intro h; cases h)); done)); simp only [Act.put, List.setIfInBounds_toArray, List.set_cons_zero, List.set_cons_succ]) | (refine Ord.wpOrd_take (v := ?_) ?_ ?_ ?_; rotate_left; (focus (go_simp; done)); (focus (intro w' hSw; (try dsimp only at hSw); go_simp; (try with_reducible rfl); done)); simp only [Act.put, List.setIfInBounds_toArray, List.set_cons_zero, List.set_cons_succ])))
            (refine Ord.wpOrd_call ?_ (fun K hK => ?_); (focus (go_simp; done)); go_simp)
            go_at_call 51
            refine (Left_any gr rr _ (by exact hr3)).mono ?_
            rintro e w4 ⟨rfl, rfl⟩
            (refine hK _ _ ((by exact ⟨hx3.c0, hx3.c1⟩)) ?_; clear hK K; (try simp only [Act.put, List.setIfInBounds_toArray, List.set_cons_zero, List.set_cons_succ]); repeat (first | (refine Ord.wpOrd_skip ?_ ?_; (focus (go_simp; (try (intro h; cases h)); done)); simp only [Act.put, List.setIfInBounds_toArray, List.set_cons_zero, List.set_cons_succ]) | (refine Ord.wpOrd_take (v := ?_) ?_ ?_ ?_; rotate_left; (focus (go_simp; done)); (focus (intro w' hSw; (try dsimp only at hSw); go_simp; (try with_reducible rfl); done)); simp only [Act.put, List.setIfInBounds_toArray, List.set_cons_zero, List.set_cons_succ])))
            (refine Ord.wpOrd_call ?_ (fun K hK => ?_); (focus (go_simp; done)); go_simp)
            go_at_call 52
            refine (Bad_any gr rr _ (by exact hr3)).mono ?_
            rintro e w4 ⟨rfl, rfl⟩
            (refine hK _ _ ((by exact ⟨hx3.c0, hx3.c1⟩)) ?_; clear hK K; (try simp only [Act.put, List.setIfInBounds_toArray, List.set_cons_zero, List.set_cons_succ]); repeat (first | (refine Ord.wpOrd_skip ?_ ?_; (focus (go_simp; (try (intro h; cases h)); done)); simp only [Act.put, List.setIfInBounds_toArray, List.set_cons_zero, List.set_cons_succ]) | (refine Ord.wpOrd_take (v := ?_) ?_ ?_ ?_; rotate_left; (focus (go_simp; done)); (focus (intro w' hSw; (try dsimp only at hSw); go_simp; (try with_reducible rfl); done)); simp only [Act.put, List.setIfInBounds_toArray, List.set_cons_zero, List.set_cons_succ])))
            (refine Ord.wpOrd_call ?_ (fun K hK => ?_); (focus (go_simp; done)); go_simp)
            go_at_call 41
            refine (End_any gr rr _ (by exact hr3)).mono ?_
            rintro e w4 ⟨rfl, rfl⟩
            (refine hK _ _ ((by exact ⟨hx3.c0, hx3.c1⟩)) ?_; clear hK K; (try simp only [Act.put, List.setIfInBounds_toArray, List.set_cons_zero, List.set_cons_succ]); repeat (first | (refine Ord.wpOrd_skip ?_ ?_; (focus (go_simp; (try (intro h; cases h)); done)); simp only [Act.put, List.setIfInBounds_toArray, List.set_cons_zero, List.set_cons_succ]) | (refine Ord.wpOrd_take (v := ?_) ?_ ?_ ?_; rotate_left; (focus (go_simp; done)); (focus (intro w' hSw; (try dsimp only at hSw); go_simp; (try with_reducible rfl); done)); simp only [Act.put, List.setIfInBounds_toArray, List.set_cons_zero, List.set_cons_succ])))
            (refine Ord.wpOrd_call ?_ (fun K hK => ?_); (focus (go_simp; done)); go_simp)
            go_at_call 53
            refine (Ref01.End_any rr _).mono ?_
            rintro e w5 ⟨rfl, hb5⟩
            have hx5 : XAt w5 gx rr := XAt.below (w := w3.drew) hx3 hb5
            have hr5 : RdrAt w5 gr rr := RdrAt.below (w := w3.drew) hr3 hb5
            (refine hK _ _ (⟨hx5.c0, hx5.c1⟩) ?_; clear hK K; (try simp only [Act.put, List.setIfInBounds_toArray, List.set_cons_zero, List.set_cons_succ]); repeat (first | (refine Ord.wpOrd_skip ?_ ?_; (focus (go_simp; (try (intro h; cases h)); done)); simp only [Act.put, List.setIfInBounds_toArray, List.set_cons_zero, List.set_cons_succ]) | (refine Ord.wpOrd_take (v := ?_) ?_ ?_ ?_; rotate_left; (focus (go_simp; done)); (focus (intro w' hSw; (try dsimp only at hSw); go_simp; (try with_reducible rfl); done)); simp only [Act.put, List.setIfInBounds_toArray, List.set_cons_zero, List.set_cons_succ])))
            refine Ord.wpOrd_nil ?_
            go_wp2
            refine ⟨⟨k + 1, rr, by omega, by go_num, hr5, hx5, below_then hB3.drew hB3.drew.size hb5⟩, by simp only [intOf]; omega⟩
        · have hb0 : (kd == 0) = false := by simpa using hd0
          have hb1' : (kd == 1) = false := by simpa using hd1
          have hb2' : (kd == 2) = false := by simpa using hd2
          go_wp2_with fail
          go_cut [14, 15] from 42 to 51 (fun s1 s2 wx => ∃ g : Nat, s1 = .pointer (some ⟨g, 0, none⟩) ∧ s2 = .string (str (r.raw n).1) ∧ g ≠ gr ∧ g ≠ gx ∧ RdrAt wx gr r ∧ XAt wx gx r ∧ XAt wx g (r.raw n).2 ∧ Below w.heap.size w wx)
          case first =>
            have mk : ∀ W : World, XAt W gx r → Below w.heap.size w W → W.cell? ⟨gx, 0, none⟩ = some (.string (str r.b)) ∧ W.cell? ⟨gx, 1, none⟩ = some (.int .i64 (r.bad : Int)) ∧ W.cell? ⟨ba, off + k * 2 + 1, none⟩ = some (.int .i64 n) := fun W h1 h2 => ⟨h1.c0, h1.c1, cell_below h2 hk1⟩
            have hgl := hr.lt
            have hxl := hx.lt
            go_region_held3 (fun W => W.cell? ⟨gx, 0, none⟩ = some (.string (str r.b)) ∧ W.cell? ⟨gx, 1, none⟩ = some (.int .i64 (r.bad : Int)) ∧ W.cell? ⟨ba, off + k * 2 + 1, none⟩ = some (.int .i64 n))
              (first | exact mk _ hx hB.drew | exact mk _ hx2 hB2 | exact mk _ (blk_alloc hx2 _) (hB2.alloc hB2.size _) | exact mk _ (blk_alloc hx _) (hB.alloc hB.size _).drew | exact mk _ (blk_far (blk_far hx2 (by simp only; omega) _) (by simp only; omega) _) ((hB2.setCell hB.size _).setCell hB.size _))
              (first | (go_at_call 49; refine (Ref01.Raw_any r n _).mono ?_; rintro e w2 ⟨rfl, hb2⟩; (first
                | (have hx2 : XAt w2 gx r := XAt.below (w := wr.drew) hx hb2; have hr2 : RdrAt w2 gr r := RdrAt.below (w := wr.drew) hr hb2; have hB2 := below_then hB.drew hB.drew.size hb2)
                | (have hx2 : XAt w2 gx r := XAt.below (w := (wr.alloc (.cells #[.string ⟨#[]⟩, .int .i64 0] 81)).drew) (blk_alloc hx _) hb2; have hr2 : RdrAt w2 gr r := RdrAt.below (w := (wr.alloc (.cells #[.string ⟨#[]⟩, .int .i64 0] 81)).drew) (blk_alloc hr _) hb2; have hB2 := below_then (hB.alloc hB.size (.cells #[.string ⟨#[]⟩, .int .i64 0] 81)).drew (hB.alloc hB.size (.cells #[.string ⟨#[]⟩, .int .i64 0] 81)).drew.size hb2; have hg2 : w2.heap[wr.heap.size]? = some (.cells #[.string ⟨#[]⟩, .int .i64 0] 81) := blk_below (w := (wr.alloc (.cells #[.string ⟨#[]⟩, .int .i64 0] 81)).drew) (heap_alloc_new wr _) hb2; have hgc0 := blk_cell hg2 0; have hgc1 := blk_cell hg2 1; have hgf := blk_frozen hg2))))
            all_goals (go_wp2_with fail; go_meet)
            · exact ⟨_, rfl, rfl, by have := hr2.lt; omega, by have := hx2.lt; omega, blk_alloc hr2 _, blk_alloc hx2 _, heap_alloc_new _ _, hB2.alloc hB2.size _⟩
            · exact ⟨_, rfl, rfl, by omega, by omega, blk_far (blk_far hr2 (by simp only; omega) _) (by simp only; omega) _, blk_far (blk_far hx2 (by simp only; omega) _) (by simp only; omega) _, blk_set (blk_set hg2 0 _) 1 _, (hB2.setCell hB.size _).setCell hB.size _⟩
          case rest =>
            obtain ⟨g, rfl, rfl, hg1, hg2, hr2, hx2, hg, hB2⟩ := hcut
            have hk2 := cell_below hB2 hk1
            have hx20 := hx2.c0
            have hx21 := hx2.c1
            have hxf := hx2.f
            have hgc0 := hg.c0
            have hgc1 := hg.c1
            clear hr hx hB hxc0 hxc1 hk0' hk1'
            go_wp2_with (go_at_call 50; go_must (refine (Raw_any gr r n _ (copyR hr2 hne _ _)).mono ?_); rintro e w3 ⟨rfl, hl3⟩; have hr3 := hl3.1; have hx3 := XAt.left (copyX hx2 (r.raw n).2) hl3 hne; have hB3 := hl3.bel (copyB hB2 hgx _ _) (by have := hB2.size; simp only [setCell_size]; omega) hgr)
            obtain ⟨rr, hrr⟩ : ∃ rr, rr = (r.raw n).2 := ⟨_, rfl⟩
            rw [← hrr] at hr3 hx3
            clear hrr hl3 hr2 hx2 hB2 hg hgc0 hgc1 hx20 hx21 hxf hk2
            (refine Ord.wp_region_ord [(false, 0), (false, 2), (false, 3), (false, 4), (true, 1), (false, 5), (false, 6), (false, 7), (false, 9), (false, 10), (true, 8), (false, 11), (false, 12), (false, 13), (false, 14), (false, 16), (true, 15), (true, 17), (false, 18), (false, 19)] (fun w' => w'.cell? ⟨gx, 0, none⟩ = some (.string (str rr.b)) ∧ w'.cell? ⟨gx, 1, none⟩ = some (.int .i64 (rr.bad : Int))) (by kernel_rfl) (by kernel_rfl) (by kernel_rfl) (by kernel_rfl) (by exact ⟨hx3.c0, hx3.c1⟩) ?_; simp only [Ord.ordOps, List.filterMap_cons, List.filterMap_nil, List.getElem?_toArray, List.getElem?_cons_succ, List.getElem?_cons_zero, Option.map_some]; repeat (first | (refine Ord.wpOrd_skip ?_ ?_; (focus (go_simp; (try (intro h; cases h)); done)); simp only [Act.put, List.setIfInBounds_toArray, List.set_cons_zero, List.set_cons_succ]) | (refine Ord.wpOrd_take (v := ?_) ?_ ?_ ?_; rotate_left; (focus (go_simp; done)); (focus (intro w' hSw; (try dsimp only at hSw); go_simp; (try with_reducible rfl); done)); simp only [Act.put, List.setIfInBounds_toArray, List.set_cons_zero, List.set_cons_succ])))
            (refine Ord.wpOrd_call ?_ (fun K hK => ?_); (focus (go_simp; done)); go_simp)
            go_at_call 51
            refine (Left_any gr rr _ (by exact hr3)).mono ?_
            rintro e w4 ⟨rfl, rfl⟩
            (refine hK _ _ ((by exact ⟨hx3.c0, hx3.c1⟩)) ?_; clear hK K; (try simp only [Act.put, List.setIfInBounds_toArray, List.set_cons_zero, List.set_cons_succ]); repeat (first | (refine Ord.wpOrd_skip ?_ ?_; (focus (go_simp; (try (intro h; cases h)); done)); simp only [Act.put, List.setIfInBounds_toArray, List.set_cons_zero, List.set_cons_succ]) | (refine Ord.wpOrd_take (v := ?_) ?_ ?_ ?_; rotate_left; (focus (go_simp; done)); (focus (intro w' hSw; (try dsimp only at hSw); go_simp; (try with_reducible rfl); done)); simp only [Act.put, List.setIfInBounds_toArray, List.set_cons_zero, List.set_cons_succ])))
            (refine Ord.wpOrd_call ?_ (fun K hK => ?_); (focus (go_simp; done)); go_simp)
            go_at_call 52
            refine (Bad_any gr rr _ (by exact hr3)).mono ?_
            rintro e w4 ⟨rfl, rfl⟩
            (refine hK _ _ ((by exact ⟨hx3.c0, hx3.c1⟩)) ?_; clear hK K; (try simp only [Act.put, List.setIfInBounds_toArray, List.set_cons_zero, List.set_cons_succ]); repeat (first | (refine Ord.wpOrd_skip ?_ ?_; (focus (go_simp; (try (intro h; cases h)); done)); simp only [Act.put, List.setIfInBounds_toArray, List.set_cons_zero, List.set_cons_succ]) | (refine Ord.wpOrd_take (v := ?_) ?_ ?_ ?_; rotate_left; (focus (go_simp; done)); (focus (intro w' hSw; (try dsimp only at hSw); go_simp; (try with_reducible rfl); done)); simp only [Act.put, List.setIfInBounds_toArray, List.set_cons_zero, List.set_cons_succ])))
            (refine Ord.wpOrd_call ?_ (fun K hK => ?_); (focus (go_simp; done)); go_simp)
            go_at_call 41
            refine (End_any gr rr _ (by exact hr3)).mono ?_
            rintro e w4 ⟨rfl, rfl⟩
            (refine hK _ _ ((by exact ⟨hx3.c0, hx3.c1⟩)) ?_; clear hK K; (try simp only [Act.put, List.setIfInBounds_toArray, List.set_cons_zero, List.set_cons_succ]); repeat (first | (refine Ord.wpOrd_skip ?_ ?_; (focus (go_simp; (try (intro h; cases h)); done)); simp only [Act.put, List.setIfInBounds_toArray, List.set_cons_zero, List.set_cons_succ]) | (refine Ord.wpOrd_take (v := ?_) ?_ ?_ ?_; rotate_left; (focus (go_simp; done)); (focus (intro w' hSw; (try dsimp only at hSw); go_simp; (try with_reducible rfl); done)); simp only [Act.put, List.setIfInBounds_toArray, List.set_cons_zero, List.set_cons_succ])))
            (refine Ord.wpOrd_call ?_ (fun K hK => ?_); (focus (go_simp; done)); go_simp)
            go_at_call 53
            refine (Ref01.End_any rr _).mono ?_
            rintro e w5 ⟨rfl, hb5⟩
            have hx5 : XAt w5 gx rr := XAt.below (w := w3.drew) hx3 hb5
            have hr5 : RdrAt w5 gr rr := RdrAt.below (w := w3.drew) hr3 hb5
            (refine hK _ _ (⟨hx5.c0, hx5.c1⟩) ?_; clear hK K; (try simp only [Act.put, List.setIfInBounds_toArray, List.set_cons_zero, List.set_cons_succ]); repeat (first | (refine Ord.wpOrd_skip ?_ ?_; (focus (go_simp; (try (intro h; cases h)); done)); simp only [Act.put, List.setIfInBounds_toArray, List.set_cons_zero, List.set_cons_succ]) | (refine Ord.wpOrd_take (v := ?_) ?_ ?_ ?_; rotate_left; (focus (go_simp; done)); (focus (intro w' hSw; (try dsimp only at hSw); go_simp; (try with_reducible rfl); done)); simp only [Act.put, List.setIfInBounds_toArray, List.set_cons_zero, List.set_cons_succ])))
            refine Ord.wpOrd_nil ?_
            go_wp2
            refine ⟨⟨k + 1, rr, by omega, by go_num, hr5, hx5, below_then hB3.drew hB3.drew.size hb5⟩, by simp only [intOf]; omega⟩
      · by_cases hkl : k < la.length
        · have hk60 : ¬ k < 60 := by omega
          go_wp2_with (go_at_call 37; go_must (refine (one_any _).mono ?_); rintro e w4 ⟨rfl, hb4⟩)
          go_ret
          exact ⟨rfl, below_then hB hB.size hb4⟩
        · go_wp2_with (go_at_call 37; go_must (refine (one_any _).mono ?_); rintro e w4 ⟨rfl, hb4⟩)
          go_ret
          exact ⟨rfl, below_then hB hB.size hb4⟩
end Go.Proofs.Ytmiioehiffddeaa.Lay
