/- Ids' walks: Or, And, Less, Within, Same of sets that are right. -/
import Derived.Test.YtpldkplfdbjidaaSetKeep
import Derived.Test.YtpldkplfdbjidaaIdsEq
import Derived.Test.YtpldkplfdbjidaaIdsO
import Derived.Test.YtpldkplfdbjidaaIdsC
set_option linter.unusedVariables false
set_option linter.unusedSimpArgs false
namespace Go.Proofs.Ytpldkplfdbjidaa.Ids
open Go.RowKit Go.Proofs.Ytpldkplfdbjidaa.Wd Go.Proofs.Ytpldkplfdbjidaa.Use Go.Proofs.Ytpldkplfdbjidaa.Lay

/-- what a walk knows of a set: rising, of sums, not great, and where it lies -/
structure SetAt (W : World) (v : Value) (l : List Id) : Prop where
  rd : Rd W 32 v l.length (ix l)
  w32 : W32 l
  up : Sorted l
  len : l.length ≤ 400000
theorem SetAt.below {W W1 : World} {v : Value} {l : List Id} (h : SetAt W v l) (hb : Below W.heap.size W W1) : SetAt W1 v l := ⟨h.rd.below hb, h.w32, h.up, h.len⟩
theorem SetAt.own {W : World} {base : Nat} {v : Value} {l : List Id} (h : W.ownsRow base 23 32 v l.length (ix l)) (h1 : W32 l) (h2 : Sorted l) (h3 : l.length ≤ 400000) : SetAt W v l := ⟨Rd.of_own h, h1, h2, h3⟩
set_option maxRecDepth 100000 in
set_option maxHeartbeats 4000000 in
theorem Or_any (s t : List Id) (v u : Value) (w : World) (hs : SetAt w v s) (ht : SetAt w u t) :
    Calls Try.prog 21 #[v, u] w fun e w' => ∃ v', e = .returned v' ∧ w'.ownsRow w.heap.size 23 32 v' (sor s t).length (ix (sor s t)) ∧ Below w.heap.size w w' := by
  have hsl := hs.len
  have htl := ht.len
  have Hcl := Lib.hid (CloneS_any s v w hs.rd (by omega))
  have Hof := Lib.hid (fun v W h => Of_any (s ++ t) (hs.w32.app ht.w32) (by rw [List.length_append]; omega) v W h)
  have Hu := Lib.hid ht.rd
  have hx := ix_append s t
  have Hx := Lib.hid hx
  have Hl := Lib.hid (show (s ++ t).length = s.length + t.length from List.length_append)
  clear hs ht hx
  go_enter Try.func21, Try.ntmps21
  go_wp2_with (first
    | (go_at_call 73; refine Hcl.out.mono ?_; rintro e w1 ⟨v1, rfl, ho1, hb1⟩; have Ho1 := Lib.hid ho1; have Hu1 := Lib.hid (Hu.out.below hb1); clear ho1)
    | (at_builtin; go_must (refine app_row elSet rfl (.tmp 6) (.tmp 7) rfl w.heap.size _ _ s.length t.length (ix s) (ix t) rfl rfl (bs_oneCell _) Ho1.out Hu1.out hb1 hb1.size (by omega) ?_); intro v2 w2 ho2 hB2 hg2 hat2; clear hg2 hat2; rw [← Hl.out, ← Hx.out] at ho2; have Ho2 := Lib.hid (Hof.out _ _ (Rd.of_own ho2)); clear ho2)
    | (go_at_call 19; refine Ho2.out.mono ?_; rintro e w3 ⟨v3, rfl, ho3, hb3⟩))
  go_ret
  exact ⟨_, rfl, own_base_le ho3 hB2.size, below_go hb3 hB2⟩
set_option maxRecDepth 100000 in
set_option maxHeartbeats 4000000 in
theorem And_any (s t : List Id) (v u : Value) (w : World) (hs : SetAt w v s) (ht : SetAt w u t) :
    Calls Try.prog 22 #[v, u] w fun e w' => ∃ v', e = .returned v' ∧ w'.ownsRow w.heap.size 23 32 v' (sand s t).length (ix (sand s t)) ∧ Below w.heap.size w w' := by
  have hsl := hs.len
  have htl := ht.len
  have Hri := Lib.hid (right_any u t ht.w32 ht.up (by omega) w ht.rd)
  have Hke := Lib.hid (fun W (h : Below w.heap.size w W) => keepHas_any (fun x => decide (x ∈ t)) s hs.w32 (by omega) hs.up v u W (hs.rd.below h) (fun x W' hx hb => Has_any t x ht.w32 hx (by omega) ht.up u W' (ht.rd.below (below_go hb h))))
  clear hs ht
  go_enter Try.func22, Try.ntmps22
  go_wp2_with (first
    | (go_at_call 70; refine Hri.out.mono ?_; rintro e w1 ⟨rfl, hb1⟩)
    | (go_at_call 71; refine (Hke.out _ hb1).mono ?_; rintro e w2 ⟨v2, rfl, ho2, hb2⟩))
  go_ret
  exact ⟨_, rfl, own_base_le ho2 hb1.size, below_go hb2 hb1⟩
set_option maxRecDepth 100000 in
set_option maxHeartbeats 4000000 in
theorem lessFn_any (t : List Id) (x : Id) (hx : x.length = 32) (u : Value) (q : Nat) (w : World) (ht : SetAt w u t) (hc : w.cell? ⟨q, 0, none⟩ = some u) :
    Calls Try.prog 72 #[.agg (bs x).toArray, .pointer (some ⟨q, 0, none⟩)] w fun r w' => r = .returned (.bool (!decide (x ∈ t))) ∧ Below w.heap.size w w' := by
  have htl := ht.len
  have hB1 := below_one w (.cells (bs x).toArray 23)
  have Hha := Lib.hid (Has_any t x ht.w32 hx (by omega) ht.up u _ (ht.rd.below hB1))
  have hr := range_all (W := w.alloc (.cells (bs x).toArray 23)) (heap_alloc_new _ _)
  have hc1 := cell_below hB1 hc
  obtain ⟨X, hX⟩ : ∃ X, X = bs x := ⟨_, rfl⟩
  have Hix := Lib.hid (show (Try.prog.info? 23).map (·.size) = some X.length by rw [hX, bs_length, hx]; rfl)
  rw [← hX] at Hha hr hc1 hB1 ⊢
  have Hr := Lib.hid hr
  obtain ⟨m, hm⟩ : ∃ m, m = decide (x ∈ t) := ⟨_, rfl⟩
  rw [← hm] at Hha ⊢
  clear hr ht hc hX hm
  go_enter Try.func72, Try.ntmps72
  go_wp2_with (first
    | (refine wpList_load_mid rfl 23 _ rfl w.heap.size 0 rfl X _ Hr.out Try.underlying23 rfl Hix.out ?_)
    | (go_at_call 66; refine Hha.out.mono ?_; rintro e w2 ⟨rfl, hb2⟩))
  go_ret
  exact ⟨rfl, below_go hb2 hB1⟩
set_option maxRecDepth 100000 in
set_option maxHeartbeats 4000000 in
theorem Less_set_any (s t : List Id) (v u : Value) (w : World) (hs : SetAt w v s) (ht : SetAt w u t) :
    Calls Try.prog 20 #[v, u] w fun e w' => ∃ v', e = .returned v' ∧ w'.ownsRow w.heap.size 23 32 v' (sless s t).length (ix (sless s t)) ∧ Below w.heap.size w w' := by
  obtain ⟨A, c, rfl, -, -, -⟩ := ht.rd.slice_
  have hsl := hs.len
  have htl := ht.len
  have Hri := Lib.hid (right_any _ t ht.w32 ht.up (by omega) w ht.rd)
  have Hke := Lib.hid (fun w1 (h1 : Below w.heap.size w w1) => show Calls Try.prog 71 #[v, .func (.func 72) #[] #[.pointer (some ⟨w1.heap.size, 0, none⟩)]] (w1.alloc (.cells #[.slice A t.length c] 34)) _ from
    keepLess_any (fun x => !decide (x ∈ t)) s hs.w32 (by omega) hs.up v w1.heap.size _ (hs.rd.below (below_go (below_one w1 _) h1)) (fun x W' hx hb => lessFn_any t x hx _ w1.heap.size W' (ht.below (below_go hb (below_go (below_one w1 _) h1))) (cell_below hb (Boxed.new w1 34 (.slice A t.length c)).cell)))
  clear hs ht
  go_enter Try.func20, Try.ntmps20
  go_wp2_with (first
    | (go_at_call 70; refine Hri.out.mono ?_; rintro e w1 ⟨rfl, hb1⟩)
    | (go_at_call 71; refine (Hke.out _ hb1).mono ?_; rintro e w2 ⟨v2, rfl, ho2, hb2⟩))
  go_ret
  exact ⟨_, rfl, own_base_le ho2 (Nat.le_trans hb1.size (below_one w1 _).size), below_go hb2 (below_go (below_one w1 _) hb1)⟩
set_option maxRecDepth 100000 in
set_option maxHeartbeats 4000000 in
theorem Within_any (s t : List Id) (v u : Value) (w : World) (hs : SetAt w v s) (ht : SetAt w u t) :
    Calls Try.prog 24 #[v, u] w fun e w' => e = .returned (.bool (decide (sless s t = []))) ∧ Below w.heap.size w w' := by
  have Hle := Lib.hid (Less_set_any s t v u w hs ht)
  have hq : decide (sless s t = []) = decide (((sless s t).length : Int) = 0) := by
    rw [Bool.eq_iff_iff]; simp
  have hlt := sless_len s t
  have hsl := hs.len
  rw [hq]
  obtain ⟨R, hR⟩ : ∃ R, R = sless s t := ⟨_, rfl⟩
  rw [← hR] at Hle hlt ⊢
  clear hs ht hq hR
  go_enter Try.func24, Try.ntmps24
  go_wp2_with (go_at_call 20; refine Hle.out.mono ?_; rintro e w1 ⟨v1, rfl, ho1, hb1⟩; obtain ⟨A1, c1, rfl, -, -, -⟩ := (Rd.of_own ho1).slice_; clear ho1)
  go_ret
  exact ⟨rfl, hb1⟩
set_option maxRecDepth 100000 in
set_option maxHeartbeats 4000000 in
theorem Same_any (s t : List Id) (v u : Value) (w : World) (hs : SetAt w v s) (ht : SetAt w u t) :
    Calls Try.prog 23 #[v, u] w fun e w' => e = .returned (.bool (s == t)) ∧ Below w.heap.size w w' := by
  have hsl := hs.len
  have htl := ht.len
  have Hr1 := Lib.hid (right_any v s hs.w32 hs.up (by omega) w hs.rd)
  have Hr2 := Lib.hid (fun W (h : Below w.heap.size w W) => right_any u t ht.w32 ht.up (by omega) W (ht.rd.below h))
  have Heq := Lib.hid (fun W (h : Below w.heap.size w W) => idsEq_any s t hs.w32 ht.w32 v u W (hs.rd.below h) (ht.rd.below h))
  clear hs ht
  go_enter Try.func23, Try.ntmps23
  go_wp2_with (first
    | (go_at_call 74; refine (Heq.out _ (below_go hb2 hb1)).mono ?_; rintro e w3 ⟨rfl, hb3⟩)
    | (go_at_call 70; refine (Hr2.out _ hb1).mono ?_; rintro e w2 ⟨rfl, hb2⟩)
    | (go_at_call 70; refine Hr1.out.mono ?_; rintro e w1 ⟨rfl, hb1⟩))
  go_ret
  exact ⟨rfl, below_go hb3 (below_go hb2 hb1)⟩
theorem Same_true {s t : List Id} {v u : Value} {w : World} (h : s = t) (hs : SetAt w v s) (ht : SetAt w u t) :
    Calls Try.prog 23 #[v, u] w fun e w' => e = .returned (.bool true) ∧ Below w.heap.size w w' := by
  have h2 := Same_any s t v u w hs ht
  rwa [beq_iff_eq.2 h] at h2
theorem Within_is {b : Bool} {s t : List Id} {v u : Value} {w : World} (h : decide (sless s t = []) = b) (hs : SetAt w v s) (ht : SetAt w u t) :
    Calls Try.prog 24 #[v, u] w fun e w' => e = .returned (.bool b) ∧ Below w.heap.size w w' := by
  have h2 := Within_any s t v u w hs ht
  rwa [h] at h2
theorem Right_true {s : List Id} {v : Value} {w : World} (hs : SetAt w v s) :
    Calls Try.prog 25 #[v] w fun e w' => e = .returned (.bool true) ∧ Below w.heap.size w w' := by
  have h2 := Right_any v s hs.w32 (Nat.le_trans hs.len (by decide)) w hs.rd
  rwa [(up_iff s).2 hs.up] at h2
end Go.Proofs.Ytpldkplfdbjidaa.Ids
