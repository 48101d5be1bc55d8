/- A region that draws its order and holds calls that turn the world, one behind the other: walked once, in an order that is handed in. -/
import Derived.Deep.RegionHeld3
set_option linter.unusedVariables false
set_option linter.unusedSimpArgs false
namespace Go.Proofs.Ytpldkplfdbjidaa.Ord
open Go

section
variable {P : Program} {ops : Array Oper} {Q : Exit → Act → World → Prop} {md : Region.Mode} {S : World → Prop}

/-- the walk: (true, o): o alone may come up; (false, o): o yields the same in every world that meets S -/
def wpOrd (P : Program) (ops : Array Oper) (Q : Exit → Act → World → Prop) (S : World → Prop) : List (Bool × Oper) → Act → World → Prop
  | [], a, w => Q .normal a w
  | (true, o) :: l, a, w => if Region.wanted o (yielded ops a.tmps) = true then o.wp P a w (fun a' w' => S w' ∧ wpOrd P ops Q S l a' w') Q else wpOrd P ops Q S l (a.put o.dst undef) w
  | (false, o) :: l, a, w => if Region.wanted o (yielded ops a.tmps) = true then ∃ v, (∀ w', S w' → (execOp a.eval o).run P w' = .ok (.value v) w') ∧ wpOrd P ops Q S l (a.put o.dst v) w else wpOrd P ops Q S l (a.put o.dst undef) w

def ordOk (md : Region.Mode) (ops : Array Oper) : List (Bool × Nat) → Array Bool → Bool
  | [], listed => (Region.ready md ops listed).isEmpty
  | (b, i) :: l, listed => (Region.ready md ops listed).contains i && (if b then (Region.ready md ops listed).all (· == i) else Region.free md ops listed i) && ordOk md ops l (listed.setIfInBounds i true)

def ordOps (ops : Array Oper) (l : List (Bool × Nat)) : List (Bool × Oper) := l.filterMap fun x => ops[x.2]?.map fun o => (x.1, o)

theorem wpAnyH_ord (hs : Region.noSelect ops = true) (hQ : ∀ (c : _) (a : Act) (d : Option Tmp) (v : Value) (w : World), Q (.panic c) (a.put d v) w → Q (.panic c) a w) :
    ∀ (l : List (Bool × Nat)) (listed : Array Bool) (a : Act) (w : World), ordOk md ops l listed = true → S w → wpOrd P ops Q S (ordOps ops l) a w → wpAnyH P md ops Q S l.length listed a w
  | [], listed, a, w, hB, hS, h => ⟨by simpa [ordOk] using hB, h⟩
  | (b, i) :: l, listed, a, w, hB, hS, h => by
    simp only [ordOk, Bool.and_eq_true] at hB
    obtain ⟨⟨hr, hf⟩, hB'⟩ := hB
    have hr' : i ∈ Region.ready md ops listed := by simpa using hr
    obtain ⟨_, o, ho, _⟩ := mem_ready.1 hr'
    have he : ordOps ops ((b, i) :: l) = (b, o) :: ordOps ops l := by simp [ordOps, ho]
    rw [he] at h
    have ih := wpAnyH_ord hs hQ l (listed.setIfInBounds i true)
    cases b with
    | false =>
      unfold wpOrd at h
      have hfr := Region.free_spec ho (show Region.free md ops listed i = true by simpa using hf)
      by_cases hw : Region.wanted o (yielded ops a.tmps) = true
      · rw [if_pos hw] at h
        obtain ⟨v, hv, hn⟩ := h
        exact wpAnyH_first ho (Region.noSelect_spec hs) (fun c a w => hQ c a _ v w) _ _ _ _ hfr hr' (.inl ⟨hw, hv⟩) hS (ih _ _ hB' hS hn)
      · rw [if_neg hw] at h
        exact wpAnyH_first ho (Region.noSelect_spec hs) (fun c a w => hQ c a _ undef w) _ _ _ _ hfr hr' (.inr ⟨by simpa using hw, rfl⟩) hS (ih _ _ hB' hS h)
    | true =>
      unfold wpOrd at h
      refine ⟨fun h0 => (by rw [h0] at hr'; cases hr'), fun j hj => ?_⟩
      have hji : j = i := by
        have hf' : (Region.ready md ops listed).all (· == i) = true := by simpa using hf
        have := List.all_eq_true.1 hf' j hj
        simpa using this
      subst hji
      unfold wpOp
      simp only [ho]
      by_cases hw : Region.wanted o (yielded ops a.tmps) = true
      · rw [if_pos hw] at h ⊢
        exact .inl (Oper.wp_mono (fun a' w' h' => ⟨h'.1, ih a' w' hB' h'.1 h'.2⟩) h)
      · rw [if_neg hw] at h ⊢
        exact ⟨hS, ih _ _ hB' hS h⟩

/-- the same, shut: so that a law that does not fit fails at once -/
structure WpOrd (P : Program) (ops : Array Oper) (Q : Exit → Act → World → Prop) (S : World → Prop) (l : List (Bool × Oper)) (a : Act) (w : World) : Prop where
  out : wpOrd P ops Q S l a w

theorem wp_region_ord {id : Nat} {a : Act} {w : World} (l : List (Bool × Nat)) (S : World → Prop) (hm : P.follows .mixedOrders = true) (hs : Region.noSelect ops = true) (hl : l.length = ops.size) (hB : ordOk .any ops l (Array.replicate ops.size false) = true)
    (hS : S w.drew) (h : WpOrd P ops (NoPanic Q) S (ordOps ops l) a w.drew) : (Code.region id ops true).wp P Q a w :=
  wp_region_noPanic (wp_region_held hm (hl ▸ wpAnyH_ord hs (fun _ _ _ _ _ h => h) l _ _ _ hB hS h.out))

theorem wpOrd_nil {a : Act} {w : World} (h : Q .normal a w) : WpOrd P ops (NoPanic Q) S [] a w := ⟨NoPanic.normal h⟩
theorem wpOrd_skip {b : Bool} {o : Oper} {l : List (Bool × Oper)} {a : Act} {w : World} (hw : Region.wanted o (yielded ops a.tmps) = false) (h : WpOrd P ops Q S l (a.put o.dst undef) w) : WpOrd P ops Q S ((b, o) :: l) a w := by
  refine ⟨?_⟩
  cases b <;> (unfold wpOrd; rw [hw]; exact h.out)
theorem wpOrd_take {v : Value} {o : Oper} {l : List (Bool × Oper)} {a : Act} {w : World} (hw : Region.wanted o (yielded ops a.tmps) = true) (hv : ∀ w', S w' → (execOp a.eval o).run P w' = .ok (.value v) w')
    (h : WpOrd P ops Q S l (a.put o.dst v) w) : WpOrd P ops Q S ((false, o) :: l) a w := by
  refine ⟨?_⟩
  unfold wpOrd; rw [if_pos hw]; exact ⟨v, hv, h.out⟩
theorem wpOrd_call {o : Oper} {l : List (Bool × Oper)} {a : Act} {w : World} (hw : Region.wanted o (yielded ops a.tmps) = true)
    (h : ∀ K : Act → World → Prop, (∀ a' w', S w' → WpOrd P ops Q S l a' w' → K a' w') → o.wp P a w K Q) : WpOrd P ops Q S ((true, o) :: l) a w := by
  refine ⟨?_⟩
  unfold wpOrd; rw [if_pos hw]; exact h _ (fun _ _ h1 h2 => ⟨h1, h2.out⟩)
end
end Go.Proofs.Ytpldkplfdbjidaa.Ord
