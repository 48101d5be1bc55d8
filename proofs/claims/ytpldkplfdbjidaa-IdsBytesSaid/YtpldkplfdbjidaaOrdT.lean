/- The same as Ord, where at some places either of two operations may come up first: walked along a tree. -/
import Derived.Test.YtpldkplfdbjidaaOrdL
set_option linter.unusedVariables false
set_option linter.unusedSimpArgs false
namespace Go.Proofs.Ytpldkplfdbjidaa.Ord
open Go

/-- an order with forks: 'two i r j s': either i comes up, and then r, or j, and then s -/
inductive OT (α : Type) where
  | nil : OT α
  | go : Bool → α → OT α → OT α
  | two : α → OT α → α → OT α → OT α
def OT.of {α : Type} : List (Bool × α) → OT α → OT α
  | [], t => t
  | (b, i) :: l, t => .go b i (OT.of l t)
def OT.deep {α : Type} : OT α → Nat
  | .nil => 0
  | .go _ _ r => r.deep + 1
  | .two _ r _ s => max r.deep s.deep + 1

section
variable {P : Program} {ops : Array Oper} {Q : Exit → Act → World → Prop} {md : Region.Mode} {S : World → Prop}

def wpTree (P : Program) (ops : Array Oper) (Q : Exit → Act → World → Prop) (S : World → Prop) : OT Nat → Act → World → Prop
  | .nil, a, w => Q .normal a w
  | .go true i r, a, w => ∀ o, ops[i]? = some o → if Region.wanted o (yielded ops a.tmps) = true then o.wp P a w (fun a' w' => S w' ∧ wpTree P ops Q S r a' w') Q else wpTree P ops Q S r (a.put o.dst undef) w
  | .go false i r, a, w => ∀ o, ops[i]? = some o → if Region.wanted o (yielded ops a.tmps) = true then ∃ v, (∀ w', S w' → (execOp a.eval o).run P w' = .ok (.value v) w') ∧ wpTree P ops Q S r (a.put o.dst v) w else wpTree P ops Q S r (a.put o.dst undef) w
  | .two i r j s, a, w =>
    (∀ o, ops[i]? = some o → if Region.wanted o (yielded ops a.tmps) = true then o.wp P a w (fun a' w' => S w' ∧ wpTree P ops Q S r a' w') Q else wpTree P ops Q S r (a.put o.dst undef) w) ∧
    (∀ o, ops[j]? = some o → if Region.wanted o (yielded ops a.tmps) = true then o.wp P a w (fun a' w' => S w' ∧ wpTree P ops Q S s a' w') Q else wpTree P ops Q S s (a.put o.dst undef) w)

/-- all ways have n steps, and each is as it may be -/
def treeOk (md : Region.Mode) (ops : Array Oper) : OT Nat → Nat → Array Bool → Bool
  | .nil, n, listed => n == 0 && (Region.ready md ops listed).isEmpty
  | .go b i r, n, listed => n != 0 && (Region.ready md ops listed).contains i && (if b then (Region.ready md ops listed).all (· == i) else Region.free md ops listed i) && treeOk md ops r (n - 1) (listed.setIfInBounds i true)
  | .two i r j s, n, listed => n != 0 && (Region.ready md ops listed).contains i && (Region.ready md ops listed).all (fun k => k == i || k == j) && treeOk md ops r (n - 1) (listed.setIfInBounds i true) && treeOk md ops s (n - 1) (listed.setIfInBounds j true)

theorem wpAnyH_tree (hs : Region.noSelect ops = true) (hQ : ∀ (c : _) (a : Act) (d : Option Tmp) (v : Value) (w : World), Q (.panic c) (a.put d v) w → Q (.panic c) a w) :
    ∀ (t : OT Nat) (n : Nat) (listed : Array Bool) (a : Act) (w : World), treeOk md ops t n listed = true → S w → wpTree P ops Q S t a w → wpAnyH P md ops Q S n listed a w
  | .nil, n, listed, a, w, hB, hS, h => by
    simp only [treeOk, Bool.and_eq_true, beq_iff_eq] at hB
    obtain ⟨rfl, hB⟩ := hB
    exact ⟨by simpa using hB, h⟩
  | .go b i r, 0, listed, a, w, hB, hS, h => by simp [treeOk] at hB
  | .go b i r, n + 1, listed, a, w, hB, hS, h => by
    simp only [treeOk, Bool.and_eq_true] at hB
    obtain ⟨⟨⟨_, hr⟩, hf⟩, hB'⟩ := hB
    have hr' : i ∈ Region.ready md ops listed := by simpa using hr
    obtain ⟨_, o, ho, _⟩ := mem_ready.1 hr'
    have ih := wpAnyH_tree hs hQ r n (listed.setIfInBounds i true)
    cases b with
    | false =>
      unfold wpTree at h
      replace h := h o ho
      have hfr := Region.free_spec ho (show Region.free md ops listed i = true by simpa using hf)
      by_cases hw : Region.wanted o (yielded ops a.tmps) = true
      · rw [if_pos hw] at h
        obtain ⟨v, hv, hn⟩ := h
        exact wpAnyH_first ho (Region.noSelect_spec hs) (fun c a w => hQ c a _ v w) _ _ _ _ hfr hr' (.inl ⟨hw, hv⟩) hS (ih _ _ hB' hS hn)
      · rw [if_neg hw] at h
        exact wpAnyH_first ho (Region.noSelect_spec hs) (fun c a w => hQ c a _ undef w) _ _ _ _ hfr hr' (.inr ⟨by simpa using hw, rfl⟩) hS (ih _ _ hB' hS h)
    | true =>
      unfold wpTree at h
      replace h := h o ho
      refine ⟨fun h0 => (by rw [h0] at hr'; cases hr'), fun j hj => ?_⟩
      have hji : j = i := by
        have hf' : (Region.ready md ops listed).all (· == i) = true := by simpa using hf
        have := List.all_eq_true.1 hf' j hj
        simpa using this
      subst hji
      unfold wpOp
      simp only [ho]
      by_cases hw : Region.wanted o (yielded ops a.tmps) = true
      · rw [if_pos hw] at h ⊢
        exact .inl (Oper.wp_mono (fun a' w' h' => ⟨h'.1, ih a' w' hB' h'.1 h'.2⟩) h)
      · rw [if_neg hw] at h ⊢
        exact ⟨hS, ih _ _ hB' hS h⟩
  | .two i r j s, 0, listed, a, w, hB, hS, h => by simp [treeOk] at hB
  | .two i r j s, n + 1, listed, a, w, hB, hS, h => by
    simp only [treeOk, Bool.and_eq_true] at hB
    obtain ⟨⟨⟨⟨_, hr⟩, hf⟩, hB1⟩, hB2⟩ := hB
    have hr' : i ∈ Region.ready md ops listed := by simpa using hr
    have ih1 := wpAnyH_tree hs hQ r n (listed.setIfInBounds i true)
    have ih2 := wpAnyH_tree hs hQ s n (listed.setIfInBounds j true)
    unfold wpTree at h
    refine ⟨fun h0 => (by rw [h0] at hr'; cases hr'), fun k hk => ?_⟩
    have hki : k = i ∨ k = j := by
      have := List.all_eq_true.1 hf k hk
      simpa using this
    obtain ⟨_, o, ho, _⟩ := mem_ready.1 hk
    unfold wpOp
    simp only [ho]
    rcases hki with rfl | rfl
    · have h := h.1 o ho
      by_cases hw : Region.wanted o (yielded ops a.tmps) = true
      · rw [if_pos hw] at h ⊢
        exact .inl (Oper.wp_mono (fun a' w' h' => ⟨h'.1, ih1 a' w' hB1 h'.1 h'.2⟩) h)
      · rw [if_neg hw] at h ⊢
        exact ⟨hS, ih1 _ _ hB1 hS h⟩
    · have h := h.2 o ho
      by_cases hw : Region.wanted o (yielded ops a.tmps) = true
      · rw [if_pos hw] at h ⊢
        exact .inl (Oper.wp_mono (fun a' w' h' => ⟨h'.1, ih2 a' w' hB2 h'.1 h'.2⟩) h)
      · rw [if_neg hw] at h ⊢
        exact ⟨hS, ih2 _ _ hB2 hS h⟩

/-- the same over the operations themselves, shut -/
def OT.opers (ops : Array Oper) : OT Nat → OT Oper
  | .nil => .nil
  | .go b i r => match ops[i]? with | some o => .go b o (OT.opers ops r) | none => .nil
  | .two i r j s => match ops[i]?, ops[j]? with | some o, some p => .two o (OT.opers ops r) p (OT.opers ops s) | _, _ => .nil
def wpT (P : Program) (ops : Array Oper) (Q : Exit → Act → World → Prop) (S : World → Prop) : OT Oper → Act → World → Prop
  | .nil, a, w => Q .normal a w
  | .go true o r, a, w => if Region.wanted o (yielded ops a.tmps) = true then o.wp P a w (fun a' w' => S w' ∧ wpT P ops Q S r a' w') Q else wpT P ops Q S r (a.put o.dst undef) w
  | .go false o r, a, w => if Region.wanted o (yielded ops a.tmps) = true then ∃ v, (∀ w', S w' → (execOp a.eval o).run P w' = .ok (.value v) w') ∧ wpT P ops Q S r (a.put o.dst v) w else wpT P ops Q S r (a.put o.dst undef) w
  | .two o r p s, a, w =>
    (if Region.wanted o (yielded ops a.tmps) = true then o.wp P a w (fun a' w' => S w' ∧ wpT P ops Q S r a' w') Q else wpT P ops Q S r (a.put o.dst undef) w) ∧
    (if Region.wanted p (yielded ops a.tmps) = true then p.wp P a w (fun a' w' => S w' ∧ wpT P ops Q S s a' w') Q else wpT P ops Q S s (a.put p.dst undef) w)
def treeIn (n : Nat) : OT Nat → Bool
  | .nil => true
  | .go _ i r => decide (i < n) && treeIn n r
  | .two i r j s => decide (i < n) && decide (j < n) && treeIn n r && treeIn n s
theorem wpTree_of : ∀ (t : OT Nat) (a : Act) (w : World), treeIn ops.size t = true → wpT P ops Q S (OT.opers ops t) a w → wpTree P ops Q S t a w
  | .nil, a, w, _, h => h
  | .go b i r, a, w, hi, h => by
    simp only [treeIn, Bool.and_eq_true, decide_eq_true_eq] at hi
    obtain ⟨o, ho⟩ : ∃ o, ops[i]? = some o := ⟨ops[i]'hi.1, Array.getElem?_eq_getElem hi.1⟩
    have ih := wpTree_of r
    simp only [OT.opers, ho] at h
    cases b <;> (unfold wpTree; intro o' ho'; rw [ho] at ho'; injection ho' with ho'; subst ho'; unfold wpT at h)
    · by_cases hw : Region.wanted o (yielded ops a.tmps) = true
      · rw [if_pos hw] at h ⊢; obtain ⟨v, h1, h2⟩ := h; exact ⟨v, h1, ih _ _ hi.2 h2⟩
      · rw [if_neg hw] at h ⊢; exact ih _ _ hi.2 h
    · by_cases hw : Region.wanted o (yielded ops a.tmps) = true
      · rw [if_pos hw] at h ⊢; exact Oper.wp_mono (fun a' w' h' => ⟨h'.1, ih _ _ hi.2 h'.2⟩) h
      · rw [if_neg hw] at h ⊢; exact ih _ _ hi.2 h
  | .two i r j s, a, w, hi, h => by
    simp only [treeIn, Bool.and_eq_true, decide_eq_true_eq] at hi
    obtain ⟨⟨⟨hi1, hi2⟩, hi3⟩, hi4⟩ := hi
    obtain ⟨o, ho⟩ : ∃ o, ops[i]? = some o := ⟨ops[i]'hi1, Array.getElem?_eq_getElem hi1⟩
    obtain ⟨p, hp⟩ : ∃ o, ops[j]? = some o := ⟨ops[j]'hi2, Array.getElem?_eq_getElem hi2⟩
    have ih1 := wpTree_of r
    have ih2 := wpTree_of s
    simp only [OT.opers, ho, hp] at h
    unfold wpT at h
    unfold wpTree
    refine ⟨fun o' ho' => ?_, fun o' ho' => ?_⟩
    · rw [ho] at ho'; injection ho' with ho'; subst ho'
      have h := h.1
      by_cases hw : Region.wanted o (yielded ops a.tmps) = true
      · rw [if_pos hw] at h ⊢; exact Oper.wp_mono (fun a' w' h' => ⟨h'.1, ih1 _ _ hi3 h'.2⟩) h
      · rw [if_neg hw] at h ⊢; exact ih1 _ _ hi3 h
    · rw [hp] at ho'; injection ho' with ho'; subst ho'
      have h := h.2
      by_cases hw : Region.wanted p (yielded ops a.tmps) = true
      · rw [if_pos hw] at h ⊢; exact Oper.wp_mono (fun a' w' h' => ⟨h'.1, ih2 _ _ hi4 h'.2⟩) h
      · rw [if_neg hw] at h ⊢; exact ih2 _ _ hi4 h
structure WpT (P : Program) (ops : Array Oper) (Q : Exit → Act → World → Prop) (S : World → Prop) (t : OT Oper) (a : Act) (w : World) : Prop where
  out : wpT P ops Q S t a w
theorem wp_region_tree {id : Nat} {a : Act} {w : World} (t : OT Nat) (S : World → Prop) (hm : P.follows .mixedOrders = true) (hs : Region.noSelect ops = true) (hl : treeIn ops.size t = true) (hB : treeOk .any ops t ops.size (Array.replicate ops.size false) = true)
    (hS : S w.drew) (h : WpT P ops (NoPanic Q) S (OT.opers ops t) a w.drew) : (Code.region id ops true).wp P Q a w :=
  wp_region_noPanic (wp_region_held hm (wpAnyH_tree hs (fun _ _ _ _ _ h => h) t _ _ _ _ hB hS (wpTree_of t _ _ hl h.out)))
theorem wpT_nil {a : Act} {w : World} (h : Q .normal a w) : WpT P ops (NoPanic Q) S .nil a w := ⟨NoPanic.normal h⟩
theorem wpT_skip {b : Bool} {o : Oper} {r : OT Oper} {a : Act} {w : World} (hw : Region.wanted o (yielded ops a.tmps) = false) (h : WpT P ops Q S r (a.put o.dst undef) w) : WpT P ops Q S (.go b o r) a w := by
  refine ⟨?_⟩
  cases b <;> (unfold wpT; rw [hw]; exact h.out)
theorem wpT_take {v : Value} {o : Oper} {r : OT Oper} {a : Act} {w : World} (hw : Region.wanted o (yielded ops a.tmps) = true) (hv : ∀ w', S w' → (execOp a.eval o).run P w' = .ok (.value v) w')
    (h : WpT P ops Q S r (a.put o.dst v) w) : WpT P ops Q S (.go false o r) a w := by
  refine ⟨?_⟩
  unfold wpT; rw [if_pos hw]; exact ⟨v, hv, h.out⟩
theorem wpT_call {o : Oper} {r : OT Oper} {a : Act} {w : World} (hw : Region.wanted o (yielded ops a.tmps) = true)
    (h : ∀ K : Act → World → Prop, (∀ a' w', S w' → WpT P ops Q S r a' w' → K a' w') → o.wp P a w K Q) : WpT P ops Q S (.go true o r) a w := by
  refine ⟨?_⟩
  unfold wpT; rw [if_pos hw]; exact h _ (fun _ _ h1 h2 => ⟨h1, h2.out⟩)
theorem wpT_two {o p : Oper} {r s : OT Oper} {a : Act} {w : World} (h1 : WpT P ops Q S (.go true o r) a w) (h2 : WpT P ops Q S (.go true p s) a w) : WpT P ops Q S (.two o r p s) a w := by
  refine ⟨?_⟩
  unfold wpT
  have h1 := h1.out
  have h2 := h2.out
  unfold wpT at h1 h2
  exact ⟨h1, h2⟩
theorem wpT_load_mid {o : Oper} {l : OT Oper} {a : Act} {w : World} (hw : Region.wanted o (yielded ops a.tmps) = true) (ty : TypeId) (x : Operand) (ho : o.op = .load ty x)
    (b off : Nat) (hx : a.eval x = .pointer (some ⟨b, off, none⟩)) (cs : List Value) (d : TypeDesc) (hS : ∀ w, S w → w.rangeAt b off cs)
    (hu : P.underlying ty = some d) (hd : d.isRow = true) (hi : (P.info? ty).map (·.size) = some cs.length)
    (h : WpT P ops Q S l (a.put o.dst (.agg cs.toArray)) w) : WpT P ops Q S (.go false o l) a w :=
  wpT_take hw (fun w' hw' => by
    unfold execOp
    simp only [ho, hx, Instr.loadAt, Instr.sureAddr, Sem.run_bind, Sem.run_pure, Result.andThen_ok, run_loadVar_mid w' b off ty cs d (hS w' hw') hu hd hi]) h
end
end Go.Proofs.Ytpldkplfdbjidaa.Ord
