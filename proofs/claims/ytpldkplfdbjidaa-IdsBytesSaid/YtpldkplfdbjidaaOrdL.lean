/- Loads of whole arrays in a region that draws its order. -/
import Derived.Test.YtpldkplfdbjidaaOrd
import Derived.Deep.MidRow
set_option linter.unusedVariables false
set_option linter.unusedSimpArgs false
namespace Go.Proofs.Ytpldkplfdbjidaa.Ord
open Go
theorem wpOrd_load_mid {P : Program} {ops : Array Oper} {Q : Exit → Act → World → Prop} {S : World → Prop} {o : Oper} {l : List (Bool × Oper)} {a : Act} {w : World} (hw : Region.wanted o (yielded ops a.tmps) = true) (ty : TypeId) (x : Operand) (ho : o.op = .load ty x)
    (b off : Nat) (hx : a.eval x = .pointer (some ⟨b, off, none⟩)) (cs : List Value) (d : TypeDesc) (hS : ∀ w, S w → w.rangeAt b off cs)
    (hu : P.underlying ty = some d) (hd : d.isRow = true) (hi : (P.info? ty).map (·.size) = some cs.length)
    (h : WpOrd P ops Q S l (a.put o.dst (.agg cs.toArray)) w) : WpOrd P ops Q S ((false, o) :: l) a w :=
  wpOrd_take hw (fun w' hw' => by
    unfold execOp
    simp only [ho, hx, Instr.loadAt, Instr.sureAddr, Sem.run_bind, Sem.run_pure, Result.andThen_ok, run_loadVar_mid w' b off ty cs d (hS w' hw') hu hd hi]) h
/-- an operation whose guard looks at nothing and whose answer is known -/
theorem wpOrd_bin {P : Program} {ops : Array Oper} {Q : Exit → Act → World → Prop} {S : World → Prop} {o : Oper} {l : List (Bool × Oper)} {a : Act} {w : World} (hw : Region.wanted o (yielded ops a.tmps) = true) (op : BinOp) (t : TypeId) (x y : Operand) (t2 : TypeId) (ho : o.op = .binOp op t x y t2)
    (u v r : Value) (hx : a.eval x = u) (hy : a.eval y = v) (hg : ∀ w', (eqGuard op t x y u v).run P w' = .ok () w') (hb : ∀ w', (binOp op t u v).run P w' = .ok r w')
    (h : WpOrd P ops Q S l (a.put o.dst r) w) : WpOrd P ops Q S ((false, o) :: l) a w :=
  wpOrd_take hw (fun w' _ => by
    unfold execOp
    simp only [ho, hx, hy, Sem.run_bind, Sem.run_pure, Result.andThen_ok, hg, hb]) h
end Go.Proofs.Ytpldkplfdbjidaa.Ord
