/- ShaNobody's walk. -/
import Derived.Test.YtpldkplfdbjidaaShaLaw
set_option linter.unusedVariables false
set_option linter.unusedSimpArgs false
namespace Go.Proofs.Ytpldkplfdbjidaa.Sha
open Go.RowKit Go.Proofs.Ytpldkplfdbjidaa.Wd

theorem neqSum (w : World) (xs ys : List UInt8) (hx : xs.length = 32) (hy : ys.length = 32) : (binOp .neq 23 (.agg (bs xs).toArray) (.agg (bs ys).toArray)).run Try.prog w = .ok (.bool (!(xs == ys))) w := by
  rw [run_neq_struct, eqSum w xs ys hx hy]; rfl
theorem eqlSum (w : World) (xs ys : List UInt8) (hx : xs.length = 32) (hy : ys.length = 32) : (binOp .eql 23 (.agg (bs xs).toArray) (.agg (bs ys).toArray)).run Try.prog w = .ok (.bool (xs == ys)) w := by
  rw [run_eql_struct, eqSum w xs ys hx hy]; rfl
theorem built_hash : Try.prog.built 204 [] = some Try.zeroCells204 := by kernel_rfl
theorem zero_hash : Try.zeroCells204[0]? = some (.bool false) := by kernel_rfl
end Go.Proofs.Ytpldkplfdbjidaa.Sha
