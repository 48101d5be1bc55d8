/- Structs compared, field by field: one law for each kind of field. -/
import Derived.Test.YtpldkplfdbjidaaShaNobody
set_option linter.unusedVariables false
set_option linter.unusedSimpArgs false
namespace Go.Proofs.Ytpldkplfdbjidaa.EqF
open Go.RowKit Go.Proofs.Ytpldkplfdbjidaa.Wd

section
variable {P : Program} {w : World} {d : Nat} {xs ys : Array Value}
theorem eqF_nil : (Op.eqFields d xs ys []).run P w = .ok true w := by simp [Op.eqFields]
theorem eqF_cons {f : Field} {fs : List Field} {a b : Value} {r s : Bool} (hn : f.name ≠ "_") (ha : (part f.type xs f.offset).run P w = .ok a w) (hb : (part f.type ys f.offset).run P w = .ok b w)
    (hr : (Op.equalIn d f.type a b).run P w = .ok r w) (hs : (Op.eqFields d xs ys fs).run P w = .ok s w) : (Op.eqFields d xs ys (f :: fs)).run P w = .ok (r && s) w := by
  simp only [Op.eqFields, if_pos hn, Sem.run_bind, ha, hb, hr, Result.andThen_ok]
  cases r
  · rfl
  · exact hs
theorem part_one {t : TypeId} {off : Nat} {u : Value} (h : (isAgg t).run P w = .ok false w) (hu : xs[off]? = some u) : (part t xs off).run P w = .ok u w := by
  simp [part, h, hu]
theorem part_agg {t : TypeId} {off n : Nat} {cs : Array Value} (h : (isAgg t).run P w = .ok true w) (h2 : (sizeOf t).run P w = .ok n w) (hu : xs.extract off (off + n) = cs) : (part t xs off).run P w = .ok (.agg cs) w := by
  simp [part, h, h2, hu]
end
end Go.Proofs.Ytpldkplfdbjidaa.EqF
