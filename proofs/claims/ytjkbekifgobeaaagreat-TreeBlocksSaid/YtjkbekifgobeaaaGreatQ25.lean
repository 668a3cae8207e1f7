/- A part of the proof. Conditions: those told. -/
import Derived.Test.YtjkbekifgobeaaaGreatQ1
import Derived.Test.YtjkbekifgobeaaaGreatQ5
import Derived.Test.YtjkbekifgobeaaaGreatQ13
namespace Go.Proofs.YtjkbekifgobeaaaGreat
set_option maxHeartbeats 64000000
set_option maxRecDepth 100000
set_option linter.unusedVariables false
section
open Go.RowKit
theorem wC(w:World):(sizeOf 5).run Tryz.prog w=.ok 1 w:=by kernel_rfl
theorem B8(xs ys:List UInt8)(hx:xs.length=32)(hy:ys.length=32)(w:World):Sem.run Tryz.prog (binOp .eql 24 (.agg (xs.map vb).toArray) (.agg (ys.map vb).toArray)) w=.ok (.bool (decide (xs=ys))) w:=by
 have:=run_eql_bytes (P:=Tryz.prog) w 24 5 32 Tryz.underlying24 Tryz.underlying5 wC xs ys hx hy;rw[show decide (xs=ys)=(xs == ys) by rw[Bool.eq_iff_iff];simp];exact this
end
end Go.Proofs.YtjkbekifgobeaaaGreat
