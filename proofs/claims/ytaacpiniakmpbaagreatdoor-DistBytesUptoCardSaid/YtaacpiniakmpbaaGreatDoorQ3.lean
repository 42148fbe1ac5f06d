/- Runs. (Printed by wip/gen/mkruns.py.) -/
import Derived.Test.YtaacpiniakmpbaaGreatDoorP
namespace Go.Proofs.YtaacpiniakmpbaaGreatDoor
open Go Ev Tryz
set_option linter.unusedSimpArgs false
set_option linter.unusedVariables false
noncomputable def p19_t:Pcs:=.leaf
theorem p19_runs:Piece.runs (callX ctx prims p19_t 1000000 400) p19=true:=by kernel_rfl
theorem p19_ok:p19.Ok Tryz.prog ctx:=Piece.runs_ok (callX_ok prog_ok prims_ok (.of (show AllAt _ p19_t _ from .nil)) 1000000 400) p19_runs
noncomputable def p18_t:Pcs:=.leaf
theorem p18_runs:Piece.runs (callX ctx prims p18_t 1000000 400) p18=true:=by kernel_rfl
theorem p18_ok:p18.Ok Tryz.prog ctx:=Piece.runs_ok (callX_ok prog_ok prims_ok (.of (show AllAt _ p18_t _ from .nil)) 1000000 400) p18_runs
noncomputable def p10_t:Pcs:=.leaf
theorem p10_runs:Piece.runs (callX ctx prims p10_t 1000000 400) p10=true:=by kernel_rfl
theorem p10_ok:p10.Ok Tryz.prog ctx:=Piece.runs_ok (callX_ok prog_ok prims_ok (.of (show AllAt _ p10_t _ from .nil)) 1000000 400) p10_runs
noncomputable def p6_t:Pcs:=.leaf
theorem p6_runs:Piece.runs (callX ctx prims p6_t 1000000 400) p6=true:=by kernel_rfl
theorem p6_ok:p6.Ok Tryz.prog ctx:=Piece.runs_ok (callX_ok prog_ok prims_ok (.of (show AllAt _ p6_t _ from .nil)) 1000000 400) p6_runs
end Go.Proofs.YtaacpiniakmpbaaGreatDoor
