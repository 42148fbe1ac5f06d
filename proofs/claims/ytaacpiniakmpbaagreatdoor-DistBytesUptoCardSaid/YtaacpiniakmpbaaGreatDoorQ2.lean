/- Runs. (Printed by wip/gen/mkruns.py.) -/
import Derived.Test.YtaacpiniakmpbaaGreatDoorP
namespace Go.Proofs.YtaacpiniakmpbaaGreatDoor
open Go Ev Tryz
set_option linter.unusedSimpArgs false
set_option linter.unusedVariables false
noncomputable def p0_t:Pcs:=.leaf
theorem p0_runs:Piece.runs (callX ctx prims p0_t 1000000 400) p0=true:=by kernel_rfl
theorem p0_ok:p0.Ok Tryz.prog ctx:=Piece.runs_ok (callX_ok prog_ok prims_ok (.of (show AllAt _ p0_t _ from .nil)) 1000000 400) p0_runs
noncomputable def p27_t:Pcs:=.leaf
theorem p27_runs:Piece.runs (callX ctx prims p27_t 1000000 400) p27=true:=by kernel_rfl
theorem p27_ok:p27.Ok Tryz.prog ctx:=Piece.runs_ok (callX_ok prog_ok prims_ok (.of (show AllAt _ p27_t _ from .nil)) 1000000 400) p27_runs
noncomputable def p15_t:Pcs:=.leaf
theorem p15_runs:Piece.runs (callX ctx prims p15_t 1000000 400) p15=true:=by kernel_rfl
theorem p15_ok:p15.Ok Tryz.prog ctx:=Piece.runs_ok (callX_ok prog_ok prims_ok (.of (show AllAt _ p15_t _ from .nil)) 1000000 400) p15_runs
noncomputable def p25_t:Pcs:=.leaf
theorem p25_runs:Piece.runs (callX ctx prims p25_t 1000000 400) p25=true:=by kernel_rfl
theorem p25_ok:p25.Ok Tryz.prog ctx:=Piece.runs_ok (callX_ok prog_ok prims_ok (.of (show AllAt _ p25_t _ from .nil)) 1000000 400) p25_runs
end Go.Proofs.YtaacpiniakmpbaaGreatDoor
