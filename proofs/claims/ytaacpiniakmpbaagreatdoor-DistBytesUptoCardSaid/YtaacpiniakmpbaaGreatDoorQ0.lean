/- Runs. (Printed by wip/gen/mkruns.py.) -/
import Derived.Test.YtaacpiniakmpbaaGreatDoorP
namespace Go.Proofs.YtaacpiniakmpbaaGreatDoor
open Go Ev Tryz
set_option linter.unusedSimpArgs false
set_option linter.unusedVariables false
noncomputable def p8_t:Pcs:=.leaf
theorem p8_runs:Piece.runs (callX ctx prims p8_t 1000000 400) p8=true:=by kernel_rfl
theorem p8_ok:p8.Ok Tryz.prog ctx:=Piece.runs_ok (callX_ok prog_ok prims_ok (.of (show AllAt _ p8_t _ from .nil)) 1000000 400) p8_runs
noncomputable def p7_t:Pcs:=.leaf
theorem p7_runs:Piece.runs (callX ctx prims p7_t 1000000 400) p7=true:=by kernel_rfl
theorem p7_ok:p7.Ok Tryz.prog ctx:=Piece.runs_ok (callX_ok prog_ok prims_ok (.of (show AllAt _ p7_t _ from .nil)) 1000000 400) p7_runs
noncomputable def p14_t:Pcs:=.leaf
theorem p14_runs:Piece.runs (callX ctx prims p14_t 1000000 400) p14=true:=by kernel_rfl
theorem p14_ok:p14.Ok Tryz.prog ctx:=Piece.runs_ok (callX_ok prog_ok prims_ok (.of (show AllAt _ p14_t _ from .nil)) 1000000 400) p14_runs
noncomputable def p23_t:Pcs:=.leaf
theorem p23_runs:Piece.runs (callX ctx prims p23_t 1000000 400) p23=true:=by kernel_rfl
theorem p23_ok:p23.Ok Tryz.prog ctx:=Piece.runs_ok (callX_ok prog_ok prims_ok (.of (show AllAt _ p23_t _ from .nil)) 1000000 400) p23_runs
noncomputable def p17_t:Pcs:=.leaf
theorem p17_runs:Piece.runs (callX ctx prims p17_t 1000000 400) p17=true:=by kernel_rfl
theorem p17_ok:p17.Ok Tryz.prog ctx:=Piece.runs_ok (callX_ok prog_ok prims_ok (.of (show AllAt _ p17_t _ from .nil)) 1000000 400) p17_runs
end Go.Proofs.YtaacpiniakmpbaaGreatDoor
