/- Runs. (Printed by wip/gen/mkruns.py.) -/
import Derived.Test.YtaacpiniakmpbaaGreatDoorP
namespace Go.Proofs.YtaacpiniakmpbaaGreatDoor
open Go Ev Tryz
set_option linter.unusedSimpArgs false
set_option linter.unusedVariables false
noncomputable def p24_t:Pcs:=.leaf
theorem p24_runs:Piece.runs (callX ctx prims p24_t 1000000 400) p24=true:=by kernel_rfl
theorem p24_ok:p24.Ok Tryz.prog ctx:=Piece.runs_ok (callX_ok prog_ok prims_ok (.of (show AllAt _ p24_t _ from .nil)) 1000000 400) p24_runs
noncomputable def p21_t:Pcs:=.leaf
theorem p21_runs:Piece.runs (callX ctx prims p21_t 1000000 400) p21=true:=by kernel_rfl
theorem p21_ok:p21.Ok Tryz.prog ctx:=Piece.runs_ok (callX_ok prog_ok prims_ok (.of (show AllAt _ p21_t _ from .nil)) 1000000 400) p21_runs
noncomputable def p4_t:Pcs:=.leaf
theorem p4_runs:Piece.runs (callX ctx prims p4_t 1000000 400) p4=true:=by kernel_rfl
theorem p4_ok:p4.Ok Tryz.prog ctx:=Piece.runs_ok (callX_ok prog_ok prims_ok (.of (show AllAt _ p4_t _ from .nil)) 1000000 400) p4_runs
noncomputable def p11_t:Pcs:=.leaf
theorem p11_runs:Piece.runs (callX ctx prims p11_t 1000000 400) p11=true:=by kernel_rfl
theorem p11_ok:p11.Ok Tryz.prog ctx:=Piece.runs_ok (callX_ok prog_ok prims_ok (.of (show AllAt _ p11_t _ from .nil)) 1000000 400) p11_runs
noncomputable def p1_t:Pcs:=.leaf
theorem p1_runs:Piece.runs (callX ctx prims p1_t 1000000 400) p1=true:=by kernel_rfl
theorem p1_ok:p1.Ok Tryz.prog ctx:=Piece.runs_ok (callX_ok prog_ok prims_ok (.of (show AllAt _ p1_t _ from .nil)) 1000000 400) p1_runs
end Go.Proofs.YtaacpiniakmpbaaGreatDoor
