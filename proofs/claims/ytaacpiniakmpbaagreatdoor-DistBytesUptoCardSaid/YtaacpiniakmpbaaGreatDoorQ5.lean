/- Runs. (Printed by wip/gen/mkruns.py.) -/
import Derived.Test.YtaacpiniakmpbaaGreatDoorP
import Derived.Test.YtaacpiniakmpbaaGreatDoorQ0
import Derived.Test.YtaacpiniakmpbaaGreatDoorQ2
import Derived.Test.YtaacpiniakmpbaaGreatDoorQ4
namespace Go.Proofs.YtaacpiniakmpbaaGreatDoor
open Go Ev Tryz
set_option linter.unusedSimpArgs false
set_option linter.unusedVariables false
noncomputable def p3_t:Pcs:=(.node .leaf none (.node .leaf none (.node .leaf none (.node (.node .leaf none (.node (.node .leaf (some [p2]) .leaf) none .leaf)) none .leaf))))
theorem p3_runs:Piece.runs (callX ctx prims p3_t 1000000 400) p3=true:=by kernel_rfl
theorem p3_ok:p3.Ok Tryz.prog ctx:=Piece.runs_ok (callX_ok prog_ok prims_ok (.of (show AllAt _ p3_t _ from(.none .nil (.none .nil (.none .nil (.none (.none .nil (.none (.one 86 rfl (allP_cons rfl p2_ok allP_nil) .nil .nil) .nil)) .nil)))))) 1000000 400) p3_runs
noncomputable def p28_t:Pcs:=(.node (.node (.node .leaf none (.node .leaf none (.node (.node .leaf none (.node (.node (.node .leaf (some [p20,p26]) .leaf) none .leaf) none .leaf)) none .leaf))) none (.node (.node (.node .leaf none (.node .leaf (some [p14]) .leaf)) none .leaf) none .leaf)) none (.node .leaf none (.node (.node .leaf none (.node (.node .leaf none (.node (.node (.node .leaf (some [p17,p23]) .leaf) none .leaf) none .leaf)) none .leaf)) none (.node (.node .leaf none (.node .leaf none (.node .leaf (some [p16,p22,p27]) .leaf))) none .leaf))))
theorem p28_runs:Piece.runs (callX ctx prims p28_t 1000000 400) p28=true:=by kernel_rfl
theorem p28_ok:p28.Ok Tryz.prog ctx:=Piece.runs_ok (callX_ok prog_ok prims_ok (.of (show AllAt _ p28_t _ from(.none (.none (.none .nil (.none .nil (.none (.none .nil (.none (.none (.one 299 rfl (allP_cons rfl p20_ok (allP_cons rfl p26_ok allP_nil)) .nil .nil) .nil) .nil)) .nil))) (.none (.none (.none .nil (.one 49 rfl (allP_cons rfl p14_ok allP_nil) .nil .nil)) .nil) .nil)) (.none .nil (.none (.none .nil (.none (.none .nil (.none (.none (.one 298 rfl (allP_cons rfl p17_ok (allP_cons rfl p23_ok allP_nil)) .nil .nil) .nil) .nil)) .nil)) (.none (.none .nil (.none .nil (.one 118 rfl (allP_cons rfl p16_ok (allP_cons rfl p22_ok (allP_cons rfl p27_ok allP_nil))) .nil .nil))) .nil)))))) 1000000 400) p28_runs
noncomputable def p13_t:Pcs:=(.node (.node (.node .leaf none (.node .leaf none (.node .leaf none (.node .leaf (some [p9,p12]) .leaf)))) none .leaf) none .leaf)
theorem p13_runs:Piece.runs (callX ctx prims p13_t 1000000 400) p13=true:=by kernel_rfl
theorem p13_ok:p13.Ok Tryz.prog ctx:=Piece.runs_ok (callX_ok prog_ok prims_ok (.of (show AllAt _ p13_t _ from(.none (.none (.none .nil (.none .nil (.none .nil (.one 59 rfl (allP_cons rfl p9_ok (allP_cons rfl p12_ok allP_nil)) .nil .nil)))) .nil) .nil))) 1000000 400) p13_runs
end Go.Proofs.YtaacpiniakmpbaaGreatDoor
