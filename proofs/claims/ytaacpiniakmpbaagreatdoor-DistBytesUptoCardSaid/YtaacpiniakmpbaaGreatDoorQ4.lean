/- Runs. (Printed by wip/gen/mkruns.py.) -/
import Derived.Test.YtaacpiniakmpbaaGreatDoorP
import Derived.Test.YtaacpiniakmpbaaGreatDoorQ0
import Derived.Test.YtaacpiniakmpbaaGreatDoorQ1
import Derived.Test.YtaacpiniakmpbaaGreatDoorQ2
import Derived.Test.YtaacpiniakmpbaaGreatDoorQ3
namespace Go.Proofs.YtaacpiniakmpbaaGreatDoor
open Go Ev Tryz
set_option linter.unusedSimpArgs false
set_option linter.unusedVariables false
noncomputable def p26_t:Pcs:=(.node (.node .leaf none (.node .leaf none (.node (.node .leaf none (.node .leaf none (.node (.node (.node .leaf (some [p25]) .leaf) none .leaf) none .leaf))) none .leaf))) none (.node (.node (.node (.node .leaf none (.node .leaf none (.node (.node (.node .leaf (some [p24]) .leaf) none .leaf) none .leaf))) none .leaf) none .leaf) none .leaf))
theorem p26_runs:Piece.runs (callX ctx prims p26_t 1000000 400) p26=true:=by kernel_rfl
theorem p26_ok:p26.Ok Tryz.prog ctx:=Piece.runs_ok (callX_ok prog_ok prims_ok (.of (show AllAt _ p26_t _ from(.none (.none .nil (.none .nil (.none (.none .nil (.none .nil (.none (.none (.one 309 rfl (allP_cons rfl p25_ok allP_nil) .nil .nil) .nil) .nil))) .nil))) (.none (.none (.none (.none .nil (.none .nil (.none (.none (.one 304 rfl (allP_cons rfl p24_ok allP_nil) .nil .nil) .nil) .nil))) .nil) .nil) .nil)))) 1000000 400) p26_runs
noncomputable def p20_t:Pcs:=(.node (.node .leaf none (.node .leaf none (.node (.node .leaf none (.node .leaf none (.node (.node (.node .leaf (some [p19]) .leaf) none .leaf) none .leaf))) none .leaf))) none (.node (.node (.node (.node .leaf none (.node .leaf none (.node (.node (.node .leaf (some [p18]) .leaf) none .leaf) none .leaf))) none .leaf) none .leaf) none .leaf))
theorem p20_runs:Piece.runs (callX ctx prims p20_t 1000000 400) p20=true:=by kernel_rfl
theorem p20_ok:p20.Ok Tryz.prog ctx:=Piece.runs_ok (callX_ok prog_ok prims_ok (.of (show AllAt _ p20_t _ from(.none (.none .nil (.none .nil (.none (.none .nil (.none .nil (.none (.none (.one 309 rfl (allP_cons rfl p19_ok allP_nil) .nil .nil) .nil) .nil))) .nil))) (.none (.none (.none (.none .nil (.none .nil (.none (.none (.one 304 rfl (allP_cons rfl p18_ok allP_nil) .nil .nil) .nil) .nil))) .nil) .nil) .nil)))) 1000000 400) p20_runs
noncomputable def p2_t:Pcs:=(.node .leaf none (.node (.node .leaf none (.node (.node .leaf none (.node (.node (.node .leaf (some [p1]) .leaf) none .leaf) none .leaf)) none .leaf)) none .leaf))
theorem p2_runs:Piece.runs (callX ctx prims p2_t 1000000 400) p2=true:=by kernel_rfl
theorem p2_ok:p2.Ok Tryz.prog ctx:=Piece.runs_ok (callX_ok prog_ok prims_ok (.of (show AllAt _ p2_t _ from(.none .nil (.none (.none .nil (.none (.none .nil (.none (.none (.one 148 rfl (allP_cons rfl p1_ok allP_nil) .nil .nil) .nil) .nil)) .nil)) .nil)))) 1000000 400) p2_runs
noncomputable def p22_t:Pcs:=(.node .leaf none (.node .leaf none (.node (.node .leaf none (.node (.node .leaf none (.node (.node (.node .leaf (some [p21]) .leaf) none .leaf) none .leaf)) none .leaf)) none .leaf)))
theorem p22_runs:Piece.runs (callX ctx prims p22_t 1000000 400) p22=true:=by kernel_rfl
theorem p22_ok:p22.Ok Tryz.prog ctx:=Piece.runs_ok (callX_ok prog_ok prims_ok (.of (show AllAt _ p22_t _ from(.none .nil (.none .nil (.none (.none .nil (.none (.none .nil (.none (.none (.one 298 rfl (allP_cons rfl p21_ok allP_nil) .nil .nil) .nil) .nil)) .nil)) .nil))))) 1000000 400) p22_runs
noncomputable def p16_t:Pcs:=(.node .leaf none (.node .leaf none (.node (.node .leaf none (.node (.node .leaf none (.node (.node (.node .leaf (some [p15]) .leaf) none .leaf) none .leaf)) none .leaf)) none .leaf)))
theorem p16_runs:Piece.runs (callX ctx prims p16_t 1000000 400) p16=true:=by kernel_rfl
theorem p16_ok:p16.Ok Tryz.prog ctx:=Piece.runs_ok (callX_ok prog_ok prims_ok (.of (show AllAt _ p16_t _ from(.none .nil (.none .nil (.none (.none .nil (.none (.none .nil (.none (.none (.one 298 rfl (allP_cons rfl p15_ok allP_nil) .nil .nil) .nil) .nil)) .nil)) .nil))))) 1000000 400) p16_runs
noncomputable def p12_t:Pcs:=(.node (.node (.node (.node (.node .leaf none (.node .leaf none (.node (.node .leaf (some [p10]) .leaf) none .leaf))) none .leaf) none .leaf) none (.node (.node (.node .leaf none (.node .leaf none (.node (.node .leaf (some [p11]) .leaf) none .leaf))) none .leaf) none .leaf)) none .leaf)
theorem p12_runs:Piece.runs (callX ctx prims p12_t 1000000 400) p12=true:=by kernel_rfl
theorem p12_ok:p12.Ok Tryz.prog ctx:=Piece.runs_ok (callX_ok prog_ok prims_ok (.of (show AllAt _ p12_t _ from(.none (.none (.none (.none (.none .nil (.none .nil (.none (.one 175 rfl (allP_cons rfl p10_ok allP_nil) .nil .nil) .nil))) .nil) .nil) (.none (.none (.none .nil (.none .nil (.none (.one 177 rfl (allP_cons rfl p11_ok allP_nil) .nil .nil) .nil))) .nil) .nil)) .nil))) 1000000 400) p12_runs
noncomputable def p9_t:Pcs:=(.node (.node (.node (.node (.node .leaf none (.node .leaf none (.node (.node .leaf (some [p7]) .leaf) none .leaf))) none .leaf) none .leaf) none (.node (.node (.node .leaf none (.node .leaf none (.node (.node .leaf (some [p8]) .leaf) none .leaf))) none .leaf) none .leaf)) none .leaf)
theorem p9_runs:Piece.runs (callX ctx prims p9_t 1000000 400) p9=true:=by kernel_rfl
theorem p9_ok:p9.Ok Tryz.prog ctx:=Piece.runs_ok (callX_ok prog_ok prims_ok (.of (show AllAt _ p9_t _ from(.none (.none (.none (.none (.none .nil (.none .nil (.none (.one 175 rfl (allP_cons rfl p7_ok allP_nil) .nil .nil) .nil))) .nil) .nil) (.none (.none (.none .nil (.none .nil (.none (.one 177 rfl (allP_cons rfl p8_ok allP_nil) .nil .nil) .nil))) .nil) .nil)) .nil))) 1000000 400) p9_runs
end Go.Proofs.YtaacpiniakmpbaaGreatDoor
