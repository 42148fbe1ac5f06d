/- The closed facts of the row. -/
import Derived.Test.YtaacpiniakmpbaaGreatDoorZ2
import Derived.SevenTiedAt
namespace Go.Proofs.YtaacpiniakmpbaaGreatDoor
open Go
set_option linter.unusedSimpArgs false
set_option linter.unusedVariables false
set_option maxRecDepth 100000
theorem j_wf:(Rows.distBytesUptoRow.wf (OpenSpec.ofChange (Rows.OpenSpec.upto Rows.distBytesSpec).bare))=true:=by kernel_rfl
theorem j_laid:(laidOutB Tryz.prog)=true:=by kernel_rfl
theorem j_mapsRowed:(mapsRowed Tryz.prog)=true:=by kernel_rfl
theorem j_params:(Tryz.f3.params.all (Tryz.prog.readableRec ·))=true:=by kernel_rfl
theorem j_tie:(namedTie Tryz.prog Rows.distBytesUptoRow.named (Rows.OpenSpec.upto Rows.distBytesSpec).bare.vars)=true:=by kernel_rfl
theorem j_stops:(Rows.distBytesUptoRow.stops==[])=true:=by kernel_rfl
theorem j_pstops:(Tryz.prog.stops==[])=true:=by kernel_rfl
theorem j_knobs:(Rows.distBytesUptoRow.knobs==[])=true:=by kernel_rfl
theorem j_pknobs:(Tryz.prog.stopKnobs==[])=true:=by kernel_rfl
theorem j_inPlace:(Rows.distBytesUptoRow.inPlace==Tryz.prog.inPlace 3)=true:=by kernel_rfl
theorem j_unfollowed:(Rows.distBytesUptoRow.unfollowed==Tryz.prog.unfollowed 3)=true:=by kernel_rfl
theorem j_recurses:(Rows.distBytesUptoRow.recurses==Tryz.prog.recurses 3)=true:=by kernel_rfl
theorem j_named:(Rows.distBytesUptoRow.named==Tryz.prog.varsNamed 3)=true:=by kernel_rfl
theorem j_maps:(Rows.distBytesUptoRow.maps==(Tryz.f3.params.toList++(Rows.OpenSpec.upto Rows.distBytesSpec).bare.plain.varTypes Tryz.prog).any (Tryz.prog.mapsRec ·))=true:=by kernel_rfl
theorem j_ifaces:(Rows.distBytesUptoRow.ifaces==(Tryz.f3.params.toList++(Rows.OpenSpec.upto Rows.distBytesSpec).bare.plain.varTypes Tryz.prog).any (Tryz.prog.ifacesRec ·))=true:=by kernel_rfl
theorem j_mapsOut:(Rows.distBytesUptoRow.mapsOut==Tryz.prog.mapsAmong Tryz.f3.resultTypes.toList)=true:=by kernel_rfl
theorem j_loops:(Rows.distBytesUptoRow.loops==(Tryz.f3.params.toList++(Rows.OpenSpec.upto Rows.distBytesSpec).bare.plain.varTypes Tryz.prog).any (Tryz.prog.loopsFrom ·))=true:=by kernel_rfl
theorem j_wideKeys:(Rows.distBytesUptoRow.wideKeys==(Tryz.f3.params.toList++(Rows.OpenSpec.upto Rows.distBytesSpec).bare.plain.varTypes Tryz.prog++Tryz.f3.resultTypes.toList).any (Tryz.prog.wideKeysFrom ·))=true:=by kernel_rfl
theorem j_vars:((Rows.OpenSpec.upto Rows.distBytesSpec).bare.vars.all (Tryz.prog.varReadable ·))=true:=by kernel_rfl
theorem j_results:(Tryz.f3.resultTypes.all (fun t=>Tryz.prog.readableRec t&&decide (t<Tryz.prog.types.size)))=true:=by kernel_rfl
theorem j_ifacesOut:(Rows.distBytesUptoRow.ifacesOut==Tryz.f3.resultTypes.toList.any (Tryz.prog.ifacesRec ·))=true:=by kernel_rfl
theorem j_loopsOut:(Rows.distBytesUptoRow.loopsOut==Tryz.f3.resultTypes.toList.any (Tryz.prog.loopsFrom ·))=true:=by kernel_rfl
theorem j_plainKeys:(Rows.distBytesUptoRow.plainKeys==Tryz.prog.plainKeys)=true:=by kernel_rfl
theorem j_shortTexts:(Rows.distBytesUptoRow.shortTexts.isNone)=true:=by kernel_rfl
theorem j_stopsHeard:(Tryz.prog.stopsHeard)=true:=by kernel_rfl
theorem j_mayEnter:(Tryz.prog.mayEnter)=true:=by kernel_rfl
theorem j_lifted:(Rows.distBytesUptoRow.lifted==Tryz.prog.liftsFinal)=true:=by kernel_rfl
theorem j_make:(Tryz.prog.make==some Rows.distBytesUptoRow.make)=true:=by kernel_rfl
theorem j_kinds:(Rows.distBytesUptoRow.kinds==(if Rows.distBytesUptoRow.domain.isEmpty then [] else Tryz.f3.params.toList.map fun t=>match Tryz.prog.underlying t with|some (.int k)=>some k|_=>none))=true:=by kernel_rfl
theorem j_pinned:(Rows.distBytesUptoRow.pinned==Rows.distBytesUptoRow.pinnedBy)=true:=by kernel_rfl
theorem j_veiled:(Rows.distBytesUptoRow.veiled==(Tryz.f3.params.toList++(Rows.OpenSpec.upto Rows.distBytesSpec).bare.plain.varTypes Tryz.prog++Tryz.f3.resultTypes.toList).any (Tryz.prog.veiledRec ·))=true:=by kernel_rfl
theorem j_veiledFits:(Rows.distBytesUptoRow.veiledFits Tryz.prog Tryz.f3.params.toList (Tryz.f3.params.toList++(Rows.OpenSpec.upto Rows.distBytesSpec).bare.plain.varTypes Tryz.prog++Tryz.f3.resultTypes.toList))=true:=by kernel_rfl
theorem and_i {a b:Bool} (h:a=true) (k:b=true):(a&&b)=true:=by rw [h,k];rfl
theorem joined:joinedFacts Tryz.pinned.checked.prog 3 Tryz.f3 (Rows.OpenSpec.upto Rows.distBytesSpec).bare Rows.distBytesUptoRow=true:=by
 unfold joinedFacts
 exact(and_i (and_i (and_i (and_i (and_i (and_i (and_i (and_i (and_i (and_i (and_i (and_i (and_i (and_i (and_i (and_i (and_i (and_i (and_i (and_i (and_i (and_i (and_i (and_i (and_i (and_i (and_i (and_i (and_i (and_i (and_i j_wf j_laid) j_mapsRowed) j_params) j_tie) j_stops) j_pstops) j_knobs) j_pknobs) j_inPlace) j_unfollowed) j_recurses) j_named) j_maps) j_ifaces) j_mapsOut) j_loops) j_wideKeys) j_vars) j_results) j_ifacesOut) j_loopsOut) j_plainKeys) j_shortTexts) j_stopsHeard) j_mayEnter) j_lifted) j_make) j_kinds) j_pinned) j_veiled) j_veiledFits)
noncomputable def wld (os:Os):World:=(World.laidAll Tryz.prog os Rows.distBytesUptoRow.laid).forCall (fun _ _=>0) ⟨#[],wArgs,[]⟩
theorem f_zip (os:Os):(wld os).variablesZipB Tryz.prog=true:=by kernel_rfl
theorem f_take (os:Os):((wld os).heap.toList.drop Tryz.prog.globals.size).take ((begin Tryz.prog (fun _ _=>0) default).world.heap.size - Tryz.prog.globals.size)=(begin Tryz.prog (fun _ _=>0) default).world.heap.toList.drop Tryz.prog.globals.size:=by kernel_rfl
theorem f_ok (os:Os):Input.okWideB Tryz.prog (wld os) 3 ⟨#[],wArgs,[]⟩=true:=by kernel_rfl
theorem f_all:Tryz.prog.funcs.any Func.goes=false:=by kernel_rfl
theorem f_named:Tryz.prog.funcNamed "riparian/riparianlaw27.DistBytes"=some 3:=by kernel_rfl
end Go.Proofs.YtaacpiniakmpbaaGreatDoor
