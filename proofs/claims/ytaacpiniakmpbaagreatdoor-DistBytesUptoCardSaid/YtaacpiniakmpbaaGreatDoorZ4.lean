/- The statement: for every message and all bytes, of bulk at most 1048576, the function gives back true, and its arguments read as before. -/
import Derived.Test.YtaacpiniakmpbaaGreatDoorZ1
import Derived.Test.YtaacpiniakmpbaaGreatDoorZ3
import Derived.SevenTiedAt
namespace Go.Proofs.YtaacpiniakmpbaaGreatDoor
open Go Ev Go.ChangeShapes Go.WideShapes Go.ChangeAt Go.RowKit
set_option linter.unusedSimpArgs false
set_option linter.unusedVariables false
set_option maxRecDepth 100000
theorem law_ret {W:World} (hE:Env W) (K o f p:Int) {k n:Int} {u:ByteArray} {l:List Tm} {a:Option Addr} {m c:Nat} {s:ByteArray} (hs:s.size≤1048576) (ht:TmAt (hb W) (.mk k n u l) [.int .i64 k,.int .i64 n,.string u,.slice a m c]) :
  Calls Tryz.prog 3 #[.agg #[.int .i64 K,.int .i64 o,.int .i64 f,.int .i64 p,.int .i64 k,.int .i64 n,.string u,.slice a m c],.string s] W fun e W'=>e=.returned (.bool true)∧Below W.heap.size W W':=by
 have hi:=init_of hE
 have hH:(mkT [(0,Ev.Obj.ro calcAVs)]).get=H0.get:=by
  funext i
  rw [H0_get]
  show(T.set .leaf 0 _).get i=_
  rw [T.get_set]
  by_cases q:i=0
  ·subst q;rfl
  ·rw [if_neg q,if_neg (fun e=>q e.symm)];rfl
 have hB:EnvB (hb W):=hE
 have h:=law_g K o f p hs hB ht
 rw [hH] at h
 refine(h φ0 W #[.agg #[.int .i64 K,.int .i64 o,.int .i64 f,.int .i64 p,.int .i64 k,.int .i64 n,.string u,.slice a m c],.string s] hi.rel hi.base (okVs_rel (a:=[.agg [.val (.int .i64 K),.val (.int .i64 o),.val (.int .i64 f),.val (.int .i64 p),.val (.int .i64 k),.val (.int .i64 n),.val (.string u),.val (.slice a m c)],.val (.string s)]) rfl)).mono ?_
 rintro e w' ⟨φ',v,v',H',n',h1,h2,h3,h4⟩
 rcases h4 with⟨rfl,B',⟨hp,rfl,rfl,rfl,rfl⟩,_,_⟩|⟨_,hp,_,hf⟩
 ·cases h1
  exact⟨rfl,h3.keeps.os,h3.keeps.tape,h3.keeps.output,h3.keeps.size,fun k hk=>h3.keeps.block k hk (hi.own k)⟩
 ·exact hf.elim
theorem agg_of {v:Value} {l:List Value} (h:v.cells.toList=l) (hl:l.length≠1):v=.agg l.toArray:=by
 cases v with
 | agg cs=>simp only [Value.cells] at h;rw [← h]
 | _=>simp only [Value.cells] at h;subst h;exact(hl rfl).elim
theorem contract (H:Type) (enc:TypeId×Value→H) (W:World) (base:Nat) (args:Array Value) (ds gs:List (DataW H)) (before:List MemPlace)
  (hval:∀ (j:Nat) t v,Tryz.f3.params[j]?=some t→args[j]?=some v→Value.okWide Tryz.prog W .any base t v)
  (hW:DataW.Whole enc Tryz.prog Tryz.f3.params.toList Rows.distBytesSpec.vars false W args.toList ds gs before) (hk:Rows.uptoSmall H (ds++gs)=true) (hL:laidMetH Tryz.prog Rows.distBytesUptoRow.laid W) (hsh:W.ShapedOpen Tryz.prog) :
  Calls Tryz.prog 3 args W fun e W'=>∃ v,e=.returned v∧Rows.distBytesSpec.post enc Tryz.prog Tryz.f3 false true false false W args v W':=by
 have hW':=hW
 obtain⟨p,q,hA0,hV,rfl,hfz,hnd⟩:=hW
 have hA:DataW.TrodAll enc Tryz.prog W 0 (fun _=>true) true Tryz.f3.params.toList args.toList ds p:=hA0
 rw [Tryz.params3] at hA hval
 obtain⟨v0,v1,d0,d1,p0,p1,rfl,rfl,rfl,h0,h1⟩:=trodAll_two hA
 obtain⟨rfl,rfl⟩:=trodVars_none hV
 obtain⟨s,rfl,rfl,rfl,ws⟩:=Go.ChangeMaps.open_string Tryz.underlying9 (hval 1 9 v1 rfl rfl) h1
 have hlt0:∀ x∈p0,x.block<W.heap.size:=fun x hx=>hW'.lt x (by simp [hx])
 have hbulk:=of_decide_eq_true hk
 simp only [List.append_nil,Rows.uptoBulkAll,Rows.uptoBulk] at hbulk
 have hsz:s.size=s.data.toList.length:=by rw [Array.length_toList];rfl
 obtain⟨fuel,hf⟩:=h0
 obtain⟨K,o,f,p',k,n,u,l,a,m,c,hcs,ht⟩:=open_mail hf (by simp only;omega)
 obtain rfl:=agg_of hcs (by simp)
 have hargs:∀ W':World,Below W.heap.size W W'→DataW.TrodAll enc Tryz.prog W' 0 (fun b=>decide (b<W.heap.size)) true [26,9] [.agg #[.int .i64 K,.int .i64 o,.int .i64 f,.int .i64 p',.int .i64 k,.int .i64 n,.string u,.slice a m c],.string s] [d0,.lit (.string s.data.toList)] (p0++[]):=fun W' hB =>
  trodAll_mk2 (Below.trod laidOut (by kernel_rfl) (of_decide_eq_true (by kernel_rfl)) ⟨fuel,hf⟩ hB hlt0) (Go.ChangeMaps.shut_string Tryz.underlying9 ws)
 refine(law_ret (env_of hL hsh) K o f p' (by omega) ht).mono fun e W' ⟨he,hB⟩=>?_
 subst he
 exact⟨_,rfl,_,_,_,[],p0++[],[],hW',trodAll_mk1 (shut_bool Tryz.underlying4 _),hargs _ hB,rfl,hB.frame _,fun h=>by cases h⟩
theorem reads (os:Os) {H:Type} (enc:TypeId×Value→H):∃ places,DataW.whole enc Tryz.prog ((World.laidAll Tryz.prog os Rows.distBytesUptoRow.laid).forCall (fun _ _=>0) ⟨#[],wArgs,[]⟩).memory Tryz.f3.params.toList Rows.distBytesSpec.vars false wArgs.toList 8 =
  some ([.agg [.lit (.int .i64 0),.lit (.int .i64 0),.lit (.int .i64 0),.lit (.int .i64 0),.agg [.lit (.int .i64 0),.lit (.int .i64 0),.lit (.string []),.nil]],.lit (.string [])],[],places) :=
 ⟨[],by kernel_rfl⟩
theorem lifted (os:Os) (started:os.Started) (H:Type) (enc:TypeId×Value→H) (F:Stop.Interp) :
  ReturnsInHanded {} Tryz.checked os 3 .any ((Rows.OpenSpec.upto Rows.distBytesSpec).preRow enc Tryz.prog Tryz.f3 Rows.distBytesUptoRow.domain false Rows.distBytesUptoRow.laid) (((Rows.OpenSpec.upto Rows.distBytesSpec).at F).post enc Tryz.prog Tryz.f3 false true false false):=by
 obtain⟨places,hx⟩:=reads os enc
 have hok:=f_ok os
 refine returnsInHanded_of_row (C:=Tryz.checked) (s:=Rows.OpenSpec.upto Rows.distBytesSpec) own started (by kernel_rfl) Tryz.func3 ?_ ?_
 ·refine⟨World.laidAll Tryz.prog os Rows.distBytesUptoRow.laid,fun _ _=>0,⟨#[],wArgs,[]⟩,World.laidAll_os _ _ _,World.shaped_of_ZipB (f_zip os) (f_take os),(Input.okWide_of_okWideB (base:=0) hok).1,(Input.okWide_of_okWideB hok).2,
   OpenSpec.preRow_of_cond 8 hx (by kernel_rfl) (fun k hk=>by cases hk;kernel_rfl) (by kernel_rfl) (laid_met os),?_⟩
  simp only [Assume.holds]
  exact⟨by simp,by simp,fun _=>Modest.zero,by simp,by simp⟩
 ·intro W base args ds gs before hval hW _ hcond _ hL hsh _
  exact contract H enc W base args ds gs before hval hW (hcond _ rfl) hL hsh
theorem saidUpto:Rows.DistBytesUptoSaid :=
 OpenClaim.holds_of_cond 3 Tryz.f3 rfl rfl rfl rfl rfl rfl rfl ⟨rfl,rfl,rfl,rfl,rfl⟩ rfl rfl rfl rfl rfl f_named Tryz.func3 joined
  (of_decide_eq_true (by kernel_rfl)) (by unfold Func.isWrapper;first|(rw [if_pos (by decide +kernel)];kernel_rfl)|(rw [if_neg (by decide +kernel)];exact⟨rfl,rfl⟩))
  (fun os started H enc _ F=>by rw [OpenClaim.pre_eq_preRow];exact lifted os started H enc F)
theorem plain (f:FuncId) (fn:Func) (hf:Tryz.pinned.checked.prog.funcNamed "riparian/riparianlaw27.DistBytes"=some f) (hfn:Tryz.pinned.checked.prog.funcs[f]?=some fn) :
  true=Tryz.pinned.checked.prog.looks []∧∀ (j:Nat) t,fn.params[j]?=some t→Tryz.pinned.checked.prog.wantsStandIn t=false:=by
 obtain rfl:f=3:=Option.some.inj (f_named.symm.trans hf) |>.symm
 obtain rfl:fn=Tryz.f3:=(Option.some.inj (Tryz.func3.symm.trans hfn)).symm
 refine⟨by kernel_rfl,fun j t ht=>?_⟩
 rw [Tryz.params3] at ht
 have hm:t∈[26,9]:=by simpa using Array.mem_of_getElem? ht
 have hall:([26,9].all fun u=>!Tryz.prog.wantsStandIn u)=true:=by kernel_rfl
 exact(show Tryz.prog.wantsStandIn t=false by simpa using List.all_eq_true.1 hall t hm)
theorem goes_of {P:Program} {s:String} {f:FuncId} (hn:P.funcNamed s=some f) (ha:P.funcs.any Func.goes=false):P.goesFrom s=false:=by
 have hall:∀ g:FuncId,(P.funcs[g]?).any Func.goes=false:=by
  intro g
  cases hg:P.funcs[g]? with
  | none=>rfl
  | some fn =>
   cases hq:Func.goes fn with
   | false=>simpa using hq
   | true =>
    rw [Array.any_eq_false] at ha
    obtain⟨hlt,he⟩:=Array.getElem?_eq_some_iff.1 hg
    exact absurd (by rw [he];exact hq) (ha g hlt)
 unfold Program.goesFrom
 rw [hn]
 show P.goes f=false
 unfold Program.goes
 rw [ha,Bool.and_false,Bool.or_false,List.any_eq_false]
 intro g _
 rw [hall g]
 exact Bool.false_ne_true
theorem goes_at {P:Program} {c:OpenClaim} {f:FuncId} (hn:P.funcNamed c.func=some f) (ha:P.funcs.any Func.goes=false) (hs:c.start=.entering):false=c.goesBy P:=by
 unfold OpenClaim.goesBy Program.goesAt
 rw [goes_of hn ha,hs];rfl
theorem f_goes:false=Rows.distBytesUptoRow.goesBy Tryz.pinned.checked.prog :=
 goes_at (f:=3) f_named f_all rfl
theorem f_wf:Rows.distBytesUptoRow.wfByText (Rows.OpenSpec.upto Rows.distBytesSpec)=true:=by kernel_rfl
theorem f_main:Tryz.pinned.checked.prog.mainIs=some (true, "064a4ee058c9c4eab6688036cf95218331a2e264a7f1f91994079354d6e96b8e".toList):=by kernel_rfl
theorem distBytesUpto_holds:Rows.DistBytesUptoCardSaid :=
 Claim7.holds_tied_plain_at .later [] _ _ _ _ saidUpto (fun _ h=>by cases h) f_wf (fun _ h=>by cases h) distBytesUpto_row_tie rfl ⟨rfl,rfl⟩ f_main rfl plain f_goes
#print axioms distBytesUpto_holds
end Go.Proofs.YtaacpiniakmpbaaGreatDoor
