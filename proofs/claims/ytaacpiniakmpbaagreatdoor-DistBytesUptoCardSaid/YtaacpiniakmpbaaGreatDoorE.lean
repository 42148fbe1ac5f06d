/- Ranges over functions: the statement, outermost and within a round. -/
import Derived.Test.YtaacpiniakmpbaaGreatDoorD
import Derived.RecoverIn
import Derived.Scope
import Derived.ScopeJumps
namespace Ev
open Go
set_option linter.unusedSimpArgs false
set_option linter.unusedVariables false
theorem Step.less {φ φ':Phi} {H H' H'':Hp} {n n' n'':Nat} {w w':World} (h:Step φ H n w φ' H' n' w') (hs:∀ i ob,H'' i=some ob→H' i=some ob) (hn:n'≤n''):Step φ H n w φ' H'' n'' w' :=
 ⟨Nat.le_trans h.grow hn,h.born,h.le,h.keeps,fun k hk ⟨i,x,l,a,b,c,d⟩=>h.own k hk ⟨i,x,l,hs i x a,b,c,d⟩,fun k hk ⟨i,x,l,a,c,d⟩=>h.live k hk ⟨i,x,l,hs i x a,c,d⟩⟩
theorem run_enterLoop_inner {P:Program} {w:World} {l:Nat} {r:Loop} (h:w.heap[l]?=some (.loop r)) (fn:FuncId) (tmps:Array Value) (ps:Array Tmp) (assign body:Code) :
  (Instr.enterLoop fn tmps ps assign body (some l)).run P w =
   .ok (w.heap.size,[]) (w.alloc (.loop { state:=.ready,pending:=none,fn,tmps,params:=ps,assign,body,defers:=r.defers })):=by
 unfold Instr.enterLoop
 simp only [Sem.run_bind,run_getLoop h,run_newObj_alloc,Result.andThen,Sem.run_pure]
theorem const_map (a:Act) (v:Value):#[Operand.const v].map a.eval=#[v]:=by simp [Act.eval]
section
variable {P:Program} {C:Ctx} {nt:Nat}
theorem range_end {φ:Phi} {st:St} {w:World} {a:Act} {r:Option Nat} {n:Nat} {Q:Exit→Act→World→Prop} {e:Ex} {idl b nx2:Nat} {hp2:T Obj} {s2:LoopState} {tm2:T AV} {nt2:Nat} {ps2:List Nat} {as2 bd2:Code} {df2:Nat}
  {φ3:Phi} {w3:World} (hr:Rel φ3 hp2.get nx2 w3) (hs:Step φ st.hp.get st.nx w φ3 hp2.get nx2 w3) (hb:φ3 idl=some (.obj b))
  (h2:hp2.get idl=some (.loop s2 e.jump tm2 nt2 ps2 as2 bd2 df2)) (hbusy:s2≠.busy)
  (hq:∀ w4,Rel φ3 (hp2.del idl).get nx2 w4→Step φ st.hp.get st.nx w φ3 (hp2.del idl).get nx2 w4→Q e.to a w4) (v:Value) :
  rangePost (Fw r) n P b Q a (.returned v) w3:=by
 obtain⟨b3,r3,bd,j1,j2,j3,j4,j5,j6,j7,j8⟩:=loop_of hr h2
 rw [hb] at j1;simp only [Option.some.injEq,Loc.obj.injEq] at j1;subst j1
 obtain⟨t1,t2⟩:=loop_turn (s':=.exhausted) (pend':=e.jump) hr h2 hb j2
 have hle:∀ i ob,(hp2.del idl).get i=some ob→upd hp2.get idl (Obj.loop .exhausted e.jump tm2 nt2 ps2 as2 bd2 df2) i=some ob:=by
  intro i ob hi
  rw [T.get_del] at hi
  split at hi
  ·simp at hi
  ·next hne=>rw [upd_ne _ _ hne];exact hi
 have hj:({ r3 with state:=LoopState.exhausted,pending:=e.jump }:Loop)={ r3 with state:=.exhausted }:=by rw [← j7]
 rw [hj] at t1 t2
 have hfin:=hq _ (t1.less hle (Nat.le_refl _)) ((hs.trans t2).less hle (Nat.le_refl _))
 refine⟨_,_,run_endLoop j2 (by rw [j6];exact hbusy),?_⟩
 generalize w3.putObj b (.loop { r3 with state:=LoopState.exhausted })=w4 at hfin ⊢
 rw [j7]
 cases hje:e.jump with
 | none=>cases e<;>first|exact hfin|simp [Ex.jump] at hje
 | some c=>exact jump_wp hje hfin
theorem CodeOK.range0 {g:Operand} {ps:Array Tmp} {assign body:Code} {st:St} {f:FuncId} {first cap:List AV} {v:AV} {hp2:T Obj} {nx2:Nat} {e:Ex} {s2:LoopState} {tm2:T AV} {nt2:Nat} {ps2:List Nat} {as2 bd2:Code} {df2:Nat}
  (hg:ev C st.tm g=some (.fn (.func f) first cap)) (hent:Enters P f)
  (Hk:CallOK P C f (first++[.yld (st.nx+1)]++cap) ((st.hp.set st.nx .dfr).set (st.nx+1) (.loop .ready none st.tm nt ps.toList assign body st.nx)).get (st.nx+2) v hp2.get nx2)
  (h2:hp2.get (st.nx+1)=some (.loop s2 e.jump tm2 nt2 ps2 as2 bd2 df2)) (hbusy:s2≠.busy) :
  CodeOK P C nt none (.rangeFunc g ps assign body) st e ⟨st.tm,hp2.del (st.nx+1),nx2,.mark st.nx::st.df⟩:=by
 intro φ a w hl r n hr Q hQ
 have hr':r=none:=hr
 subst hr'
 refine wpIn_rangeFunc fun fn _=>?_
 have hb:=ev_rel hl.glob.gl hl.tmps hg
 generalize hq:a.eval g=q at hb
 cases hb with
 | @fn _ _ _ x' y' hx' hy' =>
  let lp:Loop:={ state:=.ready,pending:=none,fn,tmps:=a.tmps,params:=ps,assign,body,defers:=w.heap.size }
  obtain⟨a1,a2⟩:=hl.rel.new (id:=st.nx) (nx':=st.nx+1) (ob:=.dfr) (l:=.obj w.heap.size) (o':=.deferred (some [])) (Nat.le_refl _) (Nat.lt_succ_self _) rfl (fun b o N h=>by cases h)
   (.dfr (World.alloc_heap_new _ _))
  have hd1:upd φ st.nx (.obj w.heap.size) st.nx=some (.obj w.heap.size):=upd_same _ _ _
  obtain⟨b1,b2⟩:=a1.new (id:=st.nx+1) (nx':=st.nx+2) (ob:=.loop .ready none st.tm nt ps.toList assign body st.nx) (l:=.obj (w.alloc (.deferred (some []))).heap.size) (o':=.loop lp)
   (Nat.le_refl _) (by omega) rfl (fun b o N h=>by cases h) (by
    have hle:=a1.le_upd (i:=st.nx+1) (Nat.le_refl _) (.obj (w.alloc (.deferred (some []))).heap.size)
    have:=ORel.loop (φ:=upd (upd φ st.nx (.obj w.heap.size)) (st.nx+1) (.obj (w.alloc (.deferred (some []))).heap.size)) (w:=(w.alloc (.deferred (some []))).alloc (.loop lp)) (r:=lp) (tm:=st.tm) (df:=st.nx) (bd:=w.heap.size)
     (World.alloc_heap_new _ _) (hl.tmps.mono (a2.le.trans hle)) (hle _ _ hd1) rfl
    have hsz:lp.tmps.size=nt:=hl.size
    rw [hsz] at this
    exact this)
  rw [← set_get,← set_get] at b1 b2
  have hφl:upd (upd φ st.nx (Loc.obj w.heap.size)) (st.nx+1) (.obj (w.alloc (.deferred (some []))).heap.size) (st.nx+1)=some (.obj (w.heap.size+1)):=by rw [upd_same];simp
  have hstep:=a2.trans (by rw [← set_get];exact b2)
  have hargs:VRels (upd (upd φ st.nx (Loc.obj w.heap.size)) (st.nx+1) (.obj (w.alloc (.deferred (some []))).heap.size)) (first++[.yld (st.nx+1)]++cap) (x'++#[Value.func (.yield (w.heap.size+1)) #[] #[]]++y').toList:=by
   simp only [Array.toList_append]
   exact((hx'.mono hstep.le).append (.cons (.yld hφl) .nil)).append (hy'.mono hstep.le)
  have hcl:Calls P f (x'++#[Value.func (.yield (w.heap.size+1)) #[] #[]]++y') ((w.alloc (.deferred (some []))).alloc (.loop lp)) (rangePost (Fw none) n P (w.heap.size+1) Q { a with defers:=[{ target:=.collected w.heap.size,args:=#[] }]++a.defers }):=by
   refine Calls.mono (Hk _ _ _ b1 (hl.glob.step hstep) hargs) ?_
   rintro en w3 ⟨v',φ3,rfl,k1,k2,k3⟩
   refine range_end (st:=st) (φ:=φ) (w:=w) k2 (hstep.trans k3) (k3.le _ _ hφl) h2 hbusy ?_ v'
   intro w4 c1 c2
   refine hQ φ3 _ w4 ⟨c1,hl.glob.step c2,hl.tmps.mono c2.le,hl.size,.cons (.mark ?_) (hl.defers.mono c2.le)⟩ c2
   exact k3.le _ _ (b2.le _ _ hd1)
  have hres:(resolve a.eval (rangeCall g (w.heap.size+1)) 0).run P ((w.alloc (.deferred (some []))).alloc (.loop lp)) =
    .ok { target:=.fn (.func f) y',args:=x'++#[Value.func (.yield (w.heap.size+1)) #[] #[]] } ((w.alloc (.deferred (some []))).alloc (.loop lp)):=by
   simp only [resolve,rangeCall,hq,Deferred.ofValue,Sem.run_bind,Sem.run_pure,Result.andThen_ok,const_map]
  have hinv:(invoke (.fn (.func f) y') (x'++#[Value.func (.yield (w.heap.size+1)) #[] #[]])).run P ((w.alloc (.deferred (some []))).alloc (.loop lp))=.ok (.enter f (x'++#[Value.func (.yield (w.heap.size+1)) #[] #[]]++y')) ((w.alloc (.deferred (some []))).alloc (.loop lp)):=by
   simp only [invoke]
   exact hent _ _
  exact⟨_,_,_,_,_,_,_,_,run_enterLoop_outer fn a.tmps ps assign body,hres,fun _ _=>trivial,hinv,fun q=>by simp [Fw,Fence.wide] at q,callsIn_fw hcl⟩
theorem CodeOK.range1 {g:Operand} {ps:Array Tmp} {assign body:Code} {st:St} {f:FuncId} {first cap:List AV} {v:AV} {hp2:T Obj} {nx2:Nat} {e:Ex} {s2:LoopState} {tm2:T AV} {nt2:Nat} {ps2:List Nat} {as2 bd2:Code} {df2:Nat}
  {idr:Nat} {s0:LoopState} {pend0:Option Code} {tm0:T AV} {nt0:Nat} {ps0:List Nat} {as0 bd0:Code} {df0:Nat} (h0:st.hp.get idr=some (.loop s0 pend0 tm0 nt0 ps0 as0 bd0 df0))
  (hg:ev C st.tm g=some (.fn (.func f) first cap)) (hent:Enters P f)
  (Hk:CallOK P C f (first++[.yld st.nx]++cap) (st.hp.set st.nx (.loop .ready none st.tm nt ps.toList assign body df0)).get (st.nx+1) v hp2.get nx2)
  (h2:hp2.get st.nx=some (.loop s2 e.jump tm2 nt2 ps2 as2 bd2 df2)) (hbusy:s2≠.busy) :
  CodeOK P C nt (some idr) (.rangeFunc g ps assign body) st e ⟨st.tm,hp2.del st.nx,nx2,st.df⟩:=by
 intro φ a w hl r n hr Q hQ
 obtain⟨br,rfl,hφr⟩:=hr
 obtain⟨b',lr,bdr,k1,k2,k3,k4,k5,_⟩:=loop_of hl.rel h0
 rw [hφr] at k1;simp only [Option.some.injEq,Loc.obj.injEq] at k1;subst k1
 refine wpIn_rangeFunc fun fn _=>?_
 have hb:=ev_rel hl.glob.gl hl.tmps hg
 generalize hq:a.eval g=q at hb
 cases hb with
 | @fn _ _ _ x' y' hx' hy' =>
  let lp:Loop:={ state:=.ready,pending:=none,fn,tmps:=a.tmps,params:=ps,assign,body,defers:=lr.defers }
  obtain⟨b1,b2⟩:=hl.rel.new (id:=st.nx) (nx':=st.nx+1) (ob:=.loop .ready none st.tm nt ps.toList assign body df0) (l:=.obj w.heap.size) (o':=.loop lp)
   (Nat.le_refl _) (by omega) rfl (fun b o N h=>by cases h) (by
    have hle:=hl.rel.le_upd (i:=st.nx) (Nat.le_refl _) (.obj w.heap.size)
    have:=ORel.loop (φ:=upd φ st.nx (.obj w.heap.size)) (w:=w.alloc (.loop lp)) (r:=lp) (tm:=st.tm) (df:=df0) (bd:=bdr)
     (World.alloc_heap_new _ _) (hl.tmps.mono hle) (hle _ _ k4) k5
    have hsz:lp.tmps.size=nt:=hl.size
    rw [hsz] at this
    exact this)
  rw [← set_get] at b1 b2
  have hφl:upd φ st.nx (Loc.obj w.heap.size) st.nx=some (.obj w.heap.size):=upd_same _ _ _
  have hargs:VRels (upd φ st.nx (.obj w.heap.size)) (first++[.yld st.nx]++cap) (x'++#[Value.func (.yield w.heap.size) #[] #[]]++y').toList:=by
   simp only [Array.toList_append]
   exact((hx'.mono b2.le).append (.cons (.yld hφl) .nil)).append (hy'.mono b2.le)
  have hcl:Calls P f (x'++#[Value.func (.yield w.heap.size) #[] #[]]++y') (w.alloc (.loop lp)) (rangePost (Fw (some br)) n P w.heap.size Q { a with defers:=[]++a.defers }):=by
   refine Calls.mono (Hk _ _ _ b1 (hl.glob.step b2) hargs) ?_
   rintro en w3 ⟨v',φ3,rfl,j1,j2,j3⟩
   refine range_end (st:=st) (φ:=φ) (w:=w) j2 (b2.trans j3) (j3.le _ _ hφl) h2 hbusy ?_ v'
   intro w4 c1 c2
   exact hQ φ3 _ w4 ⟨c1,hl.glob.step c2,hl.tmps.mono c2.le,hl.size,hl.defers.mono c2.le⟩ c2
  have hres:(resolve a.eval (rangeCall g w.heap.size) 0).run P (w.alloc (.loop lp)) =
    .ok { target:=.fn (.func f) y',args:=x'++#[Value.func (.yield w.heap.size) #[] #[]] } (w.alloc (.loop lp)):=by
   simp only [resolve,rangeCall,hq,Deferred.ofValue,Sem.run_bind,Sem.run_pure,Result.andThen_ok,const_map]
  have hinv:(invoke (.fn (.func f) y') (x'++#[Value.func (.yield w.heap.size) #[] #[]])).run P (w.alloc (.loop lp))=.ok (.enter f (x'++#[Value.func (.yield w.heap.size) #[] #[]]++y')) (w.alloc (.loop lp)):=by
   simp only [invoke]
   exact hent _ _
  exact⟨_,_,_,_,_,_,_,_,run_enterLoop_inner k2 fn a.tmps ps assign body,hres,fun _ _=>trivial,hinv,fun q=>by simp [Fw,Fence.wide] at q,callsIn_fw hcl⟩
end
theorem Rel.drop {φ:Phi} {H H':Hp} {nx:Nat} {w w':World} (h:Rel φ H nx w) {id:Nat} {ob:Obj} {l:Loc} (hi:H id=some ob) (hown:ob.own=true)
  (hl:φ id=some l) (hH:∀ i x,H' i=some x→i≠id∧H i=some x) (hos:w'.os=w.os) (htape:w'.tape=w.tape) (hout:w'.output=w.output) (hsize:w'.heap.size=w.heap.size)
  (hshape:∀ r,w'.shape? r=w.shape? r) (hblk:∀ k,k≠l.block→w'.heap[k]?=w.heap[k]?) :
  Rel φ H' nx w'∧Step φ H nx w φ H' nx w':=by
 refine⟨⟨?_,?_,?_,?_⟩,⟨Nat.le_refl _,fun _ _ h=>.inl h,.refl _,⟨hos,htape,hout,by omega,fun r _=>hshape r,fun k _ hn=>hblk k fun e=>hn ⟨id,ob,l,hi,hown,hl,e.symm⟩⟩,?_,?_⟩⟩
 ·intro i m hm;have:=h.lt i m hm;exact⟨this.1,by omega⟩
 ·intro i b o N hm;obtain⟨e,he⟩:=h.shp i b o N hm;exact⟨e,by rw [hshape];exact he⟩
 ·intro i a ha
  obtain⟨hne,ha'⟩:=hH i a ha
  obtain⟨m,h1,h2⟩:=h.dom i a ha'
  exact⟨m,h1,h2.mono (.refl _) (hblk _ fun e'=>h.sep id i ob a l m hi ha' (Ne.symm hne) hown hl h1 e'.symm)⟩
 ·intro i j a b m n ha hb hne ho hm hn
  exact h.sep i j a b m n (hH i a ha).2 (hH j b hb).2 hne ho hm hn
 ·rintro k hk ⟨i,a,m,ha,ho,hm,hb⟩
  exact⟨i,a,m,(hH i a ha).2,ho,hm,hb⟩
 ·rintro k hk ⟨i,a,m,ha,hm,hb⟩
  exact⟨i,a,m,(hH i a ha).2,hm,hb⟩
theorem dfr_of {φ:Phi} {H:Hp} {nx:Nat} {w:World} (hr:Rel φ H nx w) {id:Nat} (h:H id=some .dfr):∃ b,φ id=some (.obj b)∧w.heap[b]?=some (.deferred (some [])):=by
 obtain⟨l,h1,h2⟩:=hr.dom id _ h
 generalize hq:Obj.dfr=ob at h2
 cases h2 with
 | dfr hb=>exact⟨_,h1,hb⟩
 | _=>simp at hq
theorem shape_putDfr {w:World} {b:Nat} {ds:List Deferred} (h:w.heap[b]?=some (.deferred (some ds))) (k:Nat):(w.putObj b (.deferred none)).shape? k=w.shape? k:=by
 by_cases e:k=b
 ·subst e
  have hlt:k<w.heap.size:=(Array.getElem?_eq_some_iff.1 h).1
  simp only [World.shape?,World.putObj_heap_same hlt,h]
 ·simp only [World.shape?,World.putObj_heap_other e]
section
variable {P:Program} {C:Ctx} {nt:Nat}
theorem CodeOK.scope {c:Code} {e:Ex} {st st':St} (he:∀ l,e≠.goto l) (h:CodeOK P C nt none c st e st'):CodeOK P C nt none (.scope c) st e st':=by
 intro φ a w hl r n hr Q hQ
 have hr':r=none:=hr
 subst hr'
 refine(wpIn_wide (n:=n)).2 (wp_scope_straight ((wpIn_wide (n:=n)).1 (h φ a w hl none n rfl _ fun φ1 a1 w1 hl1 hs=>?_)))
 have:=hQ φ1 a1 w1 hl1 hs
 cases e<;>first|exact(he _ rfl).elim|exact this
theorem CodeOK.jumps {c rest:Code} {l:Nat} (hf:findLabel c l=some rest) {e:Ex} (he:∀ l,e≠.goto l) {st st1 st':St} {n:Nat} (h:CodeOK P C nt none c st (.goto l) st1) (hr:Rounds P C nt none rest (.goto l) e st' n st1) :
  CodeOK P C nt none (.scope c) st e st':=by
 intro φ0 a0 w0 hl r k hrd Q hQ
 have hr':r=none:=hrd
 subst hr'
 refine(wpIn_wide (n:=k)).2 (wp_scope_jumps l (fun a w=>∃ n,Todo P C nt none rest (.goto l) e st st' φ0 w0 n a w) (fun a w=>few fun n=>Todo P C nt none rest (.goto l) e st st' φ0 w0 n a w) hf ?_ ?_)
 ·exact(wpIn_wide (n:=k)).1 (h φ0 a0 w0 hl none k rfl _ fun φ1 a1 w1 hl1 hs=>⟨rfl,n,φ1,st1,hr,hl1,hs⟩)
 ·intro a w hex
  obtain⟨⟨φ,st2,hrn,hl1,hs⟩,hmin⟩:=few_spec hex
  generalize few (fun n=>Todo P C nt none rest (.goto l) e st st' φ0 w0 n a w)=m at *
  cases hrn with
  | stop he' hc =>
   refine(wpIn_wide (n:=k)).1 (hc φ a w hl1 none k rfl _ fun φ2 a2 w2 hl2 hs2=>?_)
   have:=hQ φ2 a2 w2 hl2 (hs.trans hs2)
   cases e<;>first|exact(he _ rfl).elim|exact this
  | @round n _ st3 hc hk =>
   refine(wpIn_wide (n:=k)).1 (hc φ a w hl1 none k rfl _ fun φ2 a2 w2 hl2 hs2=>?_)
   have ht:Todo P C nt none rest (.goto l) e st st' φ0 w0 n a2 w2:=⟨φ2,st3,hk,hl2,hs.trans hs2⟩
   refine⟨rfl,⟨n,ht⟩,?_⟩
   have:=(few_spec (p:=fun n=>Todo P C nt none rest (.goto l) e st st' φ0 w0 n a2 w2) ⟨n,ht⟩).2 n ht
   omega
def DCallOK (P:Program) (C:Ctx) (f:FuncId) (args:List AV) (H:Hp) (nx:Nat) (H':Hp) (nx':Nat):Prop :=
 ∀ (φ:Phi) (w:World) (args':Array Value),Rel φ H nx w→BOk C φ H w→VRels φ args args'.toList→∀ n,
  CallsDIn (Fw none) n P f args' .returning w fun e u' w'=>u'=.returning∧∃ v φ',e=.returned v∧Rel φ' H' nx' w'∧Step φ H nx w φ' H' nx' w'
inductive LeavesA (P:Program) (C:Ctx):List DA→T Obj→Nat→T Obj→Nat→Prop
 | nil (hp:T Obj) (nx:Nat):LeavesA P C [] hp nx hp nx
 | mark {id:Nat} {ds:List DA} {hp hp':T Obj} {nx nx':Nat} (h:hp.get id=some .dfr) (k:LeavesA P C ds (hp.del id) nx hp' nx'):LeavesA P C (.mark id::ds) hp nx hp' nx'
 | call {f:FuncId} {args cap:List AV} {ds:List DA} {hp hp1 hp':T Obj} {nx nx1 nx':Nat} (he:Enters P f) (h:DCallOK P C f (args++cap) hp.get nx hp1.get nx1) (k:LeavesA P C ds hp1 nx1 hp' nx') :
   LeavesA P C (.call f args cap::ds) hp nx hp' nx'
theorem leaves_ok {ds:List DA} {hp hp':T Obj} {nx nx':Nat} (h:LeavesA P C ds hp nx hp' nx'):∀ {φ:Phi} {w:World} {ds':List Deferred},Rel φ hp.get nx w→BOk C φ hp.get w→DRels φ ds ds' →
  ∀ {fn:Func} {tmps:Array Value} {R:Ending→World→Prop} {n:Nat},(∀ φ' w',Rel φ' hp'.get nx' w'→Step φ hp.get nx w φ' hp'.get nx' w'→∃ v,(results fn tmps).run P w'=.ok v w'∧R (.returned v) w') →
   LeavesInM (Fw none) n P fn tmps R ds' .returning w:=by
 induction h with
 | nil hp nx =>
  intro φ w ds' hr hg hd fn tmps R n hR
  cases hd
  obtain⟨v,h1,h2⟩:=hR φ w hr (.refl _ _ _ _)
  exact⟨v,h1,h2⟩
 | @mark id ds hp hp' nx nx' h k ih =>
  intro φ w ds' hr hg hd fn tmps R n hR
  cases hd with
  | cons h1 t =>
   cases h1 with
   | @mark _ b hb =>
    obtain⟨b',h2,h3⟩:=dfr_of hr h
    rw [hb] at h2;simp only [Option.some.injEq,Loc.obj.injEq] at h2;subst h2
    obtain⟨d1,d2⟩:=hr.drop (H':=(hp.del id).get) (w':=w.putObj b (.deferred none)) h rfl hb (fun i x hx=>by
     rw [T.get_del] at hx
     split at hx
     ·simp at hx
     ·next hne=>exact⟨Ne.symm hne,hx⟩) rfl rfl rfl World.putObj_size (shape_putDfr h3) fun k hk=>World.putObj_heap_other hk
    refine⟨by simp,.inl ⟨b,_,rfl,run_takeDeferred h3,ih d1 (hg.step d2) t fun φ' w' r s=>?_⟩⟩
    exact hR φ' w' r (d2.trans s)
 | @call f args cap ds hp hp1 hp' nx nx1 nx' he h k ih =>
  intro φ w ds' hr hg hd fn tmps R n hR
  cases hd with
  | cons h1 t =>
   cases h1 with
   | @call _ _ _ args' cap' ha hc =>
    refine⟨by simp,.inr ⟨fun q=>by simp [Fw,Fence.wide] at q,.func f,cap',f,args'++cap',rfl,?_,fun _ _=>trivial,?_⟩⟩
    ·simp only [invoke];exact he _ _
    ·refine(h φ w (args'++cap') hr hg (by simp only [Array.toList_append];exact ha.append hc) (n - 1)).mono ?_
     rintro e u' w' ⟨rfl,v,φ',rfl,r,s⟩
     exact ih r (hg.step s) (t.mono s.le) fun φ2 w2 r2 s2=>hR φ2 w2 r2 (s.trans s2)
def CodeDOK (P:Program) (C:Ctx) (nt:Nat) (c:Code) (st:St) (e:Ex) (st':St):Prop :=
 ∀ (φ:Phi) (a:Act) (w:World),Lies C nt φ st a w→∀ (n:Nat) (c₀:Frame) (cs:List Frame),c₀.mode=.returning→∀ Q:Exit→Act→List Frame→World→Prop,
  (∀ φ' a' w',Lies C nt φ' st' a' w'→Step φ st.hp.get st.nx w φ' st'.hp.get st'.nx w'→Q e.to a' (c₀::cs) w')→c.wpSIn (Fw none) n P Q a (c₀::cs) w
theorem CodeDOK.lift {c:Code} {st st':St} {e:Ex} (h:CodeOK P C nt none c st e st'):CodeDOK P C nt c st e st' :=
 fun φ a w hl n _ _ _ _ hQ=>wpSIn_of_wpIn rfl (h φ a w hl none n rfl _ hQ)
theorem CodeDOK.seq {a b:Code} {st st1 st':St} {e:Ex} (h:CodeDOK P C nt a st .normal st1) (k:CodeDOK P C nt b st1 e st'):CodeDOK P C nt (.seq a b) st e st' :=
 fun φ a w hl n c₀ cs hm Q hQ=>wpSIn_seq (h φ a w hl n c₀ cs hm _ fun φ1 a1 w1 hl1 hs=>k φ1 a1 w1 hl1 n c₀ cs hm Q fun φ2 a2 w2 hl2 hs2=>hQ φ2 a2 w2 hl2 (hs.trans hs2))
theorem CodeDOK.seq_out {a b:Code} {st st':St} {e:Ex} (he:e≠.normal) (h:CodeDOK P C nt a st e st'):CodeDOK P C nt (.seq a b) st e st' :=
 fun φ a w hl n c₀ cs hm Q hQ=>wpSIn_seq (h φ a w hl n c₀ cs hm _ fun φ1 a1 w1 hl1 hs=>by
  have:=hQ φ1 a1 w1 hl1 hs
  cases e<;>first|exact(he rfl).elim|exact this)
theorem CodeDOK.recover {id:Nat} {o:Oper} {c:Call} {st:St} (ho:o.op=.call c) (hc:c.callee=.builtin .recover) (hg:o.guard=none) (hd:dstOk nt o.dst) :
  CodeDOK P C nt (.region id #[o] false) st .normal { st with tm:=putT st.tm o.dst .nif }:=by
 intro φ a w hl n c₀ cs hm Q hQ
 refine wpSIn_region ?_
 show wpOpsSIn (Fw none) n P #[o] Q [0] a (c₀::cs) w
 have hrec:recoverD (c₀::cs)=none:=by simp [recoverD,hm]
 have hrun:(execOp a.eval o).run P w=.ok .recover w:=by
  simp only [execOp,ho,Sem.run_bind,resolve,hc,Sem.run_pure,Result.andThen_ok,invoke]
  rfl
 have hw:Region.wanted o (yielded #[o] a.tmps)=true:=by simp [Region.wanted,hg]
 have h0:(#[o]:Array Oper)[0]?=some o:=rfl
 simp only [wpOpsSIn,h0,hw,if_true,hrun,hrec]
 refine⟨fun _ _=>trivial,?_⟩
 exact hQ φ _ w ⟨hl.rel,hl.glob,hl.tmps.put hl.size hd .nif,by rw [put_size];exact hl.size,by rw [put_defers];exact hl.defers⟩ (.refl _ _ _ _)
theorem CodeDOK.recover2 {id:Nat} {o p:Oper} {c:Call} {x:Operand} {v:AV} {st:St} (ho:o.op=.call c) (hc:c.callee=.builtin .recover) (hg:o.guard=none) (hd:dstOk nt o.dst)
  (hp:p.op=.assign x) (hpg:p.guard=none) (hpd:dstOk nt p.dst) (hx:ev C (putT st.tm o.dst .nif) x=some v) :
  CodeDOK P C nt (.region id #[o,p] false) st .normal { st with tm:=putT (putT st.tm o.dst .nif) p.dst v }:=by
 intro φ a w hl n c₀ cs hm Q hQ
 refine wpSIn_region ?_
 show wpOpsSIn (Fw none) n P #[o,p] Q [0,1] a (c₀::cs) w
 have hrec:recoverD (c₀::cs)=none:=by simp [recoverD,hm]
 have hrun:(execOp a.eval o).run P w=.ok .recover w:=by
  simp only [execOp,ho,Sem.run_bind,resolve,hc,Sem.run_pure,Result.andThen_ok,invoke]
  rfl
 have hw:Region.wanted o (yielded #[o,p] a.tmps)=true:=by simp [Region.wanted,hg]
 have hw2:∀ a':Act,Region.wanted p (yielded #[o,p] a'.tmps)=true:=fun a'=>by simp [Region.wanted,hpg]
 have h0:(#[o,p]:Array Oper)[0]?=some o:=rfl
 have h1:(#[o,p]:Array Oper)[1]?=some p:=rfl
 have hl1:Lies C nt φ { st with tm:=putT st.tm o.dst .nif } (a.put o.dst .nilIface) w:=⟨hl.rel,hl.glob,hl.tmps.put hl.size hd .nif,by rw [put_size];exact hl.size,by rw [put_defers];exact hl.defers⟩
 have hrun2:(execOp (a.put o.dst .nilIface).eval p).run P w=.ok (.value ((a.put o.dst .nilIface).eval x)) w:=by
  simp only [execOp,hp];rfl
 simp only [wpOpsSIn,h0,hw,if_true,hrun,hrec]
 refine⟨fun _ _=>trivial,?_⟩
 simp only [h1,hw2,if_true,hrun2]
 refine⟨fun _ _=>trivial,?_⟩
 have hv:=ev_rel hl1.glob.gl hl1.tmps hx
 exact hQ φ _ w ⟨hl.rel,hl.glob,hl1.tmps.put hl1.size hpd hv,by rw [put_size];exact hl1.size,by rw [put_defers];exact hl1.defers⟩ (.refl _ _ _ _)
end
section
variable {P:Program} {C:Ctx}
theorem any_sound {ops:Array Oper} {r:Option Nat} {n:Nat} {Q:Exit→Act→World→Prop} (I:(Nat→Bool)→Act→World→Prop)
  (ord:∀ (i:Nat) (o:Oper),ops[i]?=some o→∀ e∈o.after,Region.binds .any e=true→e.on<i)
  (next:∀ (L:Nat→Bool) (a:Act) (w:World) (i:Nat) (o:Oper),Down ops L→I L a w→ops[i]?=some o→L i=false→(∀ e∈o.after,Region.binds .any e=true→L e.on=true) →
   ∀ K:Act→World→Prop,(∀ a' w',I (more L i) a' w'→K a' w')→wpOpIn (Fw r) n P ops Q i K a w)
  (fin:∀ (L:Nat→Bool) (a:Act) (w:World),I L a w→(∀ i,i<ops.size→L i=true)→Q .normal a w) :
  ∀ (fuel:Nat) (listed:Array Bool) (a:Act) (w:World),listed.size=ops.size→(∃ l:List Nat,l.Nodup∧(∀ i,i∈l↔(i<ops.size∧listed.getD i false=false))∧l.length≤fuel)→Down ops (fun i=>listed.getD i false) →
   I (fun i=>listed.getD i false) a w→wpAnyIn (Fw r) n P .any ops Q fuel listed a w:=by
 intro fuel
 have fin':∀ (listed:Array Bool) (a:Act) (w:World),listed.size=ops.size→Region.ready .any ops listed=[]→I (fun i=>listed.getD i false) a w→Q .normal a w:=by
  intro listed a w hs hr S
  refine fin _ a w S ?_
  have key:∀ n i,i<n→i<ops.size→listed.getD i false=true:=by
   intro n
   induction n with
   | zero=>intro i hi;omega
   | succ n ih =>
    intro i hi his
    cases hb:listed.getD i false with
    | true=>rfl
    | false =>
     have:i∈Region.ready .any ops listed:=by
      refine mem_ready.2 ⟨?_,ops[i],Array.getElem?_eq_getElem his,fun e he hbe=>?_⟩
      ·have h1:i<listed.size:=by omega
       simp [h1] at hb ⊢;exact hb
      ·have:=ord i _ (Array.getElem?_eq_getElem his) e he hbe
       exact ih e.on (by omega) (by omega)
     rw [hr] at this;cases this
  exact fun i hi=>key (i+1) i (by omega) hi
 induction fuel with
 | zero =>
  intro listed a w hs hl hd S
  obtain⟨l,h1,h2,h3⟩:=hl
  have hr:Region.ready .any ops listed=[]:=by
   cases hq:Region.ready .any ops listed with
   | nil=>rfl
   | cons i r =>
    have:i∈Region.ready .any ops listed:=by rw [hq];simp
    obtain⟨h4,o,h5,_⟩:=mem_ready.1 this
    have hlt:=(Array.getElem?_eq_some_iff.1 h5).1
    have:i∈l:=(h2 i).2 ⟨hlt,by have h1:i<listed.size:=by omega
                               simp [h1] at h4 ⊢;exact h4⟩
    cases l with
    | nil=>cases this
    | cons _ _=>simp at h3
  exact⟨hr,fin' listed a w hs hr S⟩
 | succ fuel ih =>
  intro listed a w hs hl hd S
  refine⟨fun hr=>fin' listed a w hs hr S,fun i hi=>?_⟩
  obtain⟨h4,o,h5,h6⟩:=mem_ready.1 hi
  have hlt:=(Array.getElem?_eq_some_iff.1 h5).1
  have hltl:i<listed.size:=by omega
  have h4':listed.getD i false=false:=by simp [hltl] at h4 ⊢;exact h4
  have hmore:(fun j=>(listed.setIfInBounds i true).getD j false)=more (fun j=>listed.getD j false) i:=by
   funext j
   simp only [more]
   by_cases e:j=i
   ·subst e;simp [hltl]
   ·rw [if_neg e];exact getD_set_ne false (fun q=>e q.symm)
  refine next _ a w i o hd S h5 h4' h6 _ fun a' w' S'=>?_
  refine ih _ a' w' (by simpa using hs) ?_ ?_ ?_
  ·obtain⟨l,g1,g2,g3⟩:=hl
   refine⟨l.erase i,g1.erase i,fun j=>?_,?_⟩
   ·rw [g1.mem_erase_iff,g2 j]
    by_cases e:j=i
    ·subst e;simp [hltl]
    ·rw [getD_set_ne false (fun q=>e q.symm)];simp [e]
   ·have:i∈l:=(g2 i).2 ⟨hlt,h4'⟩
    rw [List.length_erase_of_mem this];omega
  ·rw [hmore];exact hd.more h5 h6
  ·rw [hmore];exact S'
theorem region_any {id:Nat} {ops:Array Oper} {r:Option Nat} {n:Nat} {Q:Exit→Act→World→Prop} {a:Act} {w:World} (hm:P.follows .mixedOrders=true) (I:(Nat→Bool)→Act→World→Prop)
  (ord:∀ (i:Nat) (o:Oper),ops[i]?=some o→∀ e∈o.after,Region.binds .any e=true→e.on<i)
  (next:∀ (L:Nat→Bool) (a:Act) (w:World) (i:Nat) (o:Oper),Down ops L→I L a w→ops[i]?=some o→L i=false→(∀ e∈o.after,Region.binds .any e=true→L e.on=true) →
   ∀ K:Act→World→Prop,(∀ a' w',I (more L i) a' w'→K a' w')→wpOpIn (Fw r) n P ops Q i K a w)
  (fin:∀ (L:Nat→Bool) (a:Act) (w:World),I L a w→(∀ i,i<ops.size→L i=true)→Q .normal a w)
  (start:I (fun _=>false) a { w with drawn:=w.drawn+1 }):(Code.region id ops true).wpIn (Fw r) n P Q a w:=by
 refine wpIn_region_any hm ?_
 have hrep:∀ i:Nat,(Array.replicate ops.size false).getD i false=false:=fun i=>by
  by_cases h:i<ops.size<;>simp [h]
 have hfun:(fun i=>(Array.replicate ops.size false).getD i false)=fun _=>false:=funext hrep
 refine any_sound I ord next fin _ _ a _ (by simp) ⟨List.range ops.size,List.nodup_range,fun i=>?_,by simp⟩ ?_ ?_
 ·rw [List.mem_range,hrep];simp
 ·exact⟨fun i h=>by rw [hrep] at h;simp at h,fun i o h=>by rw [hrep] at h;simp at h⟩
 ·rw [hfun];exact start
theorem wpOpIn_of {ops:Array Oper} {r:Option Nat} {n i:Nat} {Q:Exit→Act→World→Prop} {K:Act→World→Prop} {a:Act} {w:World} {o:Oper} (ho:ops[i]?=some o) (hg:o.guard=none) (h:o.wpIn (Fw r) n P a w K Q) :
  wpOpIn (Fw r) n P ops Q i K a w:=by
 unfold wpOpIn
 rw [ho]
 have hw:Region.wanted o (yielded ops a.tmps)=true:=by simp [Region.wanted,hg]
 simp only [hw,if_true]
 exact h
theorem more_same (L:Nat→Bool) (i:Nat):more L i i=true:=by simp [more]
theorem more_ne (L:Nat→Bool) {i j:Nat} (h:j≠i):more L i j=L j:=by simp [more,h]
end
def edgesAll (p:Nat) (es:List Edge):Bool:=(List.range p).all fun j=>es.any fun e=>Region.binds .any e&&Nat.beq e.on j
def ordB (i:Nat) (es:List Edge):Bool:=es.all fun e=>!Region.binds .any e||Nat.blt e.on i
def guardB (p:Nat) (o:Oper):Bool:=match o.guard with|none=>true|some g=>Nat.blt g.1 p
def isTmp (d:Nat):Operand→Bool
 | .tmp t=>Nat.beq t d
 | _=>false
def noneB {α:Type}:Option α→Bool
 | none=>true
 | some _=>false
structure TailOk (nt:Nat) (ops:Array Oper) (pre:List Oper) (ix s1 s2:Oper) (d:Nat):Prop where
 eq:ops.toList=pre++[ix,s1,s2]
 guards:∀ o∈pre,guardB pre.length o=true
 gi:ix.guard=none
 g1:s1.guard=none
 g2:s2.guard=none
 di:ix.dst=some d
 d1:s1.dst=none
 d2:s2.dst=none
 dlt:d<nt
 iall:edgesAll pre.length ix.after.toList=true
 a1:edgesAll (pre.length+1) s1.after.toList=true
 a2:edgesAll pre.length s2.after.toList=true
 oi:ordB pre.length ix.after.toList=true
 o1:ordB (pre.length+1) s1.after.toList=true
 o2:ordB (pre.length+2) s2.after.toList=true
 opre:∀ (i:Nat) (o:Oper),pre[i]?=some o→ordB i o.after.toList=true
section
variable {P:Program} {C:Ctx} {nt:Nat}
theorem store_form {tm:T AV} {hp:T Obj} {nx:Nat} {o:Oper} {t:TypeId} {a x:Operand} (ho:o.op=.store t a x) {r:R3} (h:chgA C tm hp nx o=some r) :
  ∃ id off ob,ev C tm a=some (.ptr id off)∧r=⟨undefA,hp.set id ob,nx⟩∧∀ (tm':T AV) (hp':T Obj) (nx':Nat),ev C tm' a=ev C tm a→ev C tm' x=ev C tm x→hp'.get id=hp.get id→chgA C tm' hp' nx' o=some ⟨undefA,hp'.set id ob,nx'⟩:=by
 unfold chgA at h
 rw [ho] at h
 simp only at h
 split at h
 ·next ti id off v hti ha hx =>
  split at h
  ·next Hn =>
   split at h
   ·next hp1 hw =>
    simp only [Option.some.injEq] at h;subst h
    have key:∃ ob,hp1=hp.set id ob∧∀ hp':T Obj,hp'.get id=hp.get id→wrH hp' id off v.cells=some (hp'.set id ob):=by
     unfold wrH at hw
     split at hw
     ·next c fz hob =>
      split at hw
      ·next h1 h2 =>
       split at hw
       ·next c' hc' =>
        simp only [Option.some.injEq] at hw
        refine⟨.cells c' fz,hw.symm,fun hp' hq=>?_⟩
        unfold wrH
        rw [hq,hob]
        simp only [h1,h2,hc']
       ·simp at hw
      ·simp at hw
     ·next ty c fz hob =>
      split at hw
      ·next h1 h2 =>
       split at hw
       ·next c' hc' =>
        simp only [Option.some.injEq] at hw
        refine⟨.tc ty c' fz,hw.symm,fun hp' hq=>?_⟩
        unfold wrH
        rw [hq,hob]
        simp only [h1,h2,hc']
       ·simp at hw
      ·simp at hw
     ·simp at hw
    obtain⟨ob,rfl,hk⟩:=key
    refine⟨id,off,ob,ha,rfl,fun tm' hp' nx' e1 e2 e3=>?_⟩
    unfold chgA
    rw [ho]
    simp only [hti,e1,e2,ha,hx,Hn,hk hp' e3]
   ·simp at h
  ·simp at h
 ·simp at h
theorem ev_set_ne {tm:T AV} {d:Nat} {v:AV} {a:Operand} (h:isTmp d a=false):ev C (tm.set d v) a=ev C tm a:=by
 cases a with
 | tmp t =>
  show T.get _ t=T.get _ t
  rw [T.get_set,if_neg]
  intro e
  subst e
  simp [isTmp] at h
 | const v=>rfl
 | global g=>rfl
 | func f=>rfl
def plainB (o:Oper):Bool:=match o.op with|.indexAddr ..=>true|_=>false
theorem plainB_val {o:Oper} (h:plainB o=true) (tm:T AV) (hp hp':T Obj):valA C tm hp o=valA C tm hp' o:=by
 unfold plainB at h
 split at h
 ·next t x i ho=>unfold valA;rw [ho]
 ·simp at h
theorem edgesAll_ok {p:Nat} {es:List Edge} (h:edgesAll p es=true) {j:Nat} (hj:j<p):∃ e∈es,Region.binds .any e=true∧e.on=j:=by
 unfold edgesAll at h
 have:=List.all_eq_true.1 h j (List.mem_range.2 hj)
 obtain⟨e,he,hb⟩:=List.any_eq_true.1 this
 simp only [Bool.and_eq_true] at hb
 exact⟨e,he,hb.1,Nat.eq_of_beq_eq_true hb.2⟩
theorem ordB_ok {i:Nat} {es:List Edge} (h:ordB i es=true) {e:Edge} (he:e∈es) (hb:Region.binds .any e=true):e.on<i:=by
 unfold ordB at h
 have:=List.all_eq_true.1 h e he
 simpa [hb,Nat.blt_eq] using this
theorem wpOpIn_pre {ops opsP:Array Oper} {p:Nat} (hp:∀ j,j<p→ops[j]?=opsP[j]?) {i:Nat} (hi:i<p) {o:Oper} (ho:opsP[i]?=some o) (hg:guardB p o=true) {r:Option Nat} {n:Nat} {Q:Exit→Act→World→Prop} {K:Act→World→Prop} {a:Act} {w:World}
  (h:wpOpIn (Fw r) n P opsP Q i K a w):wpOpIn (Fw r) n P ops Q i K a w:=by
 unfold wpOpIn at h ⊢
 rw [hp i hi,ho]
 rw [ho] at h
 simp only at h ⊢
 have hw:Region.wanted o (yielded ops a.tmps)=Region.wanted o (yielded opsP a.tmps):=by
  unfold Region.wanted
  unfold guardB at hg
  cases hgd:o.guard with
  | none=>rfl
  | some g =>
   rw [hgd] at hg
   have:g.1<p:=by simpa [Nat.blt_eq] using hg
   simp only [yielded,hp g.1 this]
 rw [hw]
 exact h
def LS (C:Ctx) (nt:Nat) (st:St) (φ0:Phi) (w0:World) (st':St) (a:Act) (w:World):Prop:=∃ φ,Lies C nt φ st' a w∧Step φ0 st.hp.get st.nx w0 φ st'.hp.get st'.nx w
theorem LS.val (hC:CtxOk P C) {st st':St} {φ0:Phi} {w0 w:World} {a:Act} (h:LS C nt st φ0 w0 st' a w) {ops:Array Oper} {i:Nat} {o:Oper} (ho:ops[i]?=some o) (hg:o.guard=none) {v:AV} (hv:valA C st'.tm st'.hp o=some v) {d:Nat} (hd:o.dst=some d) (hdl:d<nt)
  {r:Option Nat} {n:Nat} {Q:Exit→Act→World→Prop} {K:Act→World→Prop} (hK:∀ a' w',LS C nt st φ0 w0 ⟨st'.tm.set d v,st'.hp,st'.nx,st'.df⟩ a' w'→K a' w'):wpOpIn (Fw r) n P ops Q i K a w:=by
 obtain⟨φ,hl,hs⟩:=h
 refine wpOpIn_of ho hg ?_
 refine OpOK.val (P:=P) hC hv st'.nx φ w a hl.rel hl.glob hl.tmps r n _ _ ?_
 intro φ' v' w' h1 h2 h3
 have hdo:dstOk nt o.dst:=fun t q=>by rw [hd] at q;cases q;exact hdl
 have:=TRel.put (hl.tmps.mono h3.le) hl.size hdo h1
 rw [hd] at this ⊢
 exact hK _ _ ⟨φ',⟨h2,hl.glob.step h3,this,by rw [put_size];exact hl.size,by rw [put_defers];exact hl.defers.mono h3.le⟩,hs.trans h3⟩
theorem LS.chg (hC:CtxOk P C) {st st':St} {φ0:Phi} {w0 w:World} {a:Act} (h:LS C nt st φ0 w0 st' a w) {ops:Array Oper} {i:Nat} {o:Oper} (ho:ops[i]?=some o) (hg:o.guard=none) {hp':T Obj} (hv:chgA C st'.tm st'.hp st'.nx o=some ⟨undefA,hp',st'.nx⟩) (hd:o.dst=none)
  {st'':St} (he:st''=⟨st'.tm,hp',st'.nx,st'.df⟩∨(st''.tm=st'.tm∧st''.hp.get=hp'.get∧st''.nx=st'.nx∧st''.df=st'.df))
  {r:Option Nat} {n:Nat} {Q:Exit→Act→World→Prop} {K:Act→World→Prop} (hK:∀ a' w',LS C nt st φ0 w0 st'' a' w'→K a' w'):wpOpIn (Fw r) n P ops Q i K a w:=by
 obtain⟨φ,hl,hs⟩:=h
 refine wpOpIn_of ho hg ?_
 refine OpOK.chg (P:=P) hC hv φ w a hl.rel hl.glob hl.tmps r n _ _ ?_
 intro φ' v' w' h1 h2 h3
 rw [hd]
 have h4:st''.tm=st'.tm∧st''.hp.get=hp'.get∧st''.nx=st'.nx∧st''.df=st'.df:=by
  rcases he with rfl|he
  ·exact⟨rfl,rfl,rfl,rfl⟩
  ·exact he
 obtain⟨e1,e2,e3,e4⟩:=h4
 refine hK _ _ ⟨φ',⟨by rw [e2,e3];exact h2,by rw [e2];exact hl.glob.step h3,by rw [e1];exact hl.tmps.mono h3.le,hl.size,by rw [e4];exact hl.defers.mono h3.le⟩,by rw [e2,e3];exact hs.trans h3⟩
theorem CodeOK.tail (hC:CtxOk P C) (hm:P.follows .mixedOrders=true) {rd:Option Nat} {id:Nat} {ops:Array Oper} {pre:List Oper} {ix s1 s2:Oper} {d:Nat} (B:TailOk nt ops pre ix s1 s2 d)
  {st st1:St} {R:Nat→DRec} {m:Nat} {c:Nat→Nat} {M:Nat→T Obj} {N:Nat→Nat} {G:Nat→Nat→T Obj} (D:DrawOk P C nt pre.toArray st st1 R m c M N G)
  {v:AV} (hpl:plainB ix=true) (hv:valA C st1.tm st1.hp ix=some v) {t1 t2:TypeId} {x1 y1 x2 y2:Operand} (ho1:s1.op=.store t1 x1 y1) (ho2:s2.op=.store t2 x2 y2) (hx2:isTmp d x2=false) (hy2:isTmp d y2=false)
  {r1 r2:R3} (hc1:chgA C (st1.tm.set d v) st1.hp st1.nx s1=some r1) (hc2:chgA C (st1.tm.set d v) r1.hp st1.nx s2=some r2)
  {i1 i2 f1 f2:Nat} (hi1:ev C (st1.tm.set d v) x1=some (.ptr i1 f1)) (hi2:ev C st1.tm x2=some (.ptr i2 f2)) (hne:i1≠i2) :
  CodeOK P C nt rd (.region id ops true) st .normal ⟨st1.tm.set d v,r2.hp,st1.nx,st1.df⟩:=by
 intro φ0 a0 w0 hl r n hr Q hQ
 have hplen:pre.toArray.size=pre.length:=by simp
 have hopsP:∀ j,j<pre.length→ops[j]?=pre.toArray[j]?:=fun j hj=>by
  rw [← Array.getElem?_toList,B.eq,List.getElem?_append_left hj];simp
 have hoi:ops[pre.length]?=some ix:=by rw [← Array.getElem?_toList,B.eq];simp
 have hos1:ops[pre.length+1]?=some s1:=by rw [← Array.getElem?_toList,B.eq];simp
 have hos2:ops[pre.length+2]?=some s2:=by rw [← Array.getElem?_toList,B.eq];simp
 have hsize:ops.size=pre.length+3:=by rw [← Array.length_toList,B.eq];simp
 obtain⟨id1,off1,ob1,q1,q2,q3⟩:=store_form ho1 hc1
 rw [hi1] at q1;cases q1
 subst q2
 obtain⟨id2,off2,ob2,p1,p2,p3⟩:=store_form ho2 hc2
 rw [ev_set_ne hx2,hi2] at p1;cases p1
 subst p2
 simp only at hc1 hc2 p3 ⊢
 have hg2:(st1.hp.set i1 ob1).get i2=st1.hp.get i2:=T.get_set_ne _ _ hne
 have hs2a:∀ tm':T AV,ev C tm' x2=ev C st1.tm x2→ev C tm' y2=ev C st1.tm y2→chgA C tm' st1.hp st1.nx s2=some ⟨undefA,st1.hp.set i2 ob2,st1.nx⟩:=fun tm' e1 e2 =>
  p3 tm' st1.hp st1.nx (by rw [e1,ev_set_ne hx2]) (by rw [e2,ev_set_ne hy2]) hg2.symm
 have hs1b:chgA C (st1.tm.set d v) (st1.hp.set i2 ob2) st1.nx s1=some ⟨undefA,(st1.hp.set i2 ob2).set i1 ob1,st1.nx⟩:=q3 _ _ _ rfl rfl (T.get_set_ne _ _ (Ne.symm hne))
 have hcomm:((st1.hp.set i1 ob1).set i2 ob2).get=((st1.hp.set i2 ob2).set i1 ob1).get:=by
  funext j
  rw [T.get_set,T.get_set,T.get_set,T.get_set]
  by_cases e1:i2=j
  ·rw [if_pos e1,if_neg (fun q=>hne (q.trans e1.symm)),if_pos e1]
  ·rw [if_neg e1,if_neg e1]
 refine region_any hm (fun L a w=>((∀ j,pre.length≤j→L j=false)∧∃ k φ,Stands C nt pre.toArray st R m c M N φ0 a0 w0 L k φ a w) ∨
   ((∀ j,j<pre.length→L j=true) ∧
     ((L pre.length=true∧L (pre.length+1)=false∧L (pre.length+2)=false∧LS C nt st φ0 w0 ⟨st1.tm.set d v,st1.hp,st1.nx,st1.df⟩ a w) ∨
      (L pre.length=true∧L (pre.length+1)=true∧L (pre.length+2)=false∧LS C nt st φ0 w0 ⟨st1.tm.set d v,st1.hp.set i1 ob1,st1.nx,st1.df⟩ a w) ∨
      (L pre.length=true∧L (pre.length+1)=false∧L (pre.length+2)=true∧LS C nt st φ0 w0 ⟨st1.tm.set d v,st1.hp.set i2 ob2,st1.nx,st1.df⟩ a w) ∨
      (L pre.length=false∧L (pre.length+1)=false∧L (pre.length+2)=true∧LS C nt st φ0 w0 ⟨st1.tm,st1.hp.set i2 ob2,st1.nx,st1.df⟩ a w) ∨
      (L pre.length=true∧L (pre.length+1)=true∧L (pre.length+2)=true∧LS C nt st φ0 w0 ⟨st1.tm.set d v,(st1.hp.set i1 ob1).set i2 ob2,st1.nx,st1.df⟩ a w)))) ?_ ?_ ?_ ?_
 ·
  intro i o ho e he hb
  have hlt:i<ops.size:=(Array.getElem?_eq_some_iff.1 ho).1
  rw [hsize] at hlt
  have he':e∈o.after.toList:=by simpa using he
  rcases(by omega:i<pre.length∨i=pre.length∨i=pre.length+1∨i=pre.length+2) with h|rfl|rfl|rfl
  ·rw [hopsP i h] at ho
   exact ordB_ok (B.opre i o (by simpa using ho)) he' hb
  ·rw [hoi] at ho;cases ho;exact ordB_ok B.oi he' hb
  ·rw [hos1] at ho;cases ho;exact ordB_ok B.o1 he' hb
  ·rw [hos2] at ho;cases ho;exact ordB_ok B.o2 he' hb
 ·
  intro L a w i o hL hI ho hi hall K hK
  have hlt:i<ops.size:=(Array.getElem?_eq_some_iff.1 ho).1
  rw [hsize] at hlt
  have hon:∀ {p:Nat},edgesAll p o.after.toList=true→∀ j,j<p→L j=true:=by
   intro p hp j hj
   obtain⟨e,he,hb,rfl⟩:=edgesAll_ok hp hj
   exact hall e (by simpa using he) hb
  have hvp:∀ hp,valA C st1.tm hp ix=some v:=fun hp=>by rw [plainB_val hpl _ hp st1.hp];exact hv
  have hmpre:∀ x,pre.length≤x→(∀ j,j<pre.length→L j=true)→∀ j,j<pre.length→more L x j=true:=fun x hx h j hj=>by rw [more_ne L (by omega)];exact h j hj
  rcases hI with⟨hno,k,φ,S⟩|⟨hpre,hI⟩
  ·by_cases hip:i<pre.length
   ·have ho':=ho
    rw [hopsP i hip] at ho'
    have hLP:Down pre.toArray L:=⟨(fun j hj=>by
     rcases Nat.lt_or_ge j pre.length with h|h
     ·rw [hplen];exact h
     ·rw [hno j h] at hj;cases hj),fun j oj hj hoj e he hb=>hL.down j oj hj (by rw [hopsP j (by have:=(Array.getElem?_eq_some_iff.1 hoj).1;omega)];exact hoj) e he hb⟩
    refine wpOpIn_pre hopsP hip ho' (B.guards o (by have:=List.mem_of_getElem? (l:=pre) (i:=i) (by simpa using ho');exact this)) ?_
    refine S.next hC D hLP ho' hi hall fun k' φ' a' w' S'=>hK a' w' (.inl ⟨fun j hj=>by rw [more_ne L (by omega)];exact hno j hj,k',φ',S'⟩)
   ·
    have hL0:=hno pre.length (Nat.le_refl _)
    rcases(by omega:i=pre.length∨i=pre.length+1∨i=pre.length+2) with rfl|rfl|rfl
    ·rw [hoi] at ho;cases ho
     have hpre:=hon B.iall
     have hdone:=S.done D hl.defers (fun j hj=>hpre j (by omega))
     refine LS.val hC ⟨φ,hdone.lies,hdone.step⟩ hoi B.gi hv B.di B.dlt fun a' w' h=>hK a' w' (.inr ⟨hmpre _ (Nat.le_refl _) hpre,.inl ⟨more_same _ _,by rw [more_ne L (by omega)];exact hno _ (by omega),by rw [more_ne L (by omega)];exact hno _ (by omega),h⟩⟩)
    ·rw [hos1] at ho;cases ho
     have:=hon B.a1 pre.length (by omega)
     rw [hL0] at this;cases this
    ·rw [hos2] at ho;cases ho
     have hpre:=hon B.a2
     have hdone:=S.done D hl.defers (fun j hj=>hpre j (by omega))
     refine LS.chg hC ⟨φ,hdone.lies,hdone.step⟩ hos2 B.g2 (hs2a _ rfl rfl) B.d2 (.inl rfl) fun a' w' h=>hK a' w' (.inr ⟨hmpre _ (by omega) hpre,.inr (.inr (.inr (.inl ⟨by rw [more_ne L (by omega)];exact hL0,by rw [more_ne L (by omega)];exact hno _ (by omega),more_same _ _,h⟩)))⟩)
  ·have hip:¬ i<pre.length:=fun h=>by rw [hpre i h] at hi;cases hi
   have hev2:ev C (st1.tm.set d v) x2=ev C st1.tm x2:=ev_set_ne hx2
   have hev2':ev C (st1.tm.set d v) y2=ev C st1.tm y2:=ev_set_ne hy2
   rcases hI with⟨l0,l1,l2,h⟩|⟨l0,l1,l2,h⟩|⟨l0,l1,l2,h⟩|⟨l0,l1,l2,h⟩|⟨l0,l1,l2,h⟩
   ·rcases(by omega:i=pre.length∨i=pre.length+1∨i=pre.length+2) with rfl|rfl|rfl
    ·rw [l0] at hi;cases hi
    ·rw [hos1] at ho;cases ho
     exact LS.chg hC h hos1 B.g1 hc1 B.d1 (.inl rfl) fun a' w' h=>hK a' w' (.inr ⟨hmpre _ (by omega) hpre,.inr (.inl ⟨by rw [more_ne L (by omega)];exact l0,more_same _ _,by rw [more_ne L (by omega)];exact l2,h⟩)⟩)
    ·rw [hos2] at ho;cases ho
     exact LS.chg hC h hos2 B.g2 (hs2a _ hev2 hev2') B.d2 (.inl rfl) fun a' w' h=>hK a' w' (.inr ⟨hmpre _ (by omega) hpre,.inr (.inr (.inl ⟨by rw [more_ne L (by omega)];exact l0,by rw [more_ne L (by omega)];exact l1,more_same _ _,h⟩))⟩)
   ·rcases(by omega:i=pre.length∨i=pre.length+1∨i=pre.length+2) with rfl|rfl|rfl
    ·rw [l0] at hi;cases hi
    ·rw [l1] at hi;cases hi
    ·rw [hos2] at ho;cases ho
     exact LS.chg hC h hos2 B.g2 hc2 B.d2 (.inl rfl) fun a' w' h=>hK a' w' (.inr ⟨hmpre _ (by omega) hpre,.inr (.inr (.inr (.inr ⟨by rw [more_ne L (by omega)];exact l0,by rw [more_ne L (by omega)];exact l1,more_same _ _,h⟩)))⟩)
   ·rcases(by omega:i=pre.length∨i=pre.length+1∨i=pre.length+2) with rfl|rfl|rfl
    ·rw [l0] at hi;cases hi
    ·rw [hos1] at ho;cases ho
     exact LS.chg (st'':=⟨st1.tm.set d v,(st1.hp.set i1 ob1).set i2 ob2,st1.nx,st1.df⟩) hC h hos1 B.g1 hs1b B.d1 (.inr ⟨rfl,hcomm,rfl,rfl⟩) fun a' w' h=>hK a' w' (.inr ⟨hmpre _ (by omega) hpre,.inr (.inr (.inr (.inr ⟨by rw [more_ne L (by omega)];exact l0,more_same _ _,by rw [more_ne L (by omega)];exact l2,h⟩)))⟩)
    ·rw [l2] at hi;cases hi
   ·rcases(by omega:i=pre.length∨i=pre.length+1∨i=pre.length+2) with rfl|rfl|rfl
    ·rw [hoi] at ho;cases ho
     exact LS.val hC h hoi B.gi (hvp _) B.di B.dlt fun a' w' h=>hK a' w' (.inr ⟨hmpre _ (Nat.le_refl _) hpre,.inr (.inr (.inl ⟨more_same _ _,by rw [more_ne L (by omega)];exact l1,by rw [more_ne L (by omega)];exact l2,h⟩))⟩)
    ·rw [hos1] at ho;cases ho
     have:=hon B.a1 pre.length (by omega)
     rw [l0] at this;cases this
    ·rw [l2] at hi;cases hi
   ·rcases(by omega:i=pre.length∨i=pre.length+1∨i=pre.length+2) with rfl|rfl|rfl
    ·rw [l0] at hi;cases hi
    ·rw [l1] at hi;cases hi
    ·rw [l2] at hi;cases hi
 ·
  rintro L a w hI hall
  have h0:=hall pre.length (by omega)
  have h1:=hall (pre.length+1) (by omega)
  have h2:=hall (pre.length+2) (by omega)
  rcases hI with⟨hno,_⟩|⟨_,hI⟩
  ·rw [hno pre.length (Nat.le_refl _)] at h0;cases h0
  ·rcases hI with⟨l0,l1,l2,h⟩|⟨l0,l1,l2,h⟩|⟨l0,l1,l2,h⟩|⟨l0,l1,l2,h⟩|⟨l0,l1,l2,h⟩
   ·rw [l1] at h1;cases h1
   ·rw [l2] at h2;cases h2
   ·rw [l1] at h1;cases h1
   ·rw [l0] at h0;cases h0
   ·obtain⟨φ,hlies,hstep⟩:=h
    exact hQ φ a w hlies hstep
 ·
  refine .inl ⟨fun _ _=>rfl,0,φ0,?_⟩
  have hpend:pendA R st.nx pre.toArray.size (abs R c 0) (fun _=>false)=fun _=>none:=by
   funext id
   unfold pendA
   rw [if_neg]
   rintro⟨_,_,h,_⟩
   simp at h
  have hun:un (fun _=>none) st.hp.get=st.hp.get:=by funext id;simp [un]
  have hdr:Rel φ0 st.hp.get (st.nx+pre.toArray.size) { w0 with drawn:=w0.drawn+1 }:=(hl.rel.drew _).less (fun _ _ h=>h) (by omega)
  refine⟨Nat.zero_le _,fun j _=>by simp,?_,hl.glob,?_,?_,fun t v h1 _=>hl.tmps t v h1,(fun i o t _ h=>by cases h),hl.size,rfl⟩
  ·rw [hpend,D.hp0,D.nx0,hun];exact hdr
  ·intro i o ob h1 h2 _
   exact(hl.rel.fresh (by omega)).1
  ·rw [hpend,D.hp0,D.nx0,hun]
   have:=Step.drew φ0 st.hp.get st.nx w0 (w0.drawn+1)
   exact⟨by omega,this.born,this.le,this.keeps,this.own,this.live⟩
end
section
variable {P:Program} {C:Ctx} {nt:Nat} {rd:Option Nat}
theorem EFor.perm {φ:Phi} {es es':List (AV×AV)} (hp:es.Perm es'):∀ {r:List MapEntry},EFor φ es r→∃ r',EFor φ es' r'∧r.Perm r':=by
 induction hp with
 | nil=>intro r h;exact⟨r,h,.refl _⟩
 | cons x _ ih =>
  intro r h
  cases h with
  | cons hk hv t =>
   obtain⟨r',h1,h2⟩:=ih t
   exact⟨_,.cons hk hv h1,.cons _ h2⟩
 | swap x y l =>
  intro r h
  cases h with
  | cons hk hv t=>cases t with
   | cons hk2 hv2 t=>exact⟨_,.cons hk2 hv2 (.cons hk hv t),.swap _ _ _⟩
 | trans _ _ ih1 ih2 =>
  intro r h
  obtain⟨r1,h1,h2⟩:=ih1 h
  obtain⟨r2,h3,h4⟩:=ih2 h1
  exact⟨r2,h3,h2.trans h4⟩
theorem MRel.perm' {φ:Phi} {es es':List (AV×AV)} {ens:List MapEntry} {clk:Nat} (h:MRel φ es ens clk) (hp:es.Perm es'):MRel φ es' ens clk where
 perm:=by
  obtain⟨r,h1,h2⟩:=h.perm
  obtain⟨r',h3,h4⟩:=EFor.perm hp h1
  exact⟨r',h3,h4.symm.trans h2⟩
 born:=h.born
 nodup:=h.nodup
 keys:=(hp.pairwise_iff (fun {a b} q=>eqK_symm q)).1 h.keys
theorem Rel.mapPerm {φ:Phi} {H:Hp} {nx:Nat} {w:World} (h:Rel φ H nx w) {id:Nat} {es es':List (AV×AV)} {clk:Nat} (hi:H id=some (.map es clk)) (hp:es.Perm es') :
  Rel φ (upd H id (.map es' clk)) nx w∧Step φ H nx w φ (upd H id (.map es' clk)) nx w:=by
 obtain⟨l,h1,h2⟩:=h.dom id _ hi
 cases h2 with
 | @map _ _ b ens hb hm=>exact h.turn hi rfl rfl h1 (.map hb (hm.perm' hp)) rfl rfl rfl rfl (fun _=>rfl) (fun _ _=>rfl)
def entsL (n:Nat) (K V:Nat→AV) (L:Nat→Bool):List (AV×AV):=((List.range n).filter fun i=>L (2*i+2)).map fun i=>(K i,V i)
theorem entsL_more {n:Nat} {K V:Nat→AV} {L:Nat→Bool} {i:Nat} (hi:i<n) (hL:L (2*i+2)=false):(entsL n K V L++[(K i,V i)]).Perm (entsL n K V (more L (2*i+2))):=by
 unfold entsL
 have key:∀ l:List Nat,l.Nodup→i∈l→((l.filter fun j=>L (2*j+2))++[i]).Perm (l.filter fun j=>more L (2*i+2) (2*j+2)):=by
  intro l
  induction l with
  | nil=>intro _ h;cases h
  | cons x l ih =>
   intro hn hm
   have hn':=List.nodup_cons.1 hn
   by_cases e:x=i
   ·subst e
    have hsame:(l.filter fun j=>more L (2*x+2) (2*j+2))=l.filter fun j=>L (2*j+2):=by
     apply List.filter_congr
     intro j hj
     have:j≠x:=fun q=>hn'.1 (q▸hj)
     simp only [more];rw [if_neg (by omega)]
    have h1:(List.filter (fun j=>L (2*j+2)) (x::l))=l.filter fun j=>L (2*j+2):=by rw [List.filter_cons];simp [hL]
    have h2:(List.filter (fun j=>more L (2*x+2) (2*j+2)) (x::l))=x::l.filter fun j=>L (2*j+2):=by rw [List.filter_cons,hsame];simp [more]
    rw [h1,h2]
    exact List.perm_append_singleton _ _
   ·have hm':i∈l:=by rcases List.mem_cons.1 hm with q|q;exact(e q.symm).elim;exact q
    have ih:=ih hn'.2 hm'
    have hx:more L (2*i+2) (2*x+2)=L (2*x+2):=by simp only [more];rw [if_neg (by omega)]
    rw [List.filter_cons,List.filter_cons,hx]
    cases L (2*x+2)
    ·simpa using ih
    ·simpa using ih
 have:=(key (List.range n) List.nodup_range (List.mem_range.2 hi)).map fun i=>(K i,V i)
 simpa using this
theorem setK_fresh {k v:AV}:∀ {es:List (AV×AV)},(∀ e∈es,eqK k e.1=some false)→setK k v es=some (es++[(k,v)],true)
 | [],_=>rfl
 | e::l,h=>by
  unfold setK
  rw [h e (List.mem_cons_self ..)]
  simp only
  rw [setK_fresh fun x hx=>h x (List.mem_cons_of_mem _ hx)]
  rfl
structure LitOk (C:Ctx) (nt:Nat) (ops:Array Oper) (ty kt:Nat) (tk:TI) (d0 dm da n:Nat) (dk:Nat→Nat) (K V:Nat→AV):Prop where
 ti:∃ tT et,C.tt.get ty=some tT∧tT.k=.map kt et
 htk:C.tt.get kt=some tk
 kok:∀ i,i<n→keyOk tk (K i)=true
 keys:∀ i j,i<n→j<n→i≠j→eqK (K i) (K j)=some false
 size:ops.size=2*n+3
 ord:∀ (i:Nat) (o:Oper),ops[i]?=some o→∀ e∈o.after,Region.binds .any e=true→e.on<i
 made:∃ o,ops[0]?=some o∧o.op=.makeMap ty none∧o.dst=some d0∧o.guard=none
 bld:∀ i,i<n→∃ o,ops[2*i+1]?=some o∧o.guard=none∧o.dst=some (dk i)∧∀ hp,valA C .leaf hp o=some (K i)
 ins:∀ i,i<n→∃ o x,ops[2*i+2]?=some o∧o.guard=none∧o.dst=none∧o.op=.insert ty (.tmp d0) (.tmp (dk i)) x∧(∀ tm,ev C tm x=some (V i)) ∧
  (∃ e∈o.after,Region.binds .any e=true∧e.on=0)∧(∃ e∈o.after,Region.binds .any e=true∧e.on=2*i+1)
 mv:∃ o,ops[2*n+1]?=some o∧o.guard=none∧o.op=.move (.tmp d0)∧o.dst=some dm∧∃ e∈o.after,Region.binds .any e=true∧e.on=0
 asg:∃ o,ops[2*n+2]?=some o∧o.guard=none∧o.op=.assign (.tmp dm)∧o.dst=some da∧∃ e∈o.after,Region.binds .any e=true∧e.on=2*n+1
 d0lt:d0<nt
 dmlt:dm<nt
 dalt:da<nt
 dklt:∀ i,i<n→dk i<nt
 k0:∀ i,i<n→dk i≠d0
 kk:∀ i j,i<n→j<n→i≠j→dk i≠dk j
 m0:dm≠d0
 km:∀ i,i<n→dk i≠dm
 a0:da≠d0
 am:da≠dm
 ak:∀ i,i<n→dk i≠da
def Holds (φ:Phi) (a:Act) (t:Nat) (v:AV):Prop:=∃ v',a.tmps[t]?=some v'∧VRel φ v v'
theorem Holds.mono {φ ψ:Phi} (hle:Le φ ψ) {a:Act} {t:Nat} {v:AV} (h:Holds φ a t v):Holds ψ a t v:=let ⟨v',h1,h2⟩:=h;⟨v',h1,h2.mono hle⟩
theorem Holds.other {φ:Phi} {a:Act} {t:Nat} {v:AV} (h:Holds φ a t v) {d:Option Tmp} (hd:d≠some t) (x:Value):Holds φ (a.put d x) t v :=
 let ⟨v',h1,h2⟩:=h;⟨v',by rw [put_get_ne hd];exact h1,h2⟩
theorem Holds.same {φ:Phi} {a:Act} {t:Nat} {v:AV} {x:Value} (hs:a.tmps.size=nt) (ht:t<nt) (h:VRel φ v x):Holds φ (a.put (some t) x) t v :=
 ⟨x,put_get_self hs (fun _ q=>by cases q;exact ht) x,h⟩
theorem Holds.rel {φ:Phi} {a:Act} {t:Nat} {v:AV} (h:Holds φ a t v):TRel φ (T.set .leaf t v) a.tmps:=by
 intro s u hu
 rw [T.get_set] at hu
 split at hu
 ·next e=>cases hu;subst e;exact h
 ·simp at hu
theorem Holds.rel2 {φ:Phi} {a:Act} {t s:Nat} {v u:AV} (h:Holds φ a t v) (k:Holds φ a s u):TRel φ ((T.set .leaf t v).set s u) a.tmps:=by
 intro x y hy
 rw [T.get_set] at hy
 split at hy
 ·next e=>cases hy;subst e;exact k
 ·exact h.rel x y hy
structure LitI (C:Ctx) (nt n d0 dm da:Nat) (dk:Nat→Nat) (K V:Nat→AV) (st:St) (φ0:Phi) (a0:Act) (w0:World) (L:Nat→Bool) (φ:Phi) (a:Act) (w:World):Prop where
 glob:GOk C φ
 none:L 0=false→Rel φ st.hp.get (st.nx+1) w∧Step φ0 st.hp.get st.nx w0 φ st.hp.get (st.nx+1) w∧φ st.nx=.none
 some:L 0=true→Rel φ (st.hp.set st.nx (.map (entsL n K V L) (entsL n K V L).length)).get (st.nx+1) w∧Step φ0 st.hp.get st.nx w0 φ (st.hp.set st.nx (.map (entsL n K V L) (entsL n K V L).length)).get (st.nx+1) w
 t0:L 0=true→Holds φ a d0 (.map st.nx)
 tk:∀ i,i<n→L (2*i+1)=true→Holds φ a (dk i) (K i)
 tm:L (2*n+1)=true→Holds φ a dm (.map st.nx)
 ta:L (2*n+2)=true→Holds φ a da (.map st.nx)
 size:a.tmps.size=nt
 defers:a.defers=a0.defers
theorem entsL_odd {n:Nat} {K V:Nat→AV} {L:Nat→Bool} {j:Nat} (h:∀ i,i<n→2*i+2≠j):entsL n K V (more L j)=entsL n K V L:=by
 unfold entsL
 congr 1
 apply List.filter_congr
 intro i hi
 rw [more_ne L (h i (List.mem_range.1 hi))]
theorem CodeOK.lit (hC:CtxOk P C) (hm:P.follows .mixedOrders=true) {id:Nat} {ops:Array Oper} {ty kt:Nat} {tk:TI} {d0 dm da n:Nat} {dk:Nat→Nat} {K V:Nat→AV} (D:LitOk C nt ops ty kt tk d0 dm da n dk K V) (st:St) :
  CodeOK P C nt rd (.region id ops true) st .normal ⟨T.set .leaf da (.map st.nx),st.hp.set st.nx (.map ((List.range n).map fun i=>(K i,V i)) n),st.nx+1,st.df⟩:=by
 intro φ0 a0 w0 hl r m hr Q hQ
 refine region_any hm (fun L a w=>∃ φ,LitI C nt n d0 dm da dk K V st φ0 a0 w0 L φ a w) D.ord ?_ ?_ ?_
 ·
  intro L a w i o hL hI ho hi hall K' hK
  obtain⟨φ,S⟩:=hI
  have hilt:i<ops.size:=(Array.getElem?_eq_some_iff.1 ho).1
  rw [D.size] at hilt
  have hon:∀ j,(∃ e∈o.after,Region.binds .any e=true∧e.on=j)→L j=true:=by
   rintro j ⟨e,he,hb,rfl⟩;exact hall e he hb
  have hsplit:i=0∨(∃ j,j<n∧i=2*j+1)∨(∃ j,j<n∧i=2*j+2)∨i=2*n+1∨i=2*n+2:=by
   have:i=0∨((i - 1) / 2<n∧i=2*((i - 1) / 2)+1)∨((i - 2) / 2<n∧i=2*((i - 2) / 2)+2)∨i=2*n+1∨i=2*n+2:=by omega
   rcases this with h|h|h|h|h
   ·exact .inl h
   ·exact .inr (.inl ⟨_,h⟩)
   ·exact .inr (.inr (.inl ⟨_,h⟩))
   ·exact .inr (.inr (.inr (.inl h)))
   ·exact .inr (.inr (.inr (.inr h)))
  rcases hsplit with rfl|⟨j,hj,rfl⟩|⟨j,hj,rfl⟩|rfl|rfl
  ·
   obtain⟨o',ho',Ho,hd,hg⟩:=D.made
   rw [ho] at ho';cases ho'
   obtain⟨s1,s2,s3⟩:=S.none hi
   obtain⟨tT,et,hT,hTk⟩:=D.ti
   have hnew:newA C .leaf st.hp st.nx o=some (.map [] 0,.map st.nx):=by unfold newA;rw [Ho];simp only [hT]
   have hents:entsL n K V (more L 0)=[]:=by
    rw [entsL_odd (fun i _=>by omega)]
    unfold entsL
    rw [List.map_eq_nil_iff,List.filter_eq_nil_iff]
    intro i hi'
    have hin:=List.mem_range.1 hi'
    obtain⟨oi,x,q1,_,_,_,_,⟨e,q2,q3,q4⟩,_⟩:=D.ins i hin
    intro hl2
    have:=hL.down _ oi (by simpa using hl2) q1 e q2 q3
    rw [q4,hi] at this;cases this
   refine wpOpIn_of ho hg (wpIn_fw (fun c q=>by rw [Ho] at q;cases q) ?_)
   obtain⟨v',o',l,h1,h2,h3,h4,h5⟩:=newA_ok hC s1 S.glob (fun _ _ q=>by simp at q) s3 hnew
   rw [h1,Oper.uponIn_value]
   obtain⟨h6,h7⟩:=s1.new' (n0:=st.nx) s3 (Nat.le_refl _) (Nat.lt_succ_self _) (Nat.le_refl _) h2 h3 h4
   have hle:=le_upd' s3 l
   refine hK _ _ ⟨_,⟨S.glob.mono hle,(fun q=>by rw [more_same] at q;cases q),fun _=>?_,fun _=>?_,fun i hi' q=>?_,fun q=>?_,fun q=>?_,by rw [put_size];exact S.size,by rw [put_defers];exact S.defers⟩⟩
   ·rw [hents,set_get]
    exact⟨h6,s2.trans' h7 (by omega)⟩
   ·rw [hd];exact .same S.size D.d0lt h5
   ·rw [more_ne L (by omega)] at q
    exact((S.tk i hi' q).mono hle).other (by rw [hd];intro q;exact D.k0 i hi' (Option.some.inj q).symm) _
   ·rw [more_ne L (by omega)] at q
    exact((S.tm q).mono hle).other (by rw [hd];intro q;exact D.m0 (Option.some.inj q).symm) _
   ·rw [more_ne L (by omega)] at q
    exact((S.ta q).mono hle).other (by rw [hd];intro q;exact D.a0 (Option.some.inj q).symm) _
  ·
   obtain⟨o',ho',hg,hd,hv⟩:=D.bld j hj
   rw [ho] at ho';cases ho'
   have hents:entsL n K V (more L (2*j+1))=entsL n K V L:=entsL_odd fun i _=>by omega
   have h0:more L (2*j+1) 0=L 0:=more_ne L (by omega)
   have fin:∀ v',VRel φ (K j) v'→K' (a.put o.dst v') w:=by
    intro v' hv'
    refine hK _ _ ⟨φ,⟨S.glob,fun q=>?_,fun q=>?_,fun q=>?_,fun i hi' q=>?_,fun q=>?_,fun q=>?_,by rw [put_size];exact S.size,by rw [put_defers];exact S.defers⟩⟩
    ·rw [h0] at q;exact S.none q
    ·rw [h0] at q;rw [hents];exact S.some q
    ·rw [h0] at q;exact(S.t0 q).other (by rw [hd];intro e;exact D.k0 j hj (Option.some.inj e)) _
    ·by_cases e:i=j
     ·subst e;rw [hd];exact .same S.size (D.dklt i hi') hv'
     ·rw [more_ne L (by omega)] at q
      exact(S.tk i hi' q).other (by rw [hd];intro q;exact D.kk j i hj hi' (fun x=>e x.symm) (Option.some.inj q)) _
    ·rw [more_ne L (by omega)] at q
     exact(S.tm q).other (by rw [hd];intro q;exact D.km j hj (Option.some.inj q)) _
    ·rw [more_ne L (by omega)] at q
     exact(S.ta q).other (by rw [hd];intro q;exact D.ak j hj (Option.some.inj q)) _
   refine wpOpIn_of ho hg ?_
   cases hc:L 0 with
   | false =>
    obtain⟨s1,s2,s3⟩:=S.none hc
    obtain⟨v',h1,h2⟩:=valA_ok hC s1 S.glob (a:=a) (tm:=.leaf) (fun _ _ q=>by simp at q) (hv st.hp)
    refine wpIn_fw (fun c q=>by have:=hv st.hp;unfold valA at this;rw [q] at this;simp at this) ?_
    rw [h2,Oper.uponIn_value];exact fin v' h1
   | true =>
    obtain⟨s1,s2⟩:=S.some hc
    obtain⟨v',h1,h2⟩:=valA_ok hC s1 S.glob (a:=a) (tm:=.leaf) (fun _ _ q=>by simp at q) (hv _)
    refine wpIn_fw (fun c q=>by have:=hv st.hp;unfold valA at this;rw [q] at this;simp at this) ?_
    rw [h2,Oper.uponIn_value];exact fin v' h1
  ·
   obtain⟨o',x,ho',hg,hd,Ho,hx,he0,he1⟩:=D.ins j hj
   rw [ho] at ho';cases ho'
   have hL0:=hon 0 he0
   have hL1:=hon _ he1
   obtain⟨s1,s2⟩:=S.some hL0
   obtain⟨tT,et,hT,hTk⟩:=D.ti
   have hset:setK (K j) (V j) (entsL n K V L)=some (entsL n K V L++[(K j,V j)],true):=by
    refine setK_fresh fun e he=>?_
    unfold entsL at he
    obtain⟨i,hi',rfl⟩:=List.mem_map.1 he
    obtain⟨hi1,hi2⟩:=List.mem_filter.1 hi'
    have hne:j≠i:=fun q=>by subst q;rw [hi] at hi2;cases hi2
    exact D.keys j i hj (List.mem_range.1 hi1) hne
   have hchg:chgA C ((T.set .leaf d0 (.map st.nx)).set (dk j) (K j)) (st.hp.set st.nx (.map (entsL n K V L) (entsL n K V L).length)) (st.nx+1) o =
     some ⟨undefA,(st.hp.set st.nx (.map (entsL n K V L) (entsL n K V L).length)).set st.nx (.map (entsL n K V L++[(K j,V j)]) ((entsL n K V L).length+1)),st.nx+1⟩:=by
    unfold chgA
    rw [Ho]
    simp only
    unfold chgA.upd
    have e1:ev C ((T.set .leaf d0 (.map st.nx)).set (dk j) (K j)) (.tmp d0)=some (.map st.nx):=by
     show T.get _ d0=_
     rw [T.get_set,if_neg (D.k0 j hj),T.get_set,if_pos rfl]
    have e2:ev C ((T.set .leaf d0 (.map st.nx)).set (dk j) (K j)) (.tmp (dk j))=some (K j):=by
     show T.get _ (dk j)=_
     rw [T.get_set,if_pos rfl]
    simp only [hT,e1,e2,hx,hTk,D.htk,T.get_set_same,D.kok j hj,hset]
   obtain⟨φ',v',w',nn,h1,h2,h3,h4,h5⟩:=chgA_ok hC s1 S.glob ((S.t0 hL0).rel2 (S.tk j hj hL1)) hchg
   have hperm:=entsL_more (K:=K) (V:=V) hj hi
   have Hn:(entsL n K V (more L (2*j+2))).length=(entsL n K V L).length+1:=by rw [← hperm.length_eq];simp
   obtain⟨p1,p2⟩:=h4.mapPerm (id:=st.nx) (T.get_set_same _ _ _) hperm
   have hget:upd ((st.hp.set st.nx (.map (entsL n K V L) (entsL n K V L).length)).set st.nx (.map (entsL n K V L++[(K j,V j)]) ((entsL n K V L).length+1))).get st.nx (.map (entsL n K V (more L (2*j+2))) ((entsL n K V L).length+1)) =
     (st.hp.set st.nx (.map (entsL n K V (more L (2*j+2))) (entsL n K V (more L (2*j+2))).length)).get:=by
    funext i
    rw [Hn]
    by_cases e:st.nx=i
    ·subst e;rw [upd_same,T.get_set_same]
    ·rw [upd_ne _ _ e,T.get_set_ne _ _ e,T.get_set_ne _ _ e,T.get_set_ne _ _ e]
   rw [hget] at p1 p2
   have hle:=h5.le
   have fin:∀ x,K' (a.put o.dst x) w':=by
    intro x
    rw [hd]
    refine hK _ _ ⟨φ',⟨S.glob.mono hle,fun q=>?_,fun _=>⟨p1,s2.trans (h5.trans p2)⟩,fun _=>(S.t0 hL0).mono hle,fun i hi' q=>?_,fun q=>?_,fun q=>?_,S.size,S.defers⟩⟩
    ·rw [more_ne L (by omega),hL0] at q;cases q
    ·rw [more_ne L (by omega)] at q;exact(S.tk i hi' q).mono hle
    ·rw [more_ne L (by omega)] at q;exact(S.tm q).mono hle
    ·rw [more_ne L (by omega)] at q;exact(S.ta q).mono hle
   refine wpOpIn_of ho hg (wpIn_fw (fun c q=>by rw [Ho] at q;cases q) ?_)
   rw [h1]
   rcases h2 with rfl|⟨rfl,rfl⟩
   ·rw [Oper.uponIn_value];exact fin _
   ·rw [Oper.uponIn_skip];exact fin _
  ·
   obtain⟨o',ho',hg,Ho,hd,he⟩:=D.mv
   rw [ho] at ho';cases ho'
   have hL0:=hon 0 he
   obtain⟨s1,s2⟩:=S.some hL0
   have hval:valA C (T.set .leaf d0 (.map st.nx)) (st.hp.set st.nx (.map (entsL n K V L) (entsL n K V L).length)) o=some (.map st.nx):=by
    unfold valA;rw [Ho];show T.get _ d0=_;rw [T.get_set,if_pos rfl]
   obtain⟨v',h1,h2⟩:=valA_ok hC s1 S.glob ((S.t0 hL0).rel) hval
   refine wpOpIn_of ho hg (wpIn_fw (fun c q=>by rw [Ho] at q;cases q) ?_)
   rw [h2,Oper.uponIn_value]
   have hents:entsL n K V (more L (2*n+1))=entsL n K V L:=entsL_odd fun i _=>by omega
   refine hK _ _ ⟨φ,⟨S.glob,fun q=>?_,fun q=>?_,fun q=>?_,fun i hi' q=>?_,fun q=>?_,fun q=>?_,by rw [put_size];exact S.size,by rw [put_defers];exact S.defers⟩⟩
   ·rw [more_ne L (by omega),hL0] at q;cases q
   ·rw [hents];exact⟨s1,s2⟩
   ·exact(S.t0 hL0).other (by rw [hd];intro q;exact D.m0 (Option.some.inj q)) _
   ·rw [more_ne L (by omega)] at q
    exact(S.tk i hi' q).other (by rw [hd];intro q;exact D.km i hi' (Option.some.inj q).symm) _
   ·rw [hd];exact .same S.size D.dmlt h1
   ·rw [more_ne L (by omega)] at q
    exact(S.ta q).other (by rw [hd];intro q;exact D.am (Option.some.inj q).symm) _
  ·
   obtain⟨o',ho',hg,Ho,hd,he⟩:=D.asg
   rw [ho] at ho';cases ho'
   have hLm:=hon _ he
   have hents:entsL n K V (more L (2*n+2))=entsL n K V L:=entsL_odd fun i _=>by omega
   have h0:more L (2*n+2) 0=L 0:=more_ne L (by omega)
   have hval:∀ hp,valA C (T.set .leaf dm (.map st.nx)) hp o=some (.map st.nx):=fun hp=>by
    unfold valA;rw [Ho];show T.get _ dm=_;rw [T.get_set,if_pos rfl]
   have fin:∀ v',VRel φ (.map st.nx) v'→K' (a.put o.dst v') w:=by
    intro v' hv'
    refine hK _ _ ⟨φ,⟨S.glob,fun q=>?_,fun q=>?_,fun q=>?_,fun i hi' q=>?_,fun q=>?_,fun q=>?_,by rw [put_size];exact S.size,by rw [put_defers];exact S.defers⟩⟩
    ·rw [h0] at q;exact S.none q
    ·rw [h0] at q;rw [hents];exact S.some q
    ·rw [h0] at q;exact(S.t0 q).other (by rw [hd];intro q;exact D.a0 (Option.some.inj q)) _
    ·rw [more_ne L (by omega)] at q
     exact(S.tk i hi' q).other (by rw [hd];intro q;exact D.ak i hi' (Option.some.inj q).symm) _
    ·rw [more_ne L (by omega)] at q
     exact(S.tm q).other (by rw [hd];intro q;exact D.am (Option.some.inj q)) _
    ·rw [hd];exact .same S.size D.dalt hv'
   refine wpOpIn_of ho hg (wpIn_fw (fun c q=>by rw [Ho] at q;cases q) ?_)
   cases hc:L 0 with
   | false =>
    obtain⟨s1,s2,s3⟩:=S.none hc
    obtain⟨v',h1,h2⟩:=valA_ok hC s1 S.glob (S.tm hLm).rel (hval st.hp)
    rw [h2,Oper.uponIn_value];exact fin v' h1
   | true =>
    obtain⟨s1,s2⟩:=S.some hc
    obtain⟨v',h1,h2⟩:=valA_ok hC s1 S.glob (S.tm hLm).rel (hval _)
    rw [h2,Oper.uponIn_value];exact fin v' h1
 ·
  rintro L a w ⟨φ,S⟩ hall
  rw [D.size] at hall
  obtain⟨s1,s2⟩:=S.some (hall 0 (by omega))
  have hents:entsL n K V L=(List.range n).map fun i=>(K i,V i):=by
   unfold entsL
   congr 1
   rw [List.filter_eq_self]
   intro i hi
   exact hall _ (by have:=List.mem_range.1 hi;omega)
  rw [hents] at s1 s2
  simp only [List.length_map,List.length_range] at s1 s2
  exact hQ φ a w ⟨s1,hl.glob.step s2,(S.ta (hall _ (by omega))).rel,S.size,by rw [S.defers];exact hl.defers.mono s2.le⟩ s2
 ·refine⟨φ0,⟨hl.glob.gl,fun _=>⟨(hl.rel.drew _).less (fun _ _ h=>h) (by omega),?_,(hl.rel.fresh (Nat.le_refl _)).1⟩,(fun q=>by cases q),(fun q=>by cases q),(fun _ _ q=>by cases q),(fun q=>by cases q),(fun q=>by cases q),hl.size,rfl⟩⟩
  exact(Step.drew φ0 st.hp.get st.nx w0 (w0.drawn+1)).less (fun _ _ h=>h) (by omega)
end
end Ev
