/- Regions in any order with one line of operations that change, and others that only look. -/
import Derived.Test.YtaacpiniakmpbaaGreatDoorI
namespace Ev
open Go
set_option linter.unusedSimpArgs false
set_option linter.unusedVariables false
section
variable {P:Program} {C:Ctx} {F:From} {nt:Nat}
def OpS (P:Program) (C:Ctx) (o:Oper) (tm:T AV) (hp:T Obj) (nx:Nat) (B:Base) (K:Base→AV→T Obj→Nat→Prop) (N:AV→T Obj→Nat→Prop):Prop :=
 ∀ (φ:Phi) (w:World) (a:Act),Rel φ hp.get nx w→BOk (C.at B) φ hp.get w→TRel φ tm a.tmps→∀ (n:Nat) (next:Act→World→Prop) (R:Exit→Act→World→Prop),
  (∀ B2 v hp2 nx2 φ' v' w',K B2 v hp2 nx2→VRel φ' v v'→Rel φ' (T.get hp2) nx2 w'→BOk (C.at B2) φ' (T.get hp2) w'→Step φ hp.get nx w φ' (T.get hp2) nx2 w'→Grows w.heap.size B B2→next (a.put o.dst v') w') →
  (∀ v hp2 nx2 φ' v' w',N v hp2 nx2→VRel φ' v v'→Rel φ' (T.get hp2) nx2 w'→Step φ hp.get nx w φ' (T.get hp2) nx2 w'→R (.panic [{ v:=v',recovered:=false }]) a w')→o.wpIn (Fw none) n P a w next R
theorem OpS.op {o:Oper} {tm:T AV} {hp hp2:T Obj} {nx nx2:Nat} {B:Base} {v:AV} {K:Base→AV→T Obj→Nat→Prop} {N:AV→T Obj→Nat→Prop} (h:OpOK P (C.at B) o tm hp.get nx v hp2.get nx2) (hK:K B v hp2 nx2):OpS P C o tm hp nx B K N :=
 fun φ w a hr hg ht n next R hn _=>h φ w a hr hg ht none n next R fun φ' v' w' h1 h2 h3=>hn B v hp2 nx2 φ' v' w' hK h1 h2 (hg.step h3) h3 (.refl _ _)
theorem OpS.opR {o:Oper} {st:St} {B:Base} {K:Base→AV→T Obj→Nat→Prop} {N:AV→T Obj→Nat→Prop} (h:OpR P (C.at B) o st fun v hp nx=>K B v hp nx):OpS P C o st.tm st.hp st.nx B K N :=
 let ⟨_,_,_,h1,h2⟩:=h;.op h1 h2
theorem OpS.call {o:Oper} {c:Call} {x:Operand} {f:FuncId} {first cap args:List AV} {tm:T AV} {hp:T Obj} {nx:Nat} {B:Base} {K:Base→AV→T Obj→Nat→Prop} {N:AV→T Obj→Nat→Prop} (ho:o.op=.call c) (hc:c.callee=.value x)
  (hx:ev (C.at B) tm x=some (.fn (.func f) first cap)) (hargs:evs (C.at B) tm c.args.toList=some args) (h:CallZ P C B f (first++args++cap) hp nx K N):OpS P C o tm hp nx B K N:=by
 intro φ w a hr hg ht n next R hn hpn
 have hb:=ev_rel hg.gl ht hx
 have hl:=evs_rel hg.gl ht hargs
 refine wpIn_fw (fun c hc=>by rw [ho] at hc;cases hc) ?_
 generalize hq:a.eval x=q at hb
 cases hb with
 | @fn _ _ _ x' y' hx' hy' =>
  have hrun:(execOp a.eval o).run P w=.ok (.enter f (x'++c.args.map a.eval++y')) w:=by
   simp only [execOp,ho,Sem.run_bind,resolve,hc,Deferred.ofValue,hq,Sem.run_pure,Result.andThen_ok,invoke]
   exact h.1 _ _
  rw [hrun,Oper.uponIn_enter]
  refine⟨fun q=>by simp [Fw,Fence.wide] at q,callsIn_fw ((h.2 φ w (x'++c.args.map a.eval++y') hr hg ?_).mono ?_)⟩
  ·simp only [Array.toList_append,Array.toList_map]
   exact(hx'.append hl).append hy'
  ·rintro e w' ⟨φ',v,v',H',nx',h1,h2,h3,h4⟩
   rcases h4 with⟨rfl,B',⟨hp',rfl,hK⟩,hB,hG⟩|⟨rfl,hp',rfl,hN⟩
   ·exact hn B' v hp' nx' φ' v' w' hK h1 h2 hB h3 hG
   ·exact hpn v hp' nx' φ' v' w' hN h1 h2 h3
theorem On.drew {st:St} {B:Base} {φ:Phi} {a:Act} {w:World} (ho:On F C nt st B φ a w):On F C nt st B φ a { w with drawn:=w.drawn+1 } :=
 ho.next ⟨ho.lies.rel.drew _,ho.lies.glob.step (Step.drew φ st.hp.get st.nx w _),ho.lies.tmps,ho.lies.size,ho.lies.defers⟩ (Step.drew φ st.hp.get st.nx w _)
structure DrawQ (P:Program) (C:Ctx) (F:From) (nt:Nat) (ops:Array Oper) (st:St) (B:Base) (N:AV→St→Prop) (m:Nat) (c:Nat→Nat) (Good:Nat→St→Base→Prop) (qv:Nat→AV) (lo hi:Nat→Nat) (isq:Nat→Bool) (tq:Nat→St→T AV):Prop where
 ord:∀ (i:Nat) (o:Oper),ops[i]?=some o→∀ e∈o.after,Region.binds .any e=true→e.on<i
 dst:∀ (i:Nat) (o:Oper),ops[i]?=some o→dstOk nt o.dst
 gd:∀ (i:Nat) (o:Oper),ops[i]?=some o→o.guard=none
 uniq:∀ (i j:Nat) (oi oj:Oper) (t:Tmp),ops[i]?=some oi→ops[j]?=some oj→oi.dst=some t→oj.dst=some t→i=j
 line:∀ k,k+1<m→∀ o,ops[c (k+1)]?=some o→∃ e∈o.after,Region.binds .any e=true∧e.on=c k
 cls:∀ (i:Nat) (o:Oper),ops[i]?=some o→(isq i=true∧∀ k,k<m→c k≠i)∨(isq i=false∧∃ k,k<m∧c k=i)
 clt:∀ k,k<m→c k<ops.size
 hlo:∀ (i:Nat) (o:Oper),ops[i]?=some o→isq i=true→lo i=0∨(lo i≤m∧∃ e∈o.after,Region.binds .any e=true∧e.on=c (lo i - 1))
 hhi:∀ (i:Nat) (o:Oper),ops[i]?=some o→isq i=true→hi i<m→∀ L,Down ops L→L (c (hi i))=true→L i=true
 g0:Good 0 st B
 gtm:∀ k s B',Good k s B'→∀ (i:Nat) (o:Oper) (t:Tmp),ops[i]?=some o→isq i=true→o.dst=some t→s.tm.get t=none
 tqok:∀ k s B',Good k s B'→∀ (i:Nat) (o:Oper) (t:Tmp) (v:AV),ops[i]?=some o→(tq i s).get t=some v→s.tm.get t=some v∨∃ e∈o.after,Region.binds .any e=true∧isq e.on=true∧∃ oj,ops[e.on]?=some oj∧oj.dst=some t∧v=qv e.on
 quiet:∀ (i:Nat) (o:Oper),ops[i]?=some o→isq i=true→∀ k s B',lo i≤k→k≤hi i→Good k s B'→OpOK P (C.at B') o (tq i s) s.hp.get s.nx (qv i) s.hp.get s.nx
 step:∀ k s B',k<m→Good k s B'→∀ o,ops[c k]?=some o→OpS P C o (tq (c k) s) s.hp s.nx B' (fun B2 v hp nx=>Good (k+1) ⟨putT s.tm o.dst v,hp,nx,s.df⟩ B2) (fun v hp nx=>N v ⟨s.tm,hp,nx,s.df⟩)
theorem CodeF.drawQ (hm:P.follows .mixedOrders=true) {id:Nat} {ops:Array Oper} {st:St} {B:Base} {Q:Ex→St→Base→Prop} {N:AV→St→Prop} {m:Nat} {c:Nat→Nat} {Good:Nat→St→Base→Prop} {qv:Nat→AV} {lo hi:Nat→Nat} {isq:Nat→Bool} {tq:Nat→St→T AV}
  (D:DrawQ P C F nt ops st B N m c Good qv lo hi isq tq) (fin:∀ s B',Good m s B'→Q .normal s B'):CodeF P C F nt (.region id ops true) st B Q N:=by
 intro φ0 a0 w0 ho0 n R hR hN
 refine region_any hm (fun L a w=>∃ k s B' φ,k≤m∧(∀ j,j<m→(L (c j)=true↔j<k))∧Good k s B'∧On F C nt s B' φ a w∧∀ (i:Nat) (o:Oper) (t:Tmp),ops[i]?=some o→isq i=true→L i=true→o.dst=some t→∃ v',a.tmps[t]?=some v'∧VRel φ (qv i) v') D.ord ?_ ?_ ?_
 ·rintro L a w i o hL ⟨k,s,B',φ,hk,hch,hG,hon,hcur⟩ hoi hi0 hall K hK
  have htm:TRel φ (tq i s) a.tmps:=by
   intro t v hv
   rcases D.tqok k s B' hG i o t v hoi hv with h|⟨e,he,hb,hq,oj,hoj,hd,rfl⟩
   ·exact hon.lies.tmps t v h
   ·exact hcur e.on oj t hoj hq (hall e he hb) hd
  refine wpOpIn_of hoi (D.gd i o hoi) ?_
  rcases D.cls i o hoi with⟨hq,hne⟩|⟨hq,k',hk',rfl⟩
  ·have h1:lo i≤k:=by
    rcases D.hlo i o hoi hq with h|⟨h0,e,he,hb,hc⟩
    ·omega
    ·rcases Nat.eq_zero_or_pos (lo i) with q|q
     ·omega
     ·have:=hall e he hb
      rw [hc] at this
      have:=(hch (lo i - 1) (by omega)).1 this
      omega
   have h2:k≤hi i:=by
    rcases Nat.lt_or_ge (hi i) k with q|q
    ·exfalso
     have h3:hi i<m:=by omega
     have:=D.hhi i o hoi hq h3 L hL ((hch (hi i) h3).2 q)
     rw [hi0] at this;cases this
    ·exact q
   refine D.quiet i o hoi hq k s B' h1 h2 hG φ w a hon.lies.rel hon.lies.glob htm none n _ _ fun φ' v' w' g1 g2 g3=>hK _ _ ⟨k,s,B',φ',hk,fun j hj=>?_,hG,?_,fun i2 o2 t ho2 hq2 hL2 hd2=>?_⟩
   ·rw [more_ne L (hne j hj)];exact hch j hj
   ·refine hon.next ⟨g2,hon.lies.glob.step g3,fun t v hv=>?_,by rw [put_size];exact hon.lies.size,by rw [put_defers];exact hon.lies.defers.mono g3.le⟩ g3
    obtain⟨u,q1,q2⟩:=hon.lies.tmps t v hv
    refine⟨u,?_,q2.mono g3.le⟩
    rw [put_get_ne (fun hd=>by rw [D.gtm k s B' hG i o t hoi hq hd] at hv;cases hv)]
    exact q1
   ·by_cases e:i2=i
    ·subst e
     rw [hoi] at ho2;cases ho2
     rw [hd2]
     exact⟨v',put_get_self hon.lies.size (hd2▸D.dst i2 o hoi) v',g1⟩
    ·rw [more_ne L e] at hL2
     obtain⟨u,q1,q2⟩:=hcur i2 o2 t ho2 hq2 hL2 hd2
     exact⟨u,by rw [put_get_ne (fun q=>e (D.uniq i2 i o2 o t ho2 hoi hd2 q))];exact q1,q2.mono g3.le⟩
  ·have h1:k'=k:=by
    have h2:¬ k'<k:=fun q=>by have:=(hch k' hk').2 q;rw [hi0] at this;cases this
    rcases Nat.eq_zero_or_pos k' with q|q
    ·omega
    ·obtain⟨e,he,hb,hc⟩:=D.line (k' - 1) (by omega) o (by rw [show k' - 1+1=k' by omega];exact hoi)
     have:=hall e he hb
     rw [hc] at this
     have:=(hch (k' - 1) (by omega)).1 this
     omega
   subst h1
   refine D.step k' s B' hk' hG o hoi φ w a hon.lies.rel hon.lies.glob htm n _ _ ?_ ?_
   ·intro B2 v hp2 nx2 φ' v' w' g0 g1 g2 g3 g4 g5
    refine hK _ _ ⟨k'+1,_,B2,φ',hk',fun j hj=>?_,g0,⟨⟨g2,g3,(hon.lies.tmps.mono g4.le).put hon.lies.size (D.dst _ o hoi) g1,by rw [put_size];exact hon.lies.size,by rw [put_defers];exact hon.lies.defers.mono g4.le⟩,hon.step.trans g4,hon.grow.trans g5 hon.step.keeps.size⟩,fun i2 o2 t ho2 hq2 hL2 hd2=>?_⟩
    ·by_cases e:c j=c k'
     ·have:j=k':=by
       rcases Nat.lt_trichotomy j k' with q|q|q
       ·have:=(hch j hj).2 q;rw [e,hi0] at this;cases this
       ·exact q
       ·exfalso
        have h5:∀ d,k'+d<m→L (c (k'+d))=false:=by
         intro d hd
         cases h6:L (c (k'+d)) with
         | false=>rfl
         | true=>have:=(hch _ hd).1 h6;omega
        have h7:∀ d,0<d→k'+d<m→c k'<c (k'+d):=by
         intro d
         induction d with
         | zero=>intro h;omega
         | succ d ih =>
          intro _ hd
          have hsz:=D.clt (k'+(d+1)) hd
          obtain⟨e2,he2,hb2,hc2⟩:=D.line (k'+d) (by omega) ops[c (k'+d+1)] (Array.getElem?_eq_getElem hsz)
          have:=D.ord _ _ (Array.getElem?_eq_getElem hsz) e2 he2 hb2
          rw [hc2] at this
          rcases Nat.eq_zero_or_pos d with q2|q2
          ·subst q2;exact this
          ·exact Nat.lt_trans (ih q2 (by omega)) this
        have:=h7 (j - k') (by omega) (by omega)
        rw [show k'+(j - k')=j by omega,e] at this
        omega
      subst this
      simp [more]
     ·rw [more_ne L e,hch j hj]
      constructor
      ·intro q;omega
      ·intro q
       rcases Nat.lt_or_ge j k' with q2|q2
       ·exact q2
       ·exact(e (by rw [show j=k' by omega])).elim
    ·have e:i2≠c k':=fun e=>by subst e;rw [hq] at hq2;cases hq2
     rw [more_ne L e] at hL2
     obtain⟨u,q1,q2⟩:=hcur i2 o2 t ho2 hq2 hL2 hd2
     exact⟨u,by rw [put_get_ne (fun q=>e (D.uniq i2 _ o2 o t ho2 hoi hd2 q))];exact q1,q2.mono g4.le⟩
   ·intro v hp2 nx2 φ' v' w' g0 g1 g2 g4
    exact hN v v' _ φ' a w' g0 g1 ⟨g2,hon.step.trans g4,hon.lies.defers.mono g4.le,hon.lies.tmps.mono g4.le⟩
 ·rintro L a w ⟨k,s,B',φ,hk,hch,hG,hon,_⟩ hall
  have:k=m:=by
   rcases Nat.lt_or_ge k m with q|q
   ·have h1:=hall (c k) (D.clt k q)
    have:=(hch k q).1 h1
    omega
   ·omega
  subst this
  exact hR .normal s B' φ a w (fin s B' hG) hon
 ·exact⟨0,st,B,φ0,Nat.zero_le _,fun j hj=>⟨(fun h=>by cases h),fun h=>by omega⟩,D.g0,ho0.drew,fun i o t _ _ h=>by cases h⟩
end
inductive QSp where
 | ln (k:Nat)
 | qt (lo hi:Nat) (path:List Nat)
def QSp.q:Option QSp→Bool
 | some (.qt ..)=>true
 | _=>false
def QSp.lo:Option QSp→Nat
 | some (.qt a _ _)=>a
 | _=>0
def QSp.hi:Option QSp→Nat
 | some (.qt _ a _)=>a
 | _=>0
def edgeB (ops:Array Oper) (i j:Nat):Bool:=match ops[i]? with
 | some o=>o.after.toList.any fun e=>Region.binds .any e&&Nat.beq e.on j
 | none=>false
def pathB (ops:Array Oper):List Nat→Bool
 | []=>true
 | [_]=>true
 | i::j::l=>edgeB ops j i&&pathB ops (j::l)
def allB (f:Nat→Bool):Nat→Bool
 | 0=>true
 | n+1=>f n&&allB f n
theorem allB_ok {f:Nat→Bool}:∀ {n i:Nat},allB f n=true→i<n→f i=true
 | 0,_,_,h=>by omega
 | n+1,i,h,hi=>by
  simp only [allB,Bool.and_eq_true] at h
  by_cases e:i=n
  ·subst e;exact h.1
  ·exact allB_ok h.2 (by omega)
def opB (ops:Array Oper) (nt m:Nat) (cl:List Nat) (sp:List QSp) (i:Nat):Bool:=match ops[i]? with
 | none=>false
 | some o=>o.after.toList.all (fun e=>!Region.binds .any e||Nat.blt e.on i)&&(match o.dst with|some t=>Nat.blt t nt|none=>true)&&o.guard.isNone &&
  allB (fun j=>match ops[j]? with|some p=>(match o.dst,p.dst with|some a,some b=>!Nat.beq a b||Nat.beq i j|_,_=>true)|none=>true) ops.size &&
  (match sp[i]? with
   | some (.ln k)=>Nat.blt k m&&Nat.beq (cl.getD k 0) i
   | some (.qt lo hi path)=>allB (fun k=>!Nat.beq (cl.getD k 0) i) m&&(Nat.beq lo 0||(Nat.ble lo m&&edgeB ops i (cl.getD (lo - 1) 0))) &&
     (!Nat.blt hi m||(pathB ops path&&Nat.beq (path.headD 0) i&&Nat.beq (path.getLastD 0) (cl.getD hi 0)&&Nat.ble 1 path.length))
   | none=>false)
def drawB (ops:Array Oper) (nt m:Nat) (cl:List Nat) (sp:List QSp):Bool :=
 allB (opB ops nt m cl sp) ops.size&&allB (fun k=>Nat.blt (cl.getD k 0) ops.size) m&&allB (fun k=>!Nat.blt (k+1) m||edgeB ops (cl.getD (k+1) 0) (cl.getD k 0)) m
theorem edge_ok {ops:Array Oper} {i j:Nat} (h:edgeB ops i j=true):∃ o,ops[i]?=some o∧∃ e∈o.after,Region.binds .any e=true∧e.on=j:=by
 unfold edgeB at h
 split at h
 ·next o ho =>
  rw [List.any_eq_true] at h
  obtain⟨e,he,hb⟩:=h
  rw [Bool.and_eq_true] at hb
  exact⟨o,ho,e,by simpa using he,hb.1,Nat.eq_of_beq_eq_true hb.2⟩
 ·simp at h
theorem path_ok {ops:Array Oper} {L:Nat→Bool} (hL:Down ops L):∀ {l:List Nat},pathB ops l=true→1≤l.length→L (l.getLastD 0)=true→L (l.headD 0)=true
 | [],_,h,_=>by simp at h
 | [i],_,_,h=>h
 | i::j::l,h,_,hl=>by
  simp only [pathB,Bool.and_eq_true] at h
  obtain⟨o,ho,e,he,hb,hon⟩:=edge_ok h.1
  have:=path_ok hL (l:=j::l) h.2 (by simp) (by simpa using hl)
  have:=hL.down j o this ho e he hb
  rw [hon] at this
  exact this
section
variable {P:Program} {C:Ctx} {F:From} {nt:Nat}
theorem DrawQ.mk' {ops:Array Oper} {st:St} {B:Base} {N:AV→St→Prop} {m:Nat} {cl:List Nat} {sp:List QSp} {Good:Nat→St→Base→Prop} {qv:Nat→AV} {tq:Nat→St→T AV} (h:drawB ops nt m cl sp=true)
  (g0:Good 0 st B)
  (gtm:∀ k s B',Good k s B'→∀ (i:Nat) (o:Oper) (t:Tmp),ops[i]?=some o→QSp.q sp[i]?=true→o.dst=some t→s.tm.get t=none)
  (tqok:∀ k s B',Good k s B'→∀ (i:Nat) (o:Oper) (t:Tmp) (v:AV),ops[i]?=some o→(tq i s).get t=some v→s.tm.get t=some v∨∃ e∈o.after,Region.binds .any e=true∧QSp.q sp[e.on]?=true∧∃ oj,ops[e.on]?=some oj∧oj.dst=some t∧v=qv e.on)
  (quiet:∀ (i:Nat) (o:Oper),ops[i]?=some o→QSp.q sp[i]?=true→∀ k s B',QSp.lo sp[i]?≤k→k≤QSp.hi sp[i]?→Good k s B'→OpOK P (C.at B') o (tq i s) s.hp.get s.nx (qv i) s.hp.get s.nx)
  (step:∀ k s B',k<m→Good k s B'→∀ o,ops[cl.getD k 0]?=some o→OpS P C o (tq (cl.getD k 0) s) s.hp s.nx B' (fun B2 v hp nx=>Good (k+1) ⟨putT s.tm o.dst v,hp,nx,s.df⟩ B2) (fun v hp nx=>N v ⟨s.tm,hp,nx,s.df⟩)) :
  DrawQ P C F nt ops st B N m (fun k=>cl.getD k 0) Good qv (fun i=>QSp.lo sp[i]?) (fun i=>QSp.hi sp[i]?) (fun i=>QSp.q sp[i]?) tq:=by
 simp only [drawB,Bool.and_eq_true] at h
 have Ho:∀ (i:Nat) (o:Oper),ops[i]?=some o→opB ops nt m cl sp i=true:=fun i o ho=>allB_ok h.1.1 (Array.getElem?_eq_some_iff.1 ho).1
 refine⟨fun i o ho e he hb=>?_,fun i o ho t ht=>?_,fun i o ho=>?_,fun i j oi oj t hi hj hdi hdj=>?_,fun k hk o ho=>?_,fun i o ho=>?_,fun k hk=>blt_lt (allB_ok (f:=fun k=>(cl.getD k 0).blt ops.size) h.1.2 hk),fun i o ho hq=>?_,fun i o ho hq hm L hL hc=>?_,g0,gtm,tqok,quiet,step⟩
 ·have:=Ho i o ho
  simp only [opB,ho,Bool.and_eq_true] at this
  have:=List.all_eq_true.1 this.1.1.1.1 e (by simpa using he)
  rw [hb] at this
  exact blt_lt (by simpa using this)
 ·have:=Ho i o ho
  simp only [opB,ho,Bool.and_eq_true,ht] at this
  exact blt_lt this.1.1.1.2
 ·have:=Ho i o ho
  simp only [opB,ho,Bool.and_eq_true] at this
  simpa using this.1.1.2
 ·have:=Ho i oi hi
  simp only [opB,hi,Bool.and_eq_true] at this
  have:=allB_ok this.1.2 (Array.getElem?_eq_some_iff.1 hj).1
  simp only [hj,hdi,hdj] at this
  have hb:Nat.beq t t=true:=Nat.beq_refl t
  rw [hb] at this
  exact Nat.eq_of_beq_eq_true (by simpa using this)
 ·have:=allB_ok h.2 (i:=k) (by omega)
  have h2:Nat.blt (k+1) m=true:=by rw [Nat.blt_eq];exact hk
  rw [h2] at this
  have this:edgeB ops (cl.getD (k+1) 0) (cl.getD k 0)=true:=this
  obtain⟨o',ho',e,he,hb,hon⟩:=edge_ok this
  rw [ho] at ho';cases ho'
  exact⟨e,he,hb,hon⟩
 ·have:=Ho i o ho
  simp only [opB,ho,Bool.and_eq_true] at this
  have:=this.2
  split at this
  ·next k hs =>
   rw [Bool.and_eq_true] at this
   exact .inr ⟨by simp [hs,QSp.q],k,blt_lt this.1,Nat.eq_of_beq_eq_true this.2⟩
  ·next a b p hs =>
   simp only [Bool.and_eq_true] at this
   refine .inl ⟨by simp [hs,QSp.q],fun k hk e=>?_⟩
   have:=allB_ok this.1.1 hk
   rw [e] at this
   have hb:Nat.beq i i=true:=Nat.beq_refl i
   rw [hb] at this
   simp at this
  ·simp at this
 ·have:=Ho i o ho
  simp only [opB,ho,Bool.and_eq_true] at this
  have:=this.2
  split at this
  ·next k hs=>simp [hs,QSp.q] at hq
  ·next a b p hs =>
   simp only [Bool.and_eq_true] at this
   simp only [hs,QSp.lo]
   have:=this.1.2
   rw [Bool.or_eq_true] at this
   rcases this with q|q
   ·exact .inl (Nat.eq_of_beq_eq_true q)
   ·rw [Bool.and_eq_true] at q
    obtain⟨o',ho',e,he,hb,hon⟩:=edge_ok q.2
    rw [ho] at ho';cases ho'
    exact .inr ⟨Nat.le_of_ble_eq_true q.1,e,he,hb,hon⟩
  ·simp at this
 ·have:=Ho i o ho
  simp only [opB,ho,Bool.and_eq_true] at this
  have:=this.2
  split at this
  ·next k hs=>simp [hs,QSp.q] at hq
  ·next a b p hs =>
   simp only [Bool.and_eq_true] at this
   simp only [hs,QSp.hi] at hm hc
   have:=this.2
   have h2:Nat.blt b m=true:=by rw [Nat.blt_eq];exact hm
   rw [h2] at this
   simp only [Bool.not_true,Bool.false_or,Bool.and_eq_true] at this
   obtain⟨⟨⟨h3,h4⟩,h5⟩,h6⟩:=this
   have h4:=Nat.eq_of_beq_eq_true h4
   have h5:=Nat.eq_of_beq_eq_true h5
   rw [← h5] at hc
   have:=path_ok hL h3 (Nat.le_of_ble_eq_true h6) hc
   rw [h4] at this
   exact this
  ·simp at this
end
section
variable {P:Program} {C:Ctx} {nt:Nat}
theorem run_eqGuard_some (w:World) (op:BinOp) (t:TypeId) (x y:Operand) (e:TypeId) (v:Value):(eqGuard op t x y (.iface e v) .nilIface).run P w=.ok () w:=by
 unfold eqGuard;cases op<;>simp
theorem run_equalIn_some (w:World) {n:Nat} {t:TypeId} {ms:Array (String×TypeId)} (h:P.underlying t=some (.interface ms)) (e:TypeId) (v:Value):(Op.equalIn (n+1) t (.iface e v) .nilIface).run P w=.ok false w:=by
 unfold Op.equalIn;simp only [Sem.run_bind,run_underlying h,Result.andThen_ok];rfl
theorem neq_nif (hC:CtxOk P C) {o:Oper} {tm:T AV} {t e:Nat} {x:Operand} {c:Value} {q:TypeId} {ti:TI} {u:AV} {K:AV→Prop} (ho:o.op=.binOp .neq t x (.const c) q) (ht:C.tt.get t=some ti) (hk:ti.k=.ifc) (hx:ev C tm x=some (.iface e u)) (hc:ev C tm (.const c)=some .nif) (hK:K (.bool true)):PureR P C o tm K:=by
 refine⟨.bool true,fun H nx=>.pure (fun c q=>by rw [ho] at q;cases q) fun φ w a hr hg htm=>?_,hK⟩
 have e1:=ev_rel hg.gl htm hx
 have e2:=ev_rel hg.gl htm hc
 generalize hq1:a.eval x=q1 at e1
 generalize hq2:a.eval (.const c)=q2 at e2
 cases e1
 cases e2
 obtain⟨d,hd,hk'⟩:=(hC t ti ht).und
 obtain⟨ms,rfl⟩:∃ ms,d=.interface ms:=by
  rw [hk] at hk'
  cases d<;>simp [TK.of] at hk'<;>exact⟨_,rfl⟩
 refine⟨_,.bool _,?_⟩
 simp only [execOp,ho,Sem.run_bind,hq1,hq2,run_eqGuard_some,Result.andThen_ok,binOp,Op.equal,Op.maxDepth,run_equalIn_some w hd,Sem.run_pure]
 rfl
theorem recovers2 {id:Nat} {o p:Oper} {c:Call} {x:Operand} {v u:AV} {st:St} (ho:o.op=.call c) (hc:c.callee=.builtin .recover) (hg:o.guard=none) (hd:dstOk nt o.dst)
  (hp:p.op=.assign x) (hpg:p.guard=none) (hpd:dstOk nt p.dst) (hx:ev C (putT st.tm o.dst u) x=some v) {φ:Phi} {a:Act} {w:World} (hl:Lies C nt φ st a w) {u':Value} (hu:VRel φ u u') {n:Nat} {c₀:Frame} {cs:List Frame}
  (hm:c₀.mode=.panicking [{ v:=u',recovered:=false }]) {Q:Exit→Act→List Frame→World→Prop}
  (hQ:∀ a',Lies C nt φ { st with tm:=putT (putT st.tm o.dst u) p.dst v } a' w→Q .normal a' ({ c₀ with mode:=.panicking [{ v:=u',recovered:=true }] }::cs) w) :
  (Code.region id #[o,p] false).wpSIn (Fw none) n P Q a (c₀::cs) w:=by
 refine wpSIn_region ?_
 show wpOpsSIn (Fw none) n P #[o,p] Q [0,1] a (c₀::cs) w
 have hrec:recoverD (c₀::cs)=some (u',{ c₀ with mode:=.panicking [{ v:=u',recovered:=true }] }::cs):=by simp [recoverD,hm]
 have hrun:(execOp a.eval o).run P w=.ok .recover w:=by
  simp only [execOp,ho,Sem.run_bind,resolve,hc,Sem.run_pure,Result.andThen_ok,invoke]
  rfl
 have hw:Region.wanted o (yielded #[o,p] a.tmps)=true:=by simp [Region.wanted,hg]
 have hw2:∀ a':Act,Region.wanted p (yielded #[o,p] a'.tmps)=true:=fun a'=>by simp [Region.wanted,hpg]
 have h0:(#[o,p]:Array Oper)[0]?=some o:=rfl
 have h1:(#[o,p]:Array Oper)[1]?=some p:=rfl
 have hl1:Lies C nt φ { st with tm:=putT st.tm o.dst u } (a.put o.dst u') w:=⟨hl.rel,hl.glob,hl.tmps.put hl.size hd hu,by rw [put_size];exact hl.size,by rw [put_defers];exact hl.defers⟩
 have hrun2:(execOp (a.put o.dst u').eval p).run P w=.ok (.value ((a.put o.dst u').eval x)) w:=by
  simp only [execOp,hp];rfl
 simp only [wpOpsSIn,h0,hw,if_true,hrun,hrec]
 refine⟨fun _ _=>trivial,?_⟩
 simp only [h1,hw2,if_true,hrun2]
 refine⟨fun _ _=>trivial,?_⟩
 have hv:=ev_rel hl1.glob.gl hl1.tmps hx
 exact hQ _ ⟨hl.rel,hl.glob,hl1.tmps.put hl1.size hpd hv,by rw [put_size];exact hl1.size,by rw [put_defers];exact hl1.defers⟩
def RCallOK (P:Program) (C:Ctx) (f:FuncId) (args:List AV) (u:AV) (H:Hp) (nx:Nat) (H':Hp) (nx':Nat):Prop :=
 ∀ (φ:Phi) (w:World) (args':Array Value) (u':Value),Rel φ H nx w→BOk C φ H w→VRels φ args args'.toList→VRel φ u u'→∀ n,
  CallsDIn (Fw none) n P f args' (.panicking [{ v:=u',recovered:=false }]) w fun e m w'=>m=.panicking [{ v:=u',recovered:=true }]∧∃ v φ',e=.returned v∧Rel φ' H' nx' w'∧Step φ H nx w φ' H' nx' w'
theorem RCallOK.body {f:FuncId} {fn:Func} {id:Nat} {o p:Oper} {rest:Code} (hf:P.funcs[f]?=some fn) (hb:fn.body=some (.seq (.region id #[o,p] false) rest)) {args:List AV} {H:T Obj} {nx:Nat} {c:Call} {x:Operand} {v u:AV}
  (ho:o.op=.call c) (hc:c.callee=.builtin .recover) (hg:o.guard=none) (hd:dstOk (maxA args.length fn.ntmps) o.dst) (hp:p.op=.assign x) (hpg:p.guard=none) (hpd:dstOk (maxA args.length fn.ntmps) p.dst) (hx:ev C (putT (argA args 0 .leaf) o.dst u) x=some v) (hC:CtxOk P C) {K:T Obj→Nat→Prop}
  (h:∀ Q:Ex→St→Prop,(∀ e s,exEnd e=true→s.df=[]→(∃ vs,resA C s fn.results.toList=some vs)→K s.hp s.nx→Q e s)→CodeP P C (maxA args.length fn.ntmps) none rest ⟨putT (putT (argA args 0 .leaf) o.dst u) p.dst v,H,nx,[]⟩ Q):∃ hp2 nx2,RCallOK P C f args u H.get nx (T.get hp2) nx2∧K hp2 nx2:=by
 obtain⟨e,s,h1,h2,h3,⟨vs,h4⟩,h5⟩:=h (fun e s=>exEnd e=true∧s.df=[]∧(∃ vs,resA C s fn.results.toList=some vs)∧K s.hp s.nx) fun e s a b c d=>⟨a,b,c,d⟩
 refine⟨s.hp,s.nx,?_,h5⟩
 intro φ w args' u' hrel hbo ha hu n
 refine callsDIn_of_wpSIn hf hb trivial fun c₀ cs hm=>?_
 refine wpSIn_seq (recovers2 ho hc hg hd hp hpg hpd hx (frame0 hrel hbo ha fn.ntmps) hu hm fun a1 hl1=>?_)
 refine wpSIn_of_wpIn rfl (h1 φ a1 w hl1 none n rfl _ fun φ' a' w' hl' hs=>?_)
 obtain⟨v',g1,g2⟩:=results_ok hC hl' h4
 have hdf:a'.defers=[]:=by
  have:=hl'.defers
  rw [h3] at this
  generalize a'.defers=q at this
  cases this;rfl
 rcases exEnd_ok h2 with rfl|rfl<;>exact⟨hdf,_,rfl,v',g2,rfl,v',φ',rfl,hl'.rel,hs⟩
theorem DCallOK.body2 {f:FuncId} {fn:Func} {id:Nat} {o p:Oper} {rest:Code} (hf:P.funcs[f]?=some fn) (hb:fn.body=some (.seq (.region id #[o,p] false) rest)) {args:List AV} {H:T Obj} {nx:Nat} {c:Call} {x:Operand} {v:AV}
  (ho:o.op=.call c) (hc:c.callee=.builtin .recover) (hg:o.guard=none) (hd:dstOk (maxA args.length fn.ntmps) o.dst) (hp:p.op=.assign x) (hpg:p.guard=none) (hpd:dstOk (maxA args.length fn.ntmps) p.dst) (hx:ev C (putT (argA args 0 .leaf) o.dst .nif) x=some v) (hC:CtxOk P C) {K:T Obj→Nat→Prop}
  (h:∀ Q:Ex→St→Prop,(∀ e s,exEnd e=true→s.df=[]→(∃ vs,resA C s fn.results.toList=some vs)→K s.hp s.nx→Q e s)→CodeP P C (maxA args.length fn.ntmps) none rest ⟨putT (putT (argA args 0 .leaf) o.dst .nif) p.dst v,H,nx,[]⟩ Q):∃ hp2 nx2,DCallOK P C f args H.get nx (T.get hp2) nx2∧K hp2 nx2:=by
 obtain⟨e,s,h1,h2,h3,⟨vs,h4⟩,h5⟩:=h (fun e s=>exEnd e=true∧s.df=[]∧(∃ vs,resA C s fn.results.toList=some vs)∧K s.hp s.nx) fun e s a b c d=>⟨a,b,c,d⟩
 exact⟨s.hp,s.nx,DCallOK.body hf hb (exEnd_ok h2) h3 hC h4 (.seq (.recover2 ho hc hg hd hp hpg hpd hx) (.lift h1)),h5⟩
theorem CallG.bodyD (hP:ProgOk P C) {f:FuncId} {fn:Func} {body:Code} (hft:P.funcs[f]?=some fn) (hb:fn.body=some body) {args:List AV} {H:T Obj} {nx:Nat} {B:Base} {Rt:Base→AV→T Obj→Nat→Prop}
  (h:∀ F:From,F.Ok→F.n=nx→F.H=H.get→F.B=B→∀ (Q:Ex→St→Base→Prop) (N:AV→St→Prop),
   (∀ e st B',exEnd e=true→(∃ f2 as cp,st.df=[.call f2 as cp]∧Enters P f2∧∃ hp2 nx2,DCallOK P (C.at B') f2 (as++cp) st.hp.get st.nx (T.get hp2) nx2∧∃ vs,resA (C.at B') ⟨st.tm,hp2,nx2,[]⟩ fn.results.toList=some vs∧ExitR C F B' (retA vs) hp2 nx2 Rt)→Q e st B') →
   (∀ v st,(∃ f2 as cp,st.df=[.call f2 as cp]∧Enters P f2∧∃ hp2 nx2,RCallOK P (C.at B) f2 (as++cp) v st.hp.get st.nx (T.get hp2) nx2∧∃ vs,resA (C.at B) ⟨st.tm,hp2,nx2,[]⟩ fn.results.toList=some vs∧ExitR C F B (retA vs) hp2 nx2 Rt)→N v st) →
   CodeF P C F (maxA args.length fn.ntmps) body ⟨argA args 0 .leaf,H,nx,[]⟩ B Q N) :
  CallG P C B f args H.get nx (fun B' v H' n=>∃ hp,H'=T.get hp∧Rt B' v hp n) (fun v H' n=>∃ hp,H'=T.get hp∧False):=by
 intro φ w args' hrel hg ha
 have hF:(⟨φ,H.get,nx,w,B⟩:From).Ok:=⟨fun i l hi=>(hrel.lt i l hi).1⟩
 have hc:=h ⟨φ,H.get,nx,w,B⟩ hF rfl rfl rfl
  (fun e st B'=>exEnd e=true∧∃ f2 as cp,st.df=[.call f2 as cp]∧Enters P f2∧∃ hp2 nx2,DCallOK P (C.at B') f2 (as++cp) st.hp.get st.nx (T.get hp2) nx2∧∃ vs,resA (C.at B') ⟨st.tm,hp2,nx2,[]⟩ fn.results.toList=some vs∧ExitR C ⟨φ,H.get,nx,w,B⟩ B' (retA vs) hp2 nx2 Rt)
  (fun v st=>∃ f2 as cp,st.df=[.call f2 as cp]∧Enters P f2∧∃ hp2 nx2,RCallOK P (C.at B) f2 (as++cp) v st.hp.get st.nx (T.get hp2) nx2∧∃ vs,resA (C.at B) ⟨st.tm,hp2,nx2,[]⟩ fn.results.toList=some vs∧ExitR C ⟨φ,H.get,nx,w,B⟩ B (retA vs) hp2 nx2 Rt)
  (fun e st B' a b=>⟨a,b⟩) (fun v st a=>a)
 refine calls_fw (r:=none) (n:=0) (callsIn_of_wp_marks hft hb trivial ?_)
 refine hc φ _ w ⟨frame0 hrel hg ha fn.ntmps,.refl _ _ _ _,.refl _ _⟩ 0 _ ?_ ?_
 ·rintro e st B' φ' a' w' ⟨h1,f2,as,cp,h2,h3,hp2,nx2,h4,vs,h5,h6⟩ ho
  have hd:=ho.lies.defers
  rw [h2] at hd
  have fin:LeavesInM (Fw none) 0 P fn a'.tmps (fun e w'=>∃ φ' v v' H' nx',VRel φ' v v'∧Rel φ' H' nx' w'∧Step φ H.get nx w φ' H' nx' w' ∧
    ((e=.returned v'∧∃ B',(∃ hp,H'=T.get hp∧Rt B' v hp nx')∧BOk (C.at B') φ' H' w'∧Grows w.heap.size B B')∨(e=.panicked [{ v:=v',recovered:=false }]∧∃ hp,H'=T.get hp∧False))) a'.defers .returning w':=by
   refine leaves_ok (C:=C.at B') (.call h3 h4 (.nil _ _)) ho.lies.rel ho.lies.glob hd fun φ2 w2 r2 s2=>?_
   obtain⟨v',g1,g2⟩:=results_ok (nt:=maxA args.length fn.ntmps) (st:=⟨st.tm,hp2,nx2,[]⟩) (a:=⟨a'.tmps,[]⟩) (At.ok hP B').ctx ⟨r2,ho.lies.glob.step s2,ho.lies.tmps.mono s2.le,ho.lies.size,.nil⟩ h5
   obtain⟨φ3,v3,hp3,n3,B3,k1,k2,k3,k4,k5,k6⟩:=h6 φ2 w2 v' r2 (ho.lies.glob.step s2) (ho.step.trans s2) ho.grow g1
   exact⟨v',g2,φ3,v3,v',T.get hp3,n3,k1,k2,k3,.inl ⟨rfl,B3,⟨hp3,rfl,k6⟩,k4,k5⟩⟩
  rcases exEnd_ok h1 with rfl|rfl<;>exact fin
 ·rintro v v' st φ' a' w' ⟨f2,as,cp,h2,h3,hp2,nx2,h4,vs,h5,h6⟩ hv ho
  have hbo:BOk (C.at B) φ' st.hp.get w':=hg.step ho.step
  have hd:=ho.df
  rw [h2] at hd
  obtain⟨tmps,ds⟩:=a'
  simp only at hd
  have htm:TRel φ' st.tm tmps:=ho.tmps
  show LeavesInM (Fw none) 0 P fn tmps _ ds (.panicking [{ v:=v',recovered:=false }]) w'
  cases hd with
  | cons q t =>
   cases t
   cases q with
   | @call _ _ _ args2 cap2 ha2 hc2 =>
    refine⟨by simp,.inr ⟨fun q=>by simp [Fw,Fence.wide] at q,.func f2,cap2,f2,args2++cap2,rfl,?_,fun _ _=>trivial,?_⟩⟩
    ·simp only [invoke];exact h3 _ _
    ·refine(h4 φ' w' (args2++cap2) v' ho.rel hbo (by simp only [Array.toList_append];exact ha2.append hc2) hv (0 - 1)).mono ?_
     rintro e m w2 ⟨rfl,v2,φ2,rfl,r2,s2⟩
     obtain⟨v3,g1,g2⟩:=results_ok (nt:=tmps.size) (st:=⟨st.tm,hp2,nx2,[]⟩) (a:=⟨tmps,[]⟩) (At.ok hP B).ctx ⟨r2,hbo.step s2,htm.mono s2.le,rfl,.nil⟩ h5
     obtain⟨φ3,v4,hp3,n3,B3,k1,k2,k3,k4,k5,k6⟩:=h6 φ2 w2 v3 r2 (hbo.step s2) (ho.step.trans s2) (.refl _ _) g1
     exact⟨v3,g2,φ3,v4,v3,T.get hp3,n3,k1,k2,k3,.inl ⟨rfl,B3,⟨hp3,rfl,k6⟩,k4,k5⟩⟩
end
def takeS:Nat→Code→Code
 | 0,_=>.skip
 | n+1,.seq a b=>.seq a (takeS n b)
 | _+1,_=>.skip
def dropS:Nat→Code→Code
 | 0,c=>c
 | n+1,.seq _ b=>dropS n b
 | _+1,c=>c
section
variable {P:Program} {C:Ctx} {nt:Nat} {rd:Option Nat}
theorem wpOps_cut {S:Sy} {ops l1 l2:List Oper} {st:St} {K:St→Prop} (h:∀ G:St→Prop,(∀ s,wpOps S C nt ops l2 s K→G s)→wpOps S C nt ops l1 st G):wpOps S C nt ops (l1++l2) st K:=by
 have key:∀ (l1:List Oper) (st:St) (K:St→Prop),wpOps S C nt ops l1 st (fun s=>wpOps S C nt ops l2 s K)=wpOps S C nt ops (l1++l2) st K:=by
  intro l1
  induction l1 with
  | nil=>intro st K;rw [wpOps,List.nil_append]
  | cons o l ih =>
   intro st K
   rw [List.cons_append,wpOps,wpOps]
   simp only [ih]
 rw [← key]
 exact h _ fun _ h=>h
theorem wpC_cut (hP:ProgOk P C) {S:Sy} (hS:SyR P C nt rd S) {Q:Ex→St→Prop}:∀ {n:Nat} {c:Code} {st:St},wpC S C nt (takeS n c) st (nextP (fun s=>CodeP P C nt rd (dropS n c) s Q) Q)→CodeP P C nt rd c st Q:=by
 intro n
 induction n with
 | zero=>intro c st h;unfold takeS at h;unfold wpC at h;exact h
 | succ n ih =>
  intro c st h
  cases c with
  | seq a b =>
   unfold takeS dropS at h
   unfold wpC at h
   refine CodeP.seq ((wpC_ok hP hS h).mono fun e s h1=>?_)
   cases e with
   | normal=>exact ih h1
   | _=>exact h1
  | _=>unfold takeS at h;unfold wpC at h;exact h
end
theorem CodeP.syCut (n:Nat) {P:Program} {C:Ctx} {nt:Nat} {rd:Option Nat} (hP:ProgOk P C) {c:Code} {st:St} {Q:Ex→St→Prop}
  (h:∀ (cmp:BinOp→Int→Int→(Bool→Prop)→Prop) (scmp:BinOp→SB→SB→(Bool→Prop)→Prop) (ar:BinOp→IntKind→Int→Int→(Int→Prop)→Prop) (wr:IntKind→Int→(Int→Prop)→Prop) (add:Addr→Nat→(Addr→Prop)→Prop)
   (op:Oper→St→(AV→T Obj→Nat→Prop)→Prop) (load:Nat→Addr→(AV→Prop)→Prop) (len:Nat→Value→(AV→Prop)→Prop) (index:Nat→Value→Int→(AV→Prop)→Prop)
   (call:FuncId→List AV→T Obj→Nat→(AV→T Obj→Nat→Prop)→Prop) (callv:Value→List AV→T Obj→Nat→(AV→T Obj→Nat→Prop)→Prop)
   (vop:Oper→T AV→(AV→Prop)→Prop) (loop other:Code→St→(Ex→St→Prop)→Prop),
   (∀ op a b K,(∀ t,t=cmp0 op a b→K t)→cmp op a b K)→(∀ op a b K,(∀ t,t=scmp0 op a.bytes b.bytes→K t)→scmp op a b K)→(∀ op k a b K,(∀ n,n=ar0 op k a b→K n)→ar op k a b K) →
   (∀ k n K,(∀ m,m=k.wrap n→K m)→wr k n K)→(∀ p n K,(∀ q,q=Addr.add p n→K q)→add p n K) →
   (∀ o st K,OpR P C o st K→op o st K)→(∀ t p K,LoadR C t p K→load t p K)→(∀ t v K,LenR C t v K→len t v K)→(∀ t v i K,IndexR C t v i K→index t v i K) →
   (∀ f args hp nx K,CallR P C f args hp nx K→call f args hp nx K)→(∀ f args hp nx K,CallvR P C f args hp nx K→callv f args hp nx K)→(∀ o tm K,PureR P C o tm K→vop o tm K) →
   (∀ c st Q,CodeP P C nt rd (.loop c) st Q→loop c st Q)→(∀ c st Q,CodeP P C nt rd c st Q→other c st Q)→∀ G:St→Prop,(∀ s t,Sub s t→t.nx=s.nx→t.df=s.df→CodeP P C nt rd (dropS n c) t Q→G s)→wpC ⟨cmp,scmp,ar,wr,add,op,load,len,index,call,callv,vop,loop,other⟩ C nt (takeS n c) st (nextP G Q)):CodeP P C nt rd c st Q :=
 wpC_cut hP (S:=⟨fun op a b K=>K (cmp0 op a b),fun op a b K=>K (scmp0 op a.bytes b.bytes),fun op k a b K=>K (ar0 op k a b),fun k n K=>K (k.wrap n),fun p n K=>K (Addr.add p n),OpR P C,LoadR C,LenR C,IndexR C,CallR P C,CallvR P C,PureR P C,fun c=>CodeP P C nt rd (.loop c),fun c=>CodeP P C nt rd c⟩)
  ⟨fun _ _ _ _ h=>h,fun _ _ _ _ h=>h,fun _ _ _ _ _ h=>h,fun _ _ _ h=>h,fun _ _ _ h=>h,fun _ _ _ h=>h,fun _ _ _ h=>h,fun _ _ _ h=>h,fun _ _ _ _ h=>h,fun _ _ _ _ _ h=>h,fun _ _ _ _ _ h=>h,fun _ _ _ h=>h,fun _ _ _ h=>h,fun _ _ _ h=>h⟩
  (h _ _ _ _ _ _ _ _ _ _ _ _ _ _ (fun _ _ _ _ h=>h _ rfl) (fun _ _ _ _ h=>h _ rfl) (fun _ _ _ _ _ h=>h _ rfl) (fun _ _ _ h=>h _ rfl) (fun _ _ _ h=>h _ rfl) (fun _ _ _ h=>h) (fun _ _ _ h=>h) (fun _ _ _ h=>h) (fun _ _ _ _ h=>h) (fun _ _ _ _ _ h=>h) (fun _ _ _ _ _ h=>h) (fun _ _ _ h=>h) (fun _ _ _ h=>h) (fun _ _ _ h=>h) _ fun _ _ hs hn hd h=>h.pre hs hn hd)
end Ev
