/- A term's parts, as they are read. -/
import Derived.Test.YtaacpiniakmpbaaGreatDoorU2
namespace Go.Proofs.YtaacpiniakmpbaaGreatDoor
open Go Ev Tryz
set_option linter.unusedSimpArgs false
set_option linter.unusedVariables false
set_option maxHeartbeats 8000000
set_option maxRecDepth 20000
def _root_.Go.Code.regOf (id:Nat):Code→Option (Array Oper)
 | .region i ops _=>match Nat.beq i id with|true=>some ops|false=>none
 | .seq a b=>match regOf id a with|some x=>some x|none=>regOf id b
 | .cond _ a b=>match regOf id a with|some x=>some x|none=>regOf id b
 | .block _ c=>regOf id c
 | .loop c=>regOf id c
 | _=>none
def spPart:List QSp:=[.qt 0 2 [0,1,7],.qt 0 2 [1,7],.qt 0 0 [2,5],.qt 0 0 [3,4,5],.qt 0 0 [4,5],.ln 0,.ln 1,.ln 2,.qt 3 3 [8,9],.ln 3]
def qvPart (d:Nat) (L:AV) (i:Nat):AV:=match i with
 | 0=>.ptr 3 3|1=>L|2=>.ptr 1 0|3=>.val (.int .i64 (Int.ofNat (d+1)))|4=>.val (.int .i64 (Int.ofNat d))|8=>.ptr 3 3|_=>.nif
noncomputable def tqPart (d:Nat) (L:AV) (i:Nat) (s:St):T AV:=match i with
 | 0=>mkT [(5,.ptr 3 0)]
 | 1=>mkT [(79,.ptr 3 3)]
 | 2=>mkT [(0,.ptr 1 0)]
 | 3=>mkT [(1,.val (.int .i64 (Int.ofNat (d+1))))]
 | 4=>mkT [(82,.val (.int .i64 (Int.ofNat (d+1))))]
 | 5=>mkT [(81,.ptr 1 0),(83,.val (.int .i64 (Int.ofNat d)))]
 | 6=>s.tm
 | 7=>s.tm.set 80 L
 | 8=>mkT [(5,.ptr 3 0)]
 | 9=>s.tm.set 87 (.ptr 3 3)
 | _=>.leaf
theorem part39 {F:From} {d i nd m:Nat} {k n:Int} {u s:ByteArray} {vs:List Value} {B:Base} (hs:s.size≤1048576) (hnd:nd≤4000) (hd:d≤1000)
  (ih:∀ B,CallG Tryz.prog ctxZ B 39 [.ptr 1 0,.val (.int .i64 (Int.ofNat d))] (mkT [(0,.ro calcAVs),(1,.cells [.val (.string s),.val (.int .i64 (Int.ofNat nd))] 0)]).get 2
   (fun B' v H n'=>∃ hp,H=T.get hp∧Termed B (pTerm d nd (bytesOf s)) B' v hp n') (fun v H n'=>∃ hp,H=T.get hp∧(pTerm d nd (bytesOf s)=none∧Broke v hp n')))
  {Q:Ex→St→Base→Prop} {N:AV→St→Prop} {ops:Array Oper} (hops:Tryz.f39.body.bind (Code.regOf 28)=some ops)
  (hi:i=0) (hv:vs=[])
  (hQ:∀ s' B',G39 d (mkT [(0,.ptr 1 0),(1,.val (.int .i64 (Int.ofNat (d+1)))),(4,.ptr 2 0),(5,.ptr 3 0),(76,.val (.int .i64 (Int.ofNat m))),(77,.val (.int .i64 (Int.ofNat i)))])
   (mkT [(0,.ro calcAVs),(1,.cells [.val (.string s),.val (.int .i64 (Int.ofNat nd))] 0),(2,.cells [.int .i64 0,.int .i64 0,.str [],.nsl] 0),(3,.cells [.val (.int .i64 k),.val (.int .i64 n),.val (.string u),.nsl] 0)]) false B (pTerm d nd (bytesOf s)) vs i
   (fun L=>.cells [.val (.int .i64 k),.val (.int .i64 n),.val (.string u),L] 0) 4 s' B'→Q .normal s' B')
  (hN:∀ v st,pTerm d nd (bytesOf s)=none→st.df=[]→v=.iface 83 (.agg [])→st.hp.get 0=some (.ro calcAVs)→N v st) :
  CodeF Tryz.prog ctxZ F 90 (.region 28 ops true) (mkS [(0,.ptr 1 0),(1,.val (.int .i64 (Int.ofNat (d+1)))),(4,.ptr 2 0),(5,.ptr 3 0),(76,.val (.int .i64 (Int.ofNat m))),(77,.val (.int .i64 (Int.ofNat i)))]
   [(0,.ro calcAVs),(1,.cells [.val (.string s),.val (.int .i64 (Int.ofNat nd))] 0),(2,.cells [.int .i64 0,.int .i64 0,.str [],.nsl] 0),(3,.cells [.val (.int .i64 k),.val (.int .i64 n),.val (.string u),.nsl] 0)] 5) B Q N:=by
 cases hops
 refine CodeF.drawQ prog_okZ.mixed (DrawQ.mk' (m:=4) (cl:=[5,6,7,9]) (sp:=spPart) (qv:=qvPart d .nsl) (tq:=tqPart d .nsl) ?_ ⟨rfl,rfl⟩ ?_ ?_ ?_ ?_) hQ
 ·rfl
 ·intro k s B' hG i o t ho hq hd
  rcases k with _|_|_|_|k
  ·obtain⟨rfl,rfl⟩:=hG
   rcases i with _|_|_|_|_|_|_|_|_|_|i<;>first|(cases hq;done)|(cases ho;cases hd;rfl)
  ·obtain⟨k,n,u,l,a,m,c,s2,nd2,_,rfl⟩:=hG
   rcases i with _|_|_|_|_|_|_|_|_|_|i<;>first|(cases hq;done)|(cases ho;cases hd;rfl)
  ·obtain⟨k,n,u,l,a,m,c,s2,nd2,_,rfl⟩:=hG
   rcases i with _|_|_|_|_|_|_|_|_|_|i<;>first|(cases hq;done)|(cases ho;cases hd;rfl)
  ·obtain⟨k,n,u,l,a,m,c,s2,nd2,dd,j,_,_,_,rfl⟩:=hG
   rcases i with _|_|_|_|_|_|_|_|_|_|i<;>first|(cases hq;done)|(cases ho;cases hd;rfl)
  ·obtain⟨k,n,u,l,a,m,c,s2,nd2,dd,j,_,_,_,rfl⟩:=hG
   rcases i with _|_|_|_|_|_|_|_|_|_|i<;>first|(cases hq;done)|(cases ho;cases hd;rfl)
 ·intro k s B' hG i o t v ho hv
  have h0:s.tm.get 0=some (.ptr 1 0)∧s.tm.get 1=some (.val (.int .i64 (Int.ofNat (d+1))))∧s.tm.get 5=some (.ptr 3 0):=by
   rcases k with _|_|_|_|k
   ·obtain⟨rfl,rfl⟩:=hG;exact⟨rfl,rfl,rfl⟩
   ·obtain⟨k,n,u,l,a,m,c,s2,nd2,_,rfl⟩:=hG;exact⟨rfl,rfl,rfl⟩
   ·obtain⟨k,n,u,l,a,m,c,s2,nd2,_,rfl⟩:=hG;exact⟨rfl,rfl,rfl⟩
   ·obtain⟨k,n,u,l,a,m,c,s2,nd2,dd,j,_,_,_,rfl⟩:=hG;exact⟨rfl,rfl,rfl⟩
   ·obtain⟨k,n,u,l,a,m,c,s2,nd2,dd,j,_,_,_,rfl⟩:=hG;exact⟨rfl,rfl,rfl⟩
  have m1:∀ {a:Nat} {x:AV},(mkT [(a,x)]).get t=some v→t=a∧v=x:=by
   intro a x h
   have:=mkT_get h
   simpa using this
  rcases i with _|_|_|_|_|_|_|_|_|_|i
  ·obtain⟨rfl,rfl⟩:=m1 hv;exact .inl h0.2.2
  ·obtain⟨rfl,rfl⟩:=m1 hv;cases ho;exact .inr ⟨⟨0,.data⟩,by simp,rfl,rfl,_,rfl,rfl,rfl⟩
  ·obtain⟨rfl,rfl⟩:=m1 hv;exact .inl h0.1
  ·obtain⟨rfl,rfl⟩:=m1 hv;exact .inl h0.2.1
  ·obtain⟨rfl,rfl⟩:=m1 hv;cases ho;exact .inr ⟨⟨3,.data⟩,by simp,rfl,rfl,_,rfl,rfl,rfl⟩
  ·have:=mkT_get hv
   simp only [List.mem_cons,Prod.mk.injEq,List.not_mem_nil,or_false] at this
   cases ho
   rcases this with⟨rfl,rfl⟩|⟨rfl,rfl⟩
   ·exact .inr ⟨⟨2,.data⟩,by simp,rfl,rfl,_,rfl,rfl,rfl⟩
   ·exact .inr ⟨⟨4,.data⟩,by simp,rfl,rfl,_,rfl,rfl,rfl⟩
  ·exact .inl hv
  ·simp only [tqPart,T.get_set] at hv
   split at hv
   ·next e=>subst e;cases hv;cases ho;exact .inr ⟨⟨1,.data⟩,by simp,rfl,rfl,_,rfl,rfl,rfl⟩
   ·exact .inl hv
  ·obtain⟨rfl,rfl⟩:=m1 hv;exact .inl h0.2.2
  ·simp only [tqPart,T.get_set] at hv
   split at hv
   ·next e=>subst e;cases hv;cases ho;exact .inr ⟨⟨8,.data⟩,by simp,rfl,rfl,_,rfl,rfl,rfl⟩
   ·exact .inl hv
  ·cases hv
 ·intro i o ho hq k s B' hlo hhi hG
  rcases i with _|_|_|_|_|_|_|_|_|_|i
  ·cases ho;exact OpOK.val ctxAt (by rfl) _
  ·cases ho
   rcases k with _|_|_|k
   ·obtain⟨rfl,rfl⟩:=hG;exact OpOK.val ctxAt (by rfl) _
   ·obtain⟨k,n,u,l,a,m,c,s2,nd2,_,rfl⟩:=hG;exact OpOK.val ctxAt (by rfl) _
   ·obtain⟨k,n,u,l,a,m,c,s2,nd2,_,rfl⟩:=hG;exact OpOK.val ctxAt (by rfl) _
   ·have:k+3≤2:=hhi
    omega
  ·cases ho;exact OpOK.val ctxAt (by rfl) _
  ·cases ho;exact OpOK.val ctxAt (by rfl) _
  ·cases ho
   suffices h:PureR Tryz.prog (ctxZ.at B') _ (mkT [(82,.val (.int .i64 (Int.ofNat (d+1))))]) (fun v=>v=.val (.int .i64 (Int.ofNat d))) from by
    obtain⟨v,h1,rfl⟩:=h
    exact h1 _ _
   refine pure_by ctxAt (tl:=[(82,.int .i64 (Int.ofNat (d+1)))]) (v:=.int .i64 (Int.ofNat d)) (told_int rfl told_nil) ?_ rfl rfl rfl
   show some (AV.int .i64 (wrapF .i64 (Int.ofNat (d+1) - 1)))=some (AV.int .i64 (Int.ofNat d))
   rw [wrapF_eq,wrap_in (by simp<;>omega) (by simp<;>omega)];simp
  ·cases hq
  ·cases hq
  ·cases hq
  ·cases ho;exact OpOK.val ctxAt (by rfl) _
  ·cases hq
  ·cases hq
 ·rintro(_|_|_|_|k') s' B' hk hG o ho
  ·obtain⟨rfl,rfl⟩:=hG
   cases ho
   refine OpS.call rfl rfl rfl rfl ?_
   refine CallZ.of (tauF []) (n:=2) (l0:=[(0,.ro calcAVs),(1,.cells [.val (.string s),.val (.int .i64 (Int.ofNat nd))] 0)]) call39 (ih _) hpl rfl rfl rfl (gsT rfl rfl) rfl rfl ?_ ?_
   ·rintro B2 v hp' n' ⟨⟨k2,n2,u2,l2⟩,nd2,cs,s2,hW,hle,hta,rfl,rfl,rfl⟩ _
    refine⟨_,rfl,rfl,?_⟩
    intro hpX hX
    obtain⟨a2,m2,c2,rfl,_⟩:=hta.out
    subst hX
    exact⟨k2,n2,u2,l2,a2,m2,c2,s2,nd2,⟨hW,hle,hta⟩,rfl⟩
   ·rintro v hp' n' ⟨hW,rfl,rfl,rfl⟩ _
    refine⟨_,rfl,rfl,?_⟩
    intro hpX hX
    subst hX
    exact hN _ _ hW rfl rfl rfl
  ·obtain⟨k2,n2,u2,l2,a2,m2,c2,s2,nd2,h2,rfl⟩:=hG
   cases ho
   exact OpS.new prog_okZ.ctx ctxAt rfl ⟨k2,n2,u2,l2,a2,m2,c2,s2,nd2,h2,rfl⟩
  ·obtain⟨k2,n2,u2,l2,a2,m2,c2,s2,nd2,h2,rfl⟩:=hG
   cases ho
   subst hv hi
   refine OpS.opR (st:=⟨_,_,_,[]⟩) ?_
   refine append_ok (sz:=4) (m:=1) ctxAt rfl rfl rfl rfl rfl rfl rfl rfl rfl rfl (.inl ⟨_,rfl⟩) rfl rfl rfl rfl (by decide) rfl rfl (.inl ⟨rfl,by decide,?_⟩)
   exact⟨k2,n2,u2,l2,a2,m2,c2,s2,nd2,_,1,h2,⟨rfl,rfl⟩,rfl,rfl⟩
  ·obtain⟨k2,n2,u2,l2,a2,m2,c2,s2,nd2,dd,j,h2,h3,h4,rfl⟩:=hG
   cases ho
   refine OpS.op (OpOK.chg (r:=⟨undefA,_,_⟩) ctxAt rfl) ?_
   exact⟨k2,n2,u2,l2,a2,m2,c2,s2,nd2,dd,j,h2,h3,h4,rfl⟩
  ·omega
theorem part39o {F:From} {d i nd m:Nat} {k n:Int} {u s:ByteArray} {vs:List Value} {B:Base} (hs:s.size≤1048576) (hnd:nd≤4000) (hd:d≤1000)
  (ih:∀ B,CallG Tryz.prog ctxZ B 39 [.ptr 1 0,.val (.int .i64 (Int.ofNat d))] (mkT [(0,.ro calcAVs),(1,.cells [.val (.string s),.val (.int .i64 (Int.ofNat nd))] 0)]).get 2
   (fun B' v H n'=>∃ hp,H=T.get hp∧Termed B (pTerm d nd (bytesOf s)) B' v hp n') (fun v H n'=>∃ hp,H=T.get hp∧(pTerm d nd (bytesOf s)=none∧Broke v hp n')))
  {Q:Ex→St→Base→Prop} {N:AV→St→Prop} {ops:Array Oper} (hops:Tryz.f39.body.bind (Code.regOf 28)=some ops)
  {cc:List AV} (hcc:Vs cc vs) (hcl:vs.length=i*4) (hi:i≤1000)
  (hQ:∀ s' B',G39 d (mkT [(0,.ptr 1 0),(1,.val (.int .i64 (Int.ofNat (d+1)))),(4,.ptr 2 0),(5,.ptr 3 0),(76,.val (.int .i64 (Int.ofNat m))),(77,.val (.int .i64 (Int.ofNat i)))])
   (mkT [(0,.ro calcAVs),(1,.cells [.val (.string s),.val (.int .i64 (Int.ofNat nd))] 0),(2,.cells [.int .i64 0,.int .i64 0,.str [],.nsl] 0),(3,.cells [.val (.int .i64 k),.val (.int .i64 n),.val (.string u),.sl 4 0 i i false 4] 0),(4,.cells cc 0)]) true B (pTerm d nd (bytesOf s)) vs i
   (fun L=>.cells [.val (.int .i64 k),.val (.int .i64 n),.val (.string u),L] 0) 4 s' B'→Q .normal s' B')
  (hN:∀ v st,pTerm d nd (bytesOf s)=none→st.df=[]→v=.iface 83 (.agg [])→st.hp.get 0=some (.ro calcAVs)→N v st) :
  CodeF Tryz.prog ctxZ F 90 (.region 28 ops true) (mkS [(0,.ptr 1 0),(1,.val (.int .i64 (Int.ofNat (d+1)))),(4,.ptr 2 0),(5,.ptr 3 0),(76,.val (.int .i64 (Int.ofNat m))),(77,.val (.int .i64 (Int.ofNat i)))]
   [(0,.ro calcAVs),(1,.cells [.val (.string s),.val (.int .i64 (Int.ofNat nd))] 0),(2,.cells [.int .i64 0,.int .i64 0,.str [],.nsl] 0),(3,.cells [.val (.int .i64 k),.val (.int .i64 n),.val (.string u),.sl 4 0 i i false 4] 0),(4,.cells cc 0)] 5) B Q N:=by
 cases hops
 refine CodeF.drawQ prog_okZ.mixed (DrawQ.mk' (m:=4) (cl:=[5,6,7,9]) (sp:=spPart) (qv:=qvPart d (.sl 4 0 i i false 4)) (tq:=tqPart d (.sl 4 0 i i false 4)) ?_ ⟨rfl,rfl⟩ ?_ ?_ ?_ ?_) hQ
 ·rfl
 ·intro k s B' hG i o t ho hq hd
  rcases k with _|_|_|_|k
  ·obtain⟨rfl,rfl⟩:=hG
   rcases i with _|_|_|_|_|_|_|_|_|_|i<;>first|(cases hq;done)|(cases ho;cases hd;rfl)
  ·obtain⟨k,n,u,l,a,m,c,s2,nd2,_,rfl⟩:=hG
   rcases i with _|_|_|_|_|_|_|_|_|_|i<;>first|(cases hq;done)|(cases ho;cases hd;rfl)
  ·obtain⟨k,n,u,l,a,m,c,s2,nd2,_,rfl⟩:=hG
   rcases i with _|_|_|_|_|_|_|_|_|_|i<;>first|(cases hq;done)|(cases ho;cases hd;rfl)
  ·obtain⟨k,n,u,l,a,m,c,s2,nd2,dd,j,_,_,_,rfl⟩:=hG
   rcases i with _|_|_|_|_|_|_|_|_|_|i<;>first|(cases hq;done)|(cases ho;cases hd;rfl)
  ·obtain⟨k,n,u,l,a,m,c,s2,nd2,dd,j,_,_,_,rfl⟩:=hG
   rcases i with _|_|_|_|_|_|_|_|_|_|i<;>first|(cases hq;done)|(cases ho;cases hd;rfl)
 ·intro k s B' hG i o t v ho hv
  have h0:s.tm.get 0=some (.ptr 1 0)∧s.tm.get 1=some (.val (.int .i64 (Int.ofNat (d+1))))∧s.tm.get 5=some (.ptr 3 0):=by
   rcases k with _|_|_|_|k
   ·obtain⟨rfl,rfl⟩:=hG;exact⟨rfl,rfl,rfl⟩
   ·obtain⟨k,n,u,l,a,m,c,s2,nd2,_,rfl⟩:=hG;exact⟨rfl,rfl,rfl⟩
   ·obtain⟨k,n,u,l,a,m,c,s2,nd2,_,rfl⟩:=hG;exact⟨rfl,rfl,rfl⟩
   ·obtain⟨k,n,u,l,a,m,c,s2,nd2,dd,j,_,_,_,rfl⟩:=hG;exact⟨rfl,rfl,rfl⟩
   ·obtain⟨k,n,u,l,a,m,c,s2,nd2,dd,j,_,_,_,rfl⟩:=hG;exact⟨rfl,rfl,rfl⟩
  have m1:∀ {a:Nat} {x:AV},(mkT [(a,x)]).get t=some v→t=a∧v=x:=by
   intro a x h
   have:=mkT_get h
   simpa using this
  rcases i with _|_|_|_|_|_|_|_|_|_|i
  ·obtain⟨rfl,rfl⟩:=m1 hv;exact .inl h0.2.2
  ·obtain⟨rfl,rfl⟩:=m1 hv;cases ho;exact .inr ⟨⟨0,.data⟩,by simp,rfl,rfl,_,rfl,rfl,rfl⟩
  ·obtain⟨rfl,rfl⟩:=m1 hv;exact .inl h0.1
  ·obtain⟨rfl,rfl⟩:=m1 hv;exact .inl h0.2.1
  ·obtain⟨rfl,rfl⟩:=m1 hv;cases ho;exact .inr ⟨⟨3,.data⟩,by simp,rfl,rfl,_,rfl,rfl,rfl⟩
  ·have:=mkT_get hv
   simp only [List.mem_cons,Prod.mk.injEq,List.not_mem_nil,or_false] at this
   cases ho
   rcases this with⟨rfl,rfl⟩|⟨rfl,rfl⟩
   ·exact .inr ⟨⟨2,.data⟩,by simp,rfl,rfl,_,rfl,rfl,rfl⟩
   ·exact .inr ⟨⟨4,.data⟩,by simp,rfl,rfl,_,rfl,rfl,rfl⟩
  ·exact .inl hv
  ·simp only [tqPart,T.get_set] at hv
   split at hv
   ·next e=>subst e;cases hv;cases ho;exact .inr ⟨⟨1,.data⟩,by simp,rfl,rfl,_,rfl,rfl,rfl⟩
   ·exact .inl hv
  ·obtain⟨rfl,rfl⟩:=m1 hv;exact .inl h0.2.2
  ·simp only [tqPart,T.get_set] at hv
   split at hv
   ·next e=>subst e;cases hv;cases ho;exact .inr ⟨⟨8,.data⟩,by simp,rfl,rfl,_,rfl,rfl,rfl⟩
   ·exact .inl hv
  ·cases hv
 ·intro i o ho hq k s B' hlo hhi hG
  rcases i with _|_|_|_|_|_|_|_|_|_|i
  ·cases ho;exact OpOK.val ctxAt (by rfl) _
  ·cases ho
   rcases k with _|_|_|k
   ·obtain⟨rfl,rfl⟩:=hG;exact OpOK.val ctxAt (by rfl) _
   ·obtain⟨k,n,u,l,a,m,c,s2,nd2,_,rfl⟩:=hG;exact OpOK.val ctxAt (by rfl) _
   ·obtain⟨k,n,u,l,a,m,c,s2,nd2,_,rfl⟩:=hG;exact OpOK.val ctxAt (by rfl) _
   ·have:k+3≤2:=hhi
    omega
  ·cases ho;exact OpOK.val ctxAt (by rfl) _
  ·cases ho;exact OpOK.val ctxAt (by rfl) _
  ·cases ho
   suffices h:PureR Tryz.prog (ctxZ.at B') _ (mkT [(82,.val (.int .i64 (Int.ofNat (d+1))))]) (fun v=>v=.val (.int .i64 (Int.ofNat d))) from by
    obtain⟨v,h1,rfl⟩:=h
    exact h1 _ _
   refine pure_by ctxAt (tl:=[(82,.int .i64 (Int.ofNat (d+1)))]) (v:=.int .i64 (Int.ofNat d)) (told_int rfl told_nil) ?_ rfl rfl rfl
   show some (AV.int .i64 (wrapF .i64 (Int.ofNat (d+1) - 1)))=some (AV.int .i64 (Int.ofNat d))
   rw [wrapF_eq,wrap_in (by simp<;>omega) (by simp<;>omega)];simp
  ·cases hq
  ·cases hq
  ·cases hq
  ·cases ho;exact OpOK.val ctxAt (by rfl) _
  ·cases hq
  ·cases hq
 ·rintro(_|_|_|_|k') s' B' hk hG o ho
  ·obtain⟨rfl,rfl⟩:=hG
   cases ho
   refine OpS.call rfl rfl rfl rfl ?_
   refine CallZ.of (tauF []) (n:=2) (l0:=[(0,.ro calcAVs),(1,.cells [.val (.string s),.val (.int .i64 (Int.ofNat nd))] 0)]) call39 (ih _) hpl rfl rfl rfl (gsT rfl rfl) rfl rfl ?_ ?_
   ·rintro B2 v hp' n' ⟨⟨k2,n2,u2,l2⟩,nd2,cs,s2,hW,hle,hta,rfl,rfl,rfl⟩ _
    refine⟨_,rfl,rfl,?_⟩
    intro hpX hX
    obtain⟨a2,m2,c2,rfl,_⟩:=hta.out
    subst hX
    exact⟨k2,n2,u2,l2,a2,m2,c2,s2,nd2,⟨hW,hle,hta⟩,rfl⟩
   ·rintro v hp' n' ⟨hW,rfl,rfl,rfl⟩ _
    refine⟨_,rfl,rfl,?_⟩
    intro hpX hX
    subst hX
    exact hN _ _ hW rfl rfl rfl
  ·obtain⟨k2,n2,u2,l2,a2,m2,c2,s2,nd2,h2,rfl⟩:=hG
   cases ho
   exact OpS.new prog_okZ.ctx ctxAt rfl ⟨k2,n2,u2,l2,a2,m2,c2,s2,nd2,h2,rfl⟩
  ·obtain⟨k2,n2,u2,l2,a2,m2,c2,s2,nd2,h2,rfl⟩:=hG
   cases ho
   refine OpS.opR (st:=⟨_,_,_,[]⟩) ?_
   refine append_ok (sz:=4) (m:=1) ctxAt rfl rfl rfl rfl rfl rfl rfl rfl rfl rfl (.inl ⟨_,rfl⟩) rfl rfl rfl rfl (by decide) rfl rfl (.inr ⟨4,i,cc,rfl,rfl,by rw [hcc.length,hcl],by unfold big;omega,?_⟩)
   exact⟨k2,n2,u2,l2,a2,m2,c2,s2,nd2,_,i+1,h2,hcc.append ⟨rfl,rfl⟩,rfl,rfl⟩
  ·obtain⟨k2,n2,u2,l2,a2,m2,c2,s2,nd2,dd,j,h2,h3,h4,rfl⟩:=hG
   cases ho
   refine OpS.op (OpOK.chg (r:=⟨undefA,_,_⟩) ctxAt rfl) ?_
   exact⟨k2,n2,u2,l2,a2,m2,c2,s2,nd2,dd,j,h2,h3,h4,rfl⟩
  ·omega
end Go.Proofs.YtaacpiniakmpbaaGreatDoor
