/- A term's parts, as the reference takes them. -/
import Derived.Test.YtaacpiniakmpbaaGreatDoorX1
import Derived.Test.YtaacpiniakmpbaaGreatDoorU3
namespace Go.Proofs.YtaacpiniakmpbaaGreatDoor
open Go Ev Tryz
set_option linter.unusedSimpArgs false
set_option linter.unusedVariables false
set_option maxHeartbeats 8000000
set_option maxRecDepth 20000
def Tells (B:Base) (s:ByteArray) (a:Nat) (W:Option (Tm×List Nat)) (B':Base) (k n:Int) (u:ByteArray) (x:Option Addr) (m c a':Nat) (ok':Bool):Prop :=
 (∀ k o,B k=some o→B' k=some o)∧a'≤s.size∧a≤a' ∧
  ((ok'=true∧a<a'∧∃ l,W=some (.mk k n u l,(bytesOf s).drop a')∧TmAt B' (.mk k n u l) [.int .i64 k,.int .i64 n,.string u,.slice x m c])∨(ok'=false∧W=none))
def Tooked (B:Base) (s:ByteArray) (a:Nat) (W:Option (Tm×List Nat)) (B':Base) (v:AV) (hp:T Ev.Obj) (n':Nat):Prop :=
 n'=2∧∃ a' ok' k n u x m c,v=.agg [.val (.int .i64 k),.val (.int .i64 n),.val (.string u),.val (.slice x m c)]∧hp=mkT [(0,.ro calcAVs),(1,.cells [.val (.string s),.val (.int .i64 (Int.ofNat a')),.bool ok'] 0)]∧Tells B s a W B' k n u x m c a' ok'
def G41 (tm0:T AV) (hp0:T Ev.Obj) (own:Bool) (s0:ByteArray) (O:Base→Int→Int→ByteArray→Option Addr→Nat→Nat→Nat→Bool→Prop) (B0:Base) (vs:List Value) (i:Nat) (h3:AV→Ev.Obj):Nat→St→Base→Prop
 | 0,s,B=>s=⟨tm0,hp0,5,[]⟩∧B=B0
 | 1,s,B=>∃ k n u x m c a2 ok2,O B k n u x m c a2 ok2 ∧
   s=⟨tm0.set 105 (.agg [.val (.int .i64 k),.val (.int .i64 n),.val (.string u),.val (.slice x m c)]),hp0.set 1 (.cells [.val (.string s0),.val (.int .i64 (Int.ofNat a2)),.bool ok2] 0),5,[]⟩
 | 2,s,B=>∃ k n u x m c a2 ok2,O B k n u x m c a2 ok2 ∧
   s=⟨(tm0.set 105 (.agg [.val (.int .i64 k),.val (.int .i64 n),.val (.string u),.val (.slice x m c)])).set 106 (.sl 5 0 1 1 true 4),
    (hp0.set 1 (.cells [.val (.string s0),.val (.int .i64 (Int.ofNat a2)),.bool ok2] 0)).set 5 (.cells [.val (.int .i64 k),.val (.int .i64 n),.val (.string u),.val (.slice x m c)] 0),6,[]⟩
 | 3,s,B=>∃ k n u x m c a2 ok2 dd j,O B k n u x m c a2 ok2∧Vs dd (vs++[.int .i64 k,.int .i64 n,.string u,.slice x m c])∧j=i+1 ∧
   s=⟨((tm0.set 105 (.agg [.val (.int .i64 k),.val (.int .i64 n),.val (.string u),.val (.slice x m c)])).set 106 (.sl 5 0 1 1 true 4)).set 107 (.sl 6 0 j j false 4),
    (match own with
     | true=>((hp0.set 1 (.cells [.val (.string s0),.val (.int .i64 (Int.ofNat a2)),.bool ok2] 0)).set 5 (.cells [.val (.int .i64 k),.val (.int .i64 n),.val (.string u),.val (.slice x m c)] 0)).del 4
     | false=>(hp0.set 1 (.cells [.val (.string s0),.val (.int .i64 (Int.ofNat a2)),.bool ok2] 0)).set 5 (.cells [.val (.int .i64 k),.val (.int .i64 n),.val (.string u),.val (.slice x m c)] 0)).set 6 (.cells dd 0),7,[]⟩
 | _,s,B=>∃ k n u x m c a2 ok2 dd j,O B k n u x m c a2 ok2∧Vs dd (vs++[.int .i64 k,.int .i64 n,.string u,.slice x m c])∧j=i+1 ∧
   s=⟨((tm0.set 105 (.agg [.val (.int .i64 k),.val (.int .i64 n),.val (.string u),.val (.slice x m c)])).set 106 (.sl 5 0 1 1 true 4)).set 107 (.sl 6 0 j j false 4),
    ((match own with
      | true=>((hp0.set 1 (.cells [.val (.string s0),.val (.int .i64 (Int.ofNat a2)),.bool ok2] 0)).set 5 (.cells [.val (.int .i64 k),.val (.int .i64 n),.val (.string u),.val (.slice x m c)] 0)).del 4
      | false=>(hp0.set 1 (.cells [.val (.string s0),.val (.int .i64 (Int.ofNat a2)),.bool ok2] 0)).set 5 (.cells [.val (.int .i64 k),.val (.int .i64 n),.val (.string u),.val (.slice x m c)] 0)).set 6 (.cells dd 0)).set 3 (h3 (.sl 6 0 j j false 4)),7,[]⟩
noncomputable def tqPart2 (d:Nat) (L:AV) (i:Nat) (s:St):T AV:=match i with
 | 0=>mkT [(5,.ptr 3 0)]
 | 1=>mkT [(100,.ptr 3 3)]
 | 2=>mkT [(0,.ptr 1 0)]
 | 3=>mkT [(1,.val (.int .i64 (Int.ofNat (d+1))))]
 | 4=>mkT [(103,.val (.int .i64 (Int.ofNat (d+1))))]
 | 5=>mkT [(102,.ptr 1 0),(104,.val (.int .i64 (Int.ofNat d)))]
 | 6=>s.tm
 | 7=>s.tm.set 101 L
 | 8=>mkT [(5,.ptr 3 0)]
 | 9=>s.tm.set 108 (.ptr 3 3)
 | _=>.leaf
theorem part41 {F:From} {d i a m:Nat} {k n:Int} {u s:ByteArray} {vs:List Value} {B:Base} (hs:s.size≤1048576) (hd:d≤1000)
  (ih:∀ B,CallG Tryz.prog ctxZ B 41 [.ptr 1 0,.val (.int .i64 (Int.ofNat d))] (mkT [(0,.ro calcAVs),(1,.cells [.val (.string s),.val (.int .i64 (Int.ofNat a)),.bool true] 0)]).get 2
   (fun B' v H n'=>∃ hp,H=T.get hp∧Tooked B s a (tTerm d ((bytesOf s).drop a)) B' v hp n') (fun v H n'=>∃ hp,H=T.get hp∧False))
  {Q:Ex→St→Base→Prop} {N:AV→St→Prop} {ops:Array Oper} (hops:Tryz.f41.body.bind (Code.regOf 29)=some ops)
  (hi:i=0) (hv:vs=[])
  (hQ:∀ s' B',G41 (mkT [(0,.ptr 1 0),(1,.val (.int .i64 (Int.ofNat (d+1)))),(4,.ptr 2 0),(5,.ptr 3 0),(7,.val (.int .i64 (Int.ofNat m))),(8,.val (.int .i64 (Int.ofNat i)))])
   (mkT [(0,.ro calcAVs),(1,.cells [.val (.string s),.val (.int .i64 (Int.ofNat a)),.bool true] 0),(2,.cells [.int .i64 0,.int .i64 0,.str [],.nsl] 0),(3,.cells [.val (.int .i64 k),.val (.int .i64 n),.val (.string u),.nsl] 0)]) false s (Tells B s a (tTerm d ((bytesOf s).drop a))) B vs i
   (fun L=>.cells [.val (.int .i64 k),.val (.int .i64 n),.val (.string u),L] 0) 4 s' B'→Q .normal s' B') :
  CodeF Tryz.prog ctxZ F 110 (.region 29 ops true) (mkS [(0,.ptr 1 0),(1,.val (.int .i64 (Int.ofNat (d+1)))),(4,.ptr 2 0),(5,.ptr 3 0),(7,.val (.int .i64 (Int.ofNat m))),(8,.val (.int .i64 (Int.ofNat i)))]
   [(0,.ro calcAVs),(1,.cells [.val (.string s),.val (.int .i64 (Int.ofNat a)),.bool true] 0),(2,.cells [.int .i64 0,.int .i64 0,.str [],.nsl] 0),(3,.cells [.val (.int .i64 k),.val (.int .i64 n),.val (.string u),.nsl] 0)] 5) B Q N:=by
 cases hops
 refine CodeF.drawQ prog_okZ.mixed (DrawQ.mk' (m:=4) (cl:=[5,6,7,9]) (sp:=spPart) (qv:=qvPart d .nsl) (tq:=tqPart2 d .nsl) ?_ ⟨rfl,rfl⟩ ?_ ?_ ?_ ?_) hQ
 ·rfl
 ·intro k s B' hG i o t ho hq hd
  rcases k with _|_|_|_|k
  ·obtain⟨rfl,rfl⟩:=hG
   rcases i with _|_|_|_|_|_|_|_|_|_|i<;>first|(cases hq;done)|(cases ho;cases hd;rfl)
  ·obtain⟨k,n,u,x,m,c,a2,ok2,_,rfl⟩:=hG
   rcases i with _|_|_|_|_|_|_|_|_|_|i<;>first|(cases hq;done)|(cases ho;cases hd;rfl)
  ·obtain⟨k,n,u,x,m,c,a2,ok2,_,rfl⟩:=hG
   rcases i with _|_|_|_|_|_|_|_|_|_|i<;>first|(cases hq;done)|(cases ho;cases hd;rfl)
  ·obtain⟨k,n,u,x,m,c,a2,ok2,dd,j,_,_,_,rfl⟩:=hG
   rcases i with _|_|_|_|_|_|_|_|_|_|i<;>first|(cases hq;done)|(cases ho;cases hd;rfl)
  ·obtain⟨k,n,u,x,m,c,a2,ok2,dd,j,_,_,_,rfl⟩:=hG
   rcases i with _|_|_|_|_|_|_|_|_|_|i<;>first|(cases hq;done)|(cases ho;cases hd;rfl)
 ·intro k s B' hG i o t v ho hv
  have h0:s.tm.get 0=some (.ptr 1 0)∧s.tm.get 1=some (.val (.int .i64 (Int.ofNat (d+1))))∧s.tm.get 5=some (.ptr 3 0):=by
   rcases k with _|_|_|_|k
   ·obtain⟨rfl,rfl⟩:=hG;exact⟨rfl,rfl,rfl⟩
   ·obtain⟨k,n,u,x,m,c,a2,ok2,_,rfl⟩:=hG;exact⟨rfl,rfl,rfl⟩
   ·obtain⟨k,n,u,x,m,c,a2,ok2,_,rfl⟩:=hG;exact⟨rfl,rfl,rfl⟩
   ·obtain⟨k,n,u,x,m,c,a2,ok2,dd,j,_,_,_,rfl⟩:=hG;exact⟨rfl,rfl,rfl⟩
   ·obtain⟨k,n,u,x,m,c,a2,ok2,dd,j,_,_,_,rfl⟩:=hG;exact⟨rfl,rfl,rfl⟩
  have m1:∀ {a:Nat} {x:AV},(mkT [(a,x)]).get t=some v→t=a∧v=x:=by
   intro a x h
   have:=mkT_get h
   simpa using this
  rcases i with _|_|_|_|_|_|_|_|_|_|i
  ·obtain⟨rfl,rfl⟩:=m1 hv;exact .inl h0.2.2
  ·obtain⟨rfl,rfl⟩:=m1 hv;cases ho;exact .inr ⟨⟨0,.data⟩,by simp,rfl,rfl,_,rfl,rfl,rfl⟩
  ·obtain⟨rfl,rfl⟩:=m1 hv;exact .inl h0.1
  ·obtain⟨rfl,rfl⟩:=m1 hv;exact .inl h0.2.1
  ·obtain⟨rfl,rfl⟩:=m1 hv;cases ho;exact .inr ⟨⟨3,.data⟩,by simp,rfl,rfl,_,rfl,rfl,rfl⟩
  ·have:=mkT_get hv
   simp only [List.mem_cons,Prod.mk.injEq,List.not_mem_nil,or_false] at this
   cases ho
   rcases this with⟨rfl,rfl⟩|⟨rfl,rfl⟩
   ·exact .inr ⟨⟨2,.data⟩,by simp,rfl,rfl,_,rfl,rfl,rfl⟩
   ·exact .inr ⟨⟨4,.data⟩,by simp,rfl,rfl,_,rfl,rfl,rfl⟩
  ·exact .inl hv
  ·simp only [tqPart2,T.get_set] at hv
   split at hv
   ·next e=>subst e;cases hv;cases ho;exact .inr ⟨⟨1,.data⟩,by simp,rfl,rfl,_,rfl,rfl,rfl⟩
   ·exact .inl hv
  ·obtain⟨rfl,rfl⟩:=m1 hv;exact .inl h0.2.2
  ·simp only [tqPart2,T.get_set] at hv
   split at hv
   ·next e=>subst e;cases hv;cases ho;exact .inr ⟨⟨8,.data⟩,by simp,rfl,rfl,_,rfl,rfl,rfl⟩
   ·exact .inl hv
  ·cases hv
 ·intro i o ho hq k s B' hlo hhi hG
  rcases i with _|_|_|_|_|_|_|_|_|_|i
  ·cases ho;exact OpOK.val ctxAt (by rfl) _
  ·cases ho
   rcases k with _|_|_|k
   ·obtain⟨rfl,rfl⟩:=hG;exact OpOK.val ctxAt (by rfl) _
   ·obtain⟨k,n,u,x,m,c,a2,ok2,_,rfl⟩:=hG;exact OpOK.val ctxAt (by rfl) _
   ·obtain⟨k,n,u,x,m,c,a2,ok2,_,rfl⟩:=hG;exact OpOK.val ctxAt (by rfl) _
   ·have:k+3≤2:=hhi
    omega
  ·cases ho;exact OpOK.val ctxAt (by rfl) _
  ·cases ho;exact OpOK.val ctxAt (by rfl) _
  ·cases ho
   suffices h:PureR Tryz.prog (ctxZ.at B') _ (mkT [(103,.val (.int .i64 (Int.ofNat (d+1))))]) (fun v=>v=.val (.int .i64 (Int.ofNat d))) from by
    obtain⟨v,h1,rfl⟩:=h
    exact h1 _ _
   refine pure_by ctxAt (tl:=[(103,.int .i64 (Int.ofNat (d+1)))]) (v:=.int .i64 (Int.ofNat d)) (told_int rfl told_nil) ?_ rfl rfl rfl
   show some (AV.int .i64 (wrapF .i64 (Int.ofNat (d+1) - 1)))=some (AV.int .i64 (Int.ofNat d))
   rw [wrapF_eq,wrap_in (by simp<;>omega) (by simp<;>omega)];simp
  ·cases hq
  ·cases hq
  ·cases hq
  ·cases ho;exact OpOK.val ctxAt (by rfl) _
  ·cases hq
  ·cases hq
 ·rintro(_|_|_|_|k') s' B' hk hG o ho
  ·obtain⟨rfl,rfl⟩:=hG
   cases ho
   refine OpS.call rfl rfl rfl rfl ?_
   refine CallZ.of (tauF []) (n:=2) (l0:=[(0,.ro calcAVs),(1,.cells [.val (.string s),.val (.int .i64 (Int.ofNat a)),.bool true] 0)]) call41 (ih _) hpl rfl rfl rfl (gsT rfl rfl) rfl rfl ?_ (fun _ _ _ h=>h.elim)
   rintro B2 v hp' n' ⟨rfl,a2,ok2,k2,n2,u2,x2,m2,c2,rfl,rfl,ht⟩ _
   refine⟨_,rfl,rfl,?_⟩
   intro hpX hX
   subst hX
   exact⟨k2,n2,u2,x2,m2,c2,a2,ok2,ht,rfl⟩
  ·obtain⟨k2,n2,u2,x2,m2,c2,a2,ok2,ht,rfl⟩:=hG
   cases ho
   exact OpS.new prog_okZ.ctx ctxAt rfl ⟨k2,n2,u2,x2,m2,c2,a2,ok2,ht,rfl⟩
  ·obtain⟨k2,n2,u2,x2,m2,c2,a2,ok2,ht,rfl⟩:=hG
   cases ho
   subst hv hi
   refine OpS.opR (st:=⟨_,_,_,[]⟩) ?_
   refine append_ok (sz:=4) (m:=1) ctxAt rfl rfl rfl rfl rfl rfl rfl rfl rfl rfl (.inl ⟨_,rfl⟩) rfl rfl rfl rfl (by decide) rfl rfl (.inl ⟨rfl,by decide,?_⟩)
   exact⟨k2,n2,u2,x2,m2,c2,a2,ok2,_,1,ht,⟨rfl,rfl⟩,rfl,rfl⟩
  ·obtain⟨k2,n2,u2,x2,m2,c2,a2,ok2,dd,j,ht,h3,h4,rfl⟩:=hG
   cases ho
   refine OpS.op (OpOK.chg (r:=⟨undefA,_,_⟩) ctxAt rfl) ?_
   exact⟨k2,n2,u2,x2,m2,c2,a2,ok2,dd,j,ht,h3,h4,rfl⟩
  ·omega
theorem part41o {F:From} {d i a m:Nat} {k n:Int} {u s:ByteArray} {vs:List Value} {B:Base} (hs:s.size≤1048576) (hd:d≤1000)
  (ih:∀ B,CallG Tryz.prog ctxZ B 41 [.ptr 1 0,.val (.int .i64 (Int.ofNat d))] (mkT [(0,.ro calcAVs),(1,.cells [.val (.string s),.val (.int .i64 (Int.ofNat a)),.bool true] 0)]).get 2
   (fun B' v H n'=>∃ hp,H=T.get hp∧Tooked B s a (tTerm d ((bytesOf s).drop a)) B' v hp n') (fun v H n'=>∃ hp,H=T.get hp∧False))
  {Q:Ex→St→Base→Prop} {N:AV→St→Prop} {ops:Array Oper} (hops:Tryz.f41.body.bind (Code.regOf 29)=some ops)
  {cc:List AV} (hcc:Vs cc vs) (hcl:vs.length=i*4) (hi:i≤2000000)
  (hQ:∀ s' B',G41 (mkT [(0,.ptr 1 0),(1,.val (.int .i64 (Int.ofNat (d+1)))),(4,.ptr 2 0),(5,.ptr 3 0),(7,.val (.int .i64 (Int.ofNat m))),(8,.val (.int .i64 (Int.ofNat i)))])
   (mkT [(0,.ro calcAVs),(1,.cells [.val (.string s),.val (.int .i64 (Int.ofNat a)),.bool true] 0),(2,.cells [.int .i64 0,.int .i64 0,.str [],.nsl] 0),(3,.cells [.val (.int .i64 k),.val (.int .i64 n),.val (.string u),.sl 4 0 i i false 4] 0),(4,.cells cc 0)]) true s (Tells B s a (tTerm d ((bytesOf s).drop a))) B vs i
   (fun L=>.cells [.val (.int .i64 k),.val (.int .i64 n),.val (.string u),L] 0) 4 s' B'→Q .normal s' B') :
  CodeF Tryz.prog ctxZ F 110 (.region 29 ops true) (mkS [(0,.ptr 1 0),(1,.val (.int .i64 (Int.ofNat (d+1)))),(4,.ptr 2 0),(5,.ptr 3 0),(7,.val (.int .i64 (Int.ofNat m))),(8,.val (.int .i64 (Int.ofNat i)))]
   [(0,.ro calcAVs),(1,.cells [.val (.string s),.val (.int .i64 (Int.ofNat a)),.bool true] 0),(2,.cells [.int .i64 0,.int .i64 0,.str [],.nsl] 0),(3,.cells [.val (.int .i64 k),.val (.int .i64 n),.val (.string u),.sl 4 0 i i false 4] 0),(4,.cells cc 0)] 5) B Q N:=by
 cases hops
 refine CodeF.drawQ prog_okZ.mixed (DrawQ.mk' (m:=4) (cl:=[5,6,7,9]) (sp:=spPart) (qv:=qvPart d (.sl 4 0 i i false 4)) (tq:=tqPart2 d (.sl 4 0 i i false 4)) ?_ ⟨rfl,rfl⟩ ?_ ?_ ?_ ?_) hQ
 ·rfl
 ·intro k s B' hG i o t ho hq hd
  rcases k with _|_|_|_|k
  ·obtain⟨rfl,rfl⟩:=hG
   rcases i with _|_|_|_|_|_|_|_|_|_|i<;>first|(cases hq;done)|(cases ho;cases hd;rfl)
  ·obtain⟨k,n,u,x,m,c,a2,ok2,_,rfl⟩:=hG
   rcases i with _|_|_|_|_|_|_|_|_|_|i<;>first|(cases hq;done)|(cases ho;cases hd;rfl)
  ·obtain⟨k,n,u,x,m,c,a2,ok2,_,rfl⟩:=hG
   rcases i with _|_|_|_|_|_|_|_|_|_|i<;>first|(cases hq;done)|(cases ho;cases hd;rfl)
  ·obtain⟨k,n,u,x,m,c,a2,ok2,dd,j,_,_,_,rfl⟩:=hG
   rcases i with _|_|_|_|_|_|_|_|_|_|i<;>first|(cases hq;done)|(cases ho;cases hd;rfl)
  ·obtain⟨k,n,u,x,m,c,a2,ok2,dd,j,_,_,_,rfl⟩:=hG
   rcases i with _|_|_|_|_|_|_|_|_|_|i<;>first|(cases hq;done)|(cases ho;cases hd;rfl)
 ·intro k s B' hG i o t v ho hv
  have h0:s.tm.get 0=some (.ptr 1 0)∧s.tm.get 1=some (.val (.int .i64 (Int.ofNat (d+1))))∧s.tm.get 5=some (.ptr 3 0):=by
   rcases k with _|_|_|_|k
   ·obtain⟨rfl,rfl⟩:=hG;exact⟨rfl,rfl,rfl⟩
   ·obtain⟨k,n,u,x,m,c,a2,ok2,_,rfl⟩:=hG;exact⟨rfl,rfl,rfl⟩
   ·obtain⟨k,n,u,x,m,c,a2,ok2,_,rfl⟩:=hG;exact⟨rfl,rfl,rfl⟩
   ·obtain⟨k,n,u,x,m,c,a2,ok2,dd,j,_,_,_,rfl⟩:=hG;exact⟨rfl,rfl,rfl⟩
   ·obtain⟨k,n,u,x,m,c,a2,ok2,dd,j,_,_,_,rfl⟩:=hG;exact⟨rfl,rfl,rfl⟩
  have m1:∀ {a:Nat} {x:AV},(mkT [(a,x)]).get t=some v→t=a∧v=x:=by
   intro a x h
   have:=mkT_get h
   simpa using this
  rcases i with _|_|_|_|_|_|_|_|_|_|i
  ·obtain⟨rfl,rfl⟩:=m1 hv;exact .inl h0.2.2
  ·obtain⟨rfl,rfl⟩:=m1 hv;cases ho;exact .inr ⟨⟨0,.data⟩,by simp,rfl,rfl,_,rfl,rfl,rfl⟩
  ·obtain⟨rfl,rfl⟩:=m1 hv;exact .inl h0.1
  ·obtain⟨rfl,rfl⟩:=m1 hv;exact .inl h0.2.1
  ·obtain⟨rfl,rfl⟩:=m1 hv;cases ho;exact .inr ⟨⟨3,.data⟩,by simp,rfl,rfl,_,rfl,rfl,rfl⟩
  ·have:=mkT_get hv
   simp only [List.mem_cons,Prod.mk.injEq,List.not_mem_nil,or_false] at this
   cases ho
   rcases this with⟨rfl,rfl⟩|⟨rfl,rfl⟩
   ·exact .inr ⟨⟨2,.data⟩,by simp,rfl,rfl,_,rfl,rfl,rfl⟩
   ·exact .inr ⟨⟨4,.data⟩,by simp,rfl,rfl,_,rfl,rfl,rfl⟩
  ·exact .inl hv
  ·simp only [tqPart2,T.get_set] at hv
   split at hv
   ·next e=>subst e;cases hv;cases ho;exact .inr ⟨⟨1,.data⟩,by simp,rfl,rfl,_,rfl,rfl,rfl⟩
   ·exact .inl hv
  ·obtain⟨rfl,rfl⟩:=m1 hv;exact .inl h0.2.2
  ·simp only [tqPart2,T.get_set] at hv
   split at hv
   ·next e=>subst e;cases hv;cases ho;exact .inr ⟨⟨8,.data⟩,by simp,rfl,rfl,_,rfl,rfl,rfl⟩
   ·exact .inl hv
  ·cases hv
 ·intro i o ho hq k s B' hlo hhi hG
  rcases i with _|_|_|_|_|_|_|_|_|_|i
  ·cases ho;exact OpOK.val ctxAt (by rfl) _
  ·cases ho
   rcases k with _|_|_|k
   ·obtain⟨rfl,rfl⟩:=hG;exact OpOK.val ctxAt (by rfl) _
   ·obtain⟨k,n,u,x,m,c,a2,ok2,_,rfl⟩:=hG;exact OpOK.val ctxAt (by rfl) _
   ·obtain⟨k,n,u,x,m,c,a2,ok2,_,rfl⟩:=hG;exact OpOK.val ctxAt (by rfl) _
   ·have:k+3≤2:=hhi
    omega
  ·cases ho;exact OpOK.val ctxAt (by rfl) _
  ·cases ho;exact OpOK.val ctxAt (by rfl) _
  ·cases ho
   suffices h:PureR Tryz.prog (ctxZ.at B') _ (mkT [(103,.val (.int .i64 (Int.ofNat (d+1))))]) (fun v=>v=.val (.int .i64 (Int.ofNat d))) from by
    obtain⟨v,h1,rfl⟩:=h
    exact h1 _ _
   refine pure_by ctxAt (tl:=[(103,.int .i64 (Int.ofNat (d+1)))]) (v:=.int .i64 (Int.ofNat d)) (told_int rfl told_nil) ?_ rfl rfl rfl
   show some (AV.int .i64 (wrapF .i64 (Int.ofNat (d+1) - 1)))=some (AV.int .i64 (Int.ofNat d))
   rw [wrapF_eq,wrap_in (by simp<;>omega) (by simp<;>omega)];simp
  ·cases hq
  ·cases hq
  ·cases hq
  ·cases ho;exact OpOK.val ctxAt (by rfl) _
  ·cases hq
  ·cases hq
 ·rintro(_|_|_|_|k') s' B' hk hG o ho
  ·obtain⟨rfl,rfl⟩:=hG
   cases ho
   refine OpS.call rfl rfl rfl rfl ?_
   refine CallZ.of (tauF []) (n:=2) (l0:=[(0,.ro calcAVs),(1,.cells [.val (.string s),.val (.int .i64 (Int.ofNat a)),.bool true] 0)]) call41 (ih _) hpl rfl rfl rfl (gsT rfl rfl) rfl rfl ?_ (fun _ _ _ h=>h.elim)
   rintro B2 v hp' n' ⟨rfl,a2,ok2,k2,n2,u2,x2,m2,c2,rfl,rfl,ht⟩ _
   refine⟨_,rfl,rfl,?_⟩
   intro hpX hX
   subst hX
   exact⟨k2,n2,u2,x2,m2,c2,a2,ok2,ht,rfl⟩
  ·obtain⟨k2,n2,u2,x2,m2,c2,a2,ok2,ht,rfl⟩:=hG
   cases ho
   exact OpS.new prog_okZ.ctx ctxAt rfl ⟨k2,n2,u2,x2,m2,c2,a2,ok2,ht,rfl⟩
  ·obtain⟨k2,n2,u2,x2,m2,c2,a2,ok2,ht,rfl⟩:=hG
   cases ho
   refine OpS.opR (st:=⟨_,_,_,[]⟩) ?_
   refine append_ok (sz:=4) (m:=1) ctxAt rfl rfl rfl rfl rfl rfl rfl rfl rfl rfl (.inl ⟨_,rfl⟩) rfl rfl rfl rfl (by decide) rfl rfl (.inr ⟨4,i,cc,rfl,rfl,by rw [hcc.length,hcl],by unfold big;omega,?_⟩)
   exact⟨k2,n2,u2,x2,m2,c2,a2,ok2,_,i+1,ht,hcc.append ⟨rfl,rfl⟩,rfl,rfl⟩
  ·obtain⟨k2,n2,u2,x2,m2,c2,a2,ok2,dd,j,ht,h3,h4,rfl⟩:=hG
   cases ho
   refine OpS.op (OpOK.chg (r:=⟨undefA,_,_⟩) ctxAt rfl) ?_
   exact⟨k2,n2,u2,x2,m2,c2,a2,ok2,dd,j,ht,h3,h4,rfl⟩
  ·omega
end Go.Proofs.YtaacpiniakmpbaaGreatDoor
