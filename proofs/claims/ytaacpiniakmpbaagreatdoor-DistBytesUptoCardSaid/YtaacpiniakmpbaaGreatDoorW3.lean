/- Which messages are valid, as the reference tells it. -/
import Derived.Test.YtaacpiniakmpbaaGreatDoorS5
import Derived.Test.YtaacpiniakmpbaaGreatDoorV4
import Derived.Test.YtaacpiniakmpbaaGreatDoorN
set_option linter.unusedVariables false
set_option linter.unusedSimpArgs false
namespace Ev
open Go
def headS:Code→Code
 | .seq a _=>a
 | c=>c
def thenS:Code→Code
 | .cond _ a _=>a
 | c=>c
theorem CodeP.ifCut {P:Program} {C:Ctx} {nt:Nat} {rd:Option Nat} {r a b rest:Code} {t:Operand} {st:St} {Q:Ex→St→Prop} (s1:St)
  (h1:∀ G:St→Prop,(∀ s,ev C s.tm t=some (.bool true)→Sub s s1→s1.nx=s.nx→s1.df=s.df→G s)→CodeP P C nt rd r st (nextP G Q))
  (h2:∀ Q':Ex→St→Prop,(∀ s,Q .ret s→Q' .ret s)→CodeP P C nt rd a s1 Q'):CodeP P C nt rd (.seq (.seq r (.cond t a b)) rest) st Q:=by
 refine CodeP.seq (CodeP.seq ((h1 (fun s=>CodeP P C nt rd (.cond t a b) s (nextP (fun s=>CodeP P C nt rd rest s Q) Q)) fun s he hs hn hd=>?_).mono fun e s h=>?_))
 ·refine CodeP.cond he (fun q=>?_) (fun q=>by cases q)
  exact(h2 (nextP (fun s=>CodeP P C nt rd rest s Q) Q) fun _ h=>h).pre hs hn hd
 ·cases e with
  | normal=>exact h
  | _=>exact h
def endR (C:Ctx) (fn:Func) (V:Value) (e:Ex) (st:St):Prop:=e=.ret∧st.df=[]∧∃ vs,resA C st fn.results.toList=some vs∧okV (retA vs)=true∧toV (retA vs)=V
theorem CodeP.ifNot {P:Program} {C:Ctx} {nt:Nat} {rd:Option Nat} {r a rest:Code} {t:Operand} {st:St} {Q:Ex→St→Prop} (s1:St)
  (h1:∀ G:St→Prop,(∀ s,ev C s.tm t=some (.bool false)→Sub s s1→s1.nx=s.nx→s1.df=s.df→G s)→CodeP P C nt rd r st (nextP G Q))
  (h2:CodeP P C nt rd rest s1 Q):CodeP P C nt rd (.seq (.seq r (.cond t a .skip)) rest) st Q:=by
 refine CodeP.seq (CodeP.seq ((h1 (fun s=>CodeP P C nt rd (.cond t a .skip) s (nextP (fun s=>CodeP P C nt rd rest s Q) Q)) fun s he hs hn hd=>?_).mono fun e s h=>?_))
 ·exact CodeP.cond he (fun q=>by cases q) (fun q=>.skip (h2.pre hs hn hd))
 ·cases e with
  | normal=>exact h
  | _=>exact h
def condS:Code→Option Operand
 | .seq _ (.cond t _ _)=>some t
 | _=>none
end Ev
namespace Go.Proofs.YtaacpiniakmpbaaGreatDoor
open Go Ev Tryz
set_option maxRecDepth 10000
set_option maxHeartbeats 8000000
set_option linter.unusedSimpArgs false
set_option linter.unusedVariables false
section
variable {w:World}
theorem refValid7 (K o f p:Int) {k n kd:Int} {s:ByteArray} {a:Option Addr} {m c:Nat} {r:Bool} {Q:Ex→St→Prop} {b:Code} (hbd:Tryz.f35.body.map (fun c=>dropS 2 (thenS (dropS 1 (headS (dropS 2 c)))))=some b)
  (hr:r=(decide (kd≠0)&&!atS k s m))
  (hQ:∀ (e:Ex) (st:St),endR (ctxB (hb w)) Tryz.f35 (.bool r) e st→Q e st) :
  CodeP Tryz.prog (ctxB (hb w)) 104 none b (mkS [(1,.ptr 1 0),(3,.val (.int .i64 kd))] [(0,.ro calcAVs),(1,.cells [.val (.int .i64 K),.val (.int .i64 o),.val (.int .i64 f),.val (.int .i64 p),.val (.int .i64 k),.val (.int .i64 n),.val (.string s),.val (.slice a m c)] 0)] 3) Q:=by
 cases hbd
 refine .sy (prog_okB _) ?_
 intro _ _ _ _ _ _ _ _ _ _ _ _ _ _ Hc Hs Ha Hw Hd Ho Hl Hn Hi Hk Hv Hz Hr Hx
 cbv
 repeat'(first|((with_reducible refine hQ _ _ ?_);refine⟨rfl,rfl,_,rfl,rfl,?_⟩)|((with_reducible first|refine Hc _ _ _ _ ?_|refine Hs _ _ _ _ ?_);rintro(_|_) hq0<;>cbv)|((with_reducible first|refine Ha _ _ _ _ _ ?_|refine Hw _ _ _ ?_);intro _ hn;cbv)|((with_reducible refine Hn _ _ _ ?_);(first|refine len_sl rfl rfl ?_|(refine len_st ?_;intro _ hm));cbv))
 all_goals(clear Hc Hs Ha Hw Hd Ho Hl Hn Hi Hk Hv Hz Hr Hx;clear hQ;simp only [toV,toVs,retA,Value.bool.injEq,SB.bytes,atS] at *;grind [cmp0,scmp0,bytesEq_iff])
theorem refValid4 (hE:Env w) (K o f p:Int) {k n kd pr k' n':Int} {s s':ByteArray} {l:List Tm} {a a':Option Addr} {m c m' c':Nat} {r:Bool} {Q:Ex→St→Prop} {b:Code} (hbd:Tryz.f35.body.map (fun c=>thenS (dropS 1 (headS (dropS 2 c))))=some b)
  (hz:tsz (.mk k n s l)≤1048576) (ht:TmAt (hb w) (.mk k n s l) [.int .i64 k,.int .i64 n,.string s,.slice a m c])
  (hkd:isS (.mk k n s l)=true→atS k s m=false→kd=plainS k s m) (hgoal:∀ w2,Ext (ctxB (hb w)) w2→Ret Tryz.prog 74 #[.agg #[.int .i64 k,.int .i64 n,.string s,.slice a m c]] w2 (.tuple #[.int .i64 kd,.int .i64 pr,.agg #[.int .i64 k',.int .i64 n',.string s',.slice a' m' c']]))
  (hr:r=(decide (-1≤f∧f<o∧0≤p∧p≤15∧isS (.mk k n s l)=true)&&(decide (plainS k s m≠0)&&!atS k s m)))
  (hQ:∀ (e:Ex) (st:St),endR (ctxB (hb w)) Tryz.f35 (.bool r) e st→Q e st) :
  CodeP Tryz.prog (ctxB (hb w)) 104 none b (mkS [(1,.ptr 1 0)] [(0,.ro calcAVs),(1,.cells [.val (.int .i64 K),.val (.int .i64 o),.val (.int .i64 f),.val (.int .i64 p),.val (.int .i64 k),.val (.int .i64 n),.val (.string s),.val (.slice a m c)] 0)] 2) Q:=by
 cases hbd
 refine .syCut 2 (prog_okB _) ?_
 intro _ _ _ _ _ _ _ _ _ _ _ _ _ _ Hc Hs Ha Hw Hd Ho Hl Hn Hi Hk Hv Hz Hr Hx G hG
 cbv
 repeat'(first|((with_reducible refine hQ _ _ ?_);refine⟨rfl,rfl,_,rfl,rfl,?_⟩)|((with_reducible first|refine Hc _ _ _ _ ?_|refine Hs _ _ _ _ ?_);rintro(_|_) hq0<;>cbv)|((with_reducible first|refine Ha _ _ _ _ _ ?_|refine Hw _ _ _ ?_);intro _ hn;cbv)|((with_reducible refine Hn _ _ _ ?_);(first|refine len_sl rfl rfl ?_|(refine len_st ?_;intro _ hm));cbv)|((with_reducible refine Hk 73 _ _ _ _ ?_);refine callIn _ call73 rfl (fun w2 hx=>refCheck_ret (hE.ext hx) hz (ht.mono (ext_hb hx))) ?_;intro u hu;cbv)|((with_reducible refine Hk 74 _ _ _ _ ?_);refine callGn () (fun _=>.tup [.val (.int .i64 kd),.val (.int .i64 pr),.agg [.val (.int .i64 k'),.val (.int .i64 n'),.val (.string s'),.val (.slice a' m' c')] ]) call74 rfl (fun _=>rfl) (fun w2 hx=>hgoal w2 hx) ?_;intro _ _;cbv)|((with_reducible refine hG _ (mkS [(1,.ptr 1 0),(3,.val (.int .i64 kd))] [(0,.ro calcAVs),(1,.cells [.val (.int .i64 K),.val (.int .i64 o),.val (.int .i64 f),.val (.int .i64 p),.val (.int .i64 k),.val (.int .i64 n),.val (.string s),.val (.slice a m c)] 0)] 3) ?_ rfl rfl (refValid7 K o f p rfl ?_ hQ));exact(sub_mk sbt sbh)))
 all_goals(clear Hc Hs Ha Hw Hd Ho Hl Hn Hi Hk Hv Hz Hr Hx;clear hQ hG hgoal;simp only [toV,toVs,retA,Value.bool.injEq,SB.bytes] at *;cases hA:atS k s m<;>cases hI:isS (.mk k n s l)<;>simp only [hA,hI,forall_const,Bool.false_eq_true,if_true,if_false,Bool.not_true,Bool.not_false,Bool.and_true,Bool.and_false] at *<;>grind [cmp0,scmp0,bytesEq_iff])
theorem refValid3 (K o f p:Int) {k n:Int} {s:ByteArray} {a:Option Addr} {m c:Nat} {Q:Ex→St→Prop} {b:Code} {t:Operand} (v:Bool) (hv:decide (K=1)=v)
  (hbd:Tryz.f35.body.map (fun c=>headS (headS (dropS 2 c)))=some b) (htd:Tryz.f35.body.bind (fun c=>condS (headS (dropS 2 c)))=some t) {G:St→Prop}
  (hG:∀ u,ev (ctxB (hb w)) u.tm t=some (.bool v)→Sub u (mkS [(1,.ptr 1 0)] [(0,.ro calcAVs),(1,.cells [.val (.int .i64 K),.val (.int .i64 o),.val (.int .i64 f),.val (.int .i64 p),.val (.int .i64 k),.val (.int .i64 n),.val (.string s),.val (.slice a m c)] 0)] 2)→(mkS [(1,.ptr 1 0)] [(0,.ro calcAVs),(1,.cells [.val (.int .i64 K),.val (.int .i64 o),.val (.int .i64 f),.val (.int .i64 p),.val (.int .i64 k),.val (.int .i64 n),.val (.string s),.val (.slice a m c)] 0)] 2).nx=u.nx→(mkS [(1,.ptr 1 0)] [(0,.ro calcAVs),(1,.cells [.val (.int .i64 K),.val (.int .i64 o),.val (.int .i64 f),.val (.int .i64 p),.val (.int .i64 k),.val (.int .i64 n),.val (.string s),.val (.slice a m c)] 0)] 2).df=u.df→G u) :
  CodeP Tryz.prog (ctxB (hb w)) 104 none b (mkS [(1,.ptr 1 0)] [(0,.ro calcAVs),(1,.cells [.val (.int .i64 K),.val (.int .i64 o),.val (.int .i64 f),.val (.int .i64 p),.val (.int .i64 k),.val (.int .i64 n),.val (.string s),.val (.slice a m c)] 0)] 2) (nextP G Q):=by
 cases hbd
 cases htd
 refine .sy (prog_okB _) ?_
 intro _ _ _ _ _ _ _ _ _ _ _ _ _ _ Hc Hs Ha Hw Hd Ho Hl Hn Hi Hk Hv Hz Hr Hx
 cbv
 refine Hc _ _ _ _ ?_
 rintro(_|_) hq0<;>cbv
 all_goals(clear Hc Hs Ha Hw Hd Ho Hl Hn Hi Hk Hv Hz Hr Hx;refine hG _ ?_ (sub_mk sbt sbh) rfl rfl;rw [← hv];simp only [cmp0] at hq0;first|(show some (AV.bool true)=_;rw [hq0])|(show some (AV.bool false)=_;rw [hq0]))
theorem refValid8 (hE:Env w) (K o f p:Int) {k n:Int} {s:ByteArray} {l:List Tm} {a:Option Addr} {m c:Nat} {r:Bool} {Q:Ex→St→Prop} {b:Code} (hbd:Tryz.f35.body.map (dropS 3)=some b)
  (hz:tsz (.mk k n s l)≤1048576) (ht:TmAt (hb w) (.mk k n s l) [.int .i64 k,.int .i64 n,.string s,.slice a m c])
  (hr:r=(decide (2≤K∧K≤4∧o<100000∧f=0∧p=0)&&(if K=3 then sameT (.mk k n s l) zeroT else isS (.mk k n s l))))
  (hQ:∀ (e:Ex) (st:St),endV (ctxB (hb w)) Tryz.f35 (.bool r) e st→Q e st) :
  CodeP Tryz.prog (ctxB (hb w)) 104 none b (mkS [(1,.ptr 1 0)] [(0,.ro calcAVs),(1,.cells [.val (.int .i64 K),.val (.int .i64 o),.val (.int .i64 f),.val (.int .i64 p),.val (.int .i64 k),.val (.int .i64 n),.val (.string s),.val (.slice a m c)] 0)] 2) Q:=by
 have hm:m=l.length:=ht.out2
 cases hbd
 refine .sy (prog_okB _) ?_
 intro _ _ _ _ _ _ _ _ _ _ _ _ _ _ Hc Hs Ha Hw Hd Ho Hl Hn Hi Hk Hv Hz Hr Hx
 cbv
 repeat'(first|((with_reducible refine hQ _ _ ?_);refine⟨rfl,rfl,_,rfl,rfl,?_⟩)|((with_reducible first|refine Hc _ _ _ _ ?_|refine Hs _ _ _ _ ?_);rintro(_|_) hq0<;>cbv)|((with_reducible first|refine Ha _ _ _ _ _ ?_|refine Hw _ _ _ ?_);intro _ hn;cbv)|((with_reducible refine Hn _ _ _ ?_);(first|refine len_sl rfl rfl ?_|(refine len_st ?_;intro _ hm));cbv)|((with_reducible refine Hk 73 _ _ _ _ ?_);refine callIn _ call73 rfl (fun w2 hx=>refCheck_ret (hE.ext hx) hz (ht.mono (ext_hb hx))) ?_;intro u hu;cbv)|((with_reducible refine Hk 75 _ _ _ _ ?_);refine callBo _ call75 rfl (fun w2 hx=>empty_ret (hE.ext hx) hm) ?_;rintro(_|_) hu<;>cbv))
 all_goals(clear Hc Hs Ha Hw Hd Ho Hl Hn Hi Hk Hv Hz Hr Hx;clear hQ;simp only [toV,toVs,retA,Value.bool.injEq,SB.bytes] at *;cases hI:isS (.mk k n s l)<;>simp only [hI,if_true,if_false,Bool.false_eq_true] at *<;>grind [cmp0,scmp0,bytesEq_iff])
theorem refValid_ret (hE:Env w) (K o f p:Int) {k n:Int} {s:ByteArray} {l:List Tm} {a:Option Addr} {m c:Nat} (hz:tsz (.mk k n s l)≤1048576) (ht:TmAt (hb w) (.mk k n s l) [.int .i64 k,.int .i64 n,.string s,.slice a m c]) :
  Ret Tryz.prog 35 #[.agg #[.int .i64 K,.int .i64 o,.int .i64 f,.int .i64 p,.int .i64 k,.int .i64 n,.string s,.slice a m c]] w (.bool (validS (.mk K o f p (.mk k n s l)))):=by
 obtain⟨kd,pr,k',n',s',a',m',c',hkd,hgoal⟩:=refGoal_ret hE hz ht
 have hm:m=l.length:=ht.out2
 obtain⟨r,hr⟩:∃ r,r=validS (.mk K o f p (.mk k n s l)):=⟨_,rfl⟩
 rw [← hr]
 rw [validS,goalS,← hm] at hr
 have two:0≤o→o≤2147483647→∀ (Q:Ex→St→Prop) (b:Code),Tryz.f35.body.map (dropS 2)=some b→(∀ (e:Ex) (st:St),endV (ctxB (hb w)) Tryz.f35 (.bool r) e st→Q e st) →
   CodeP Tryz.prog (ctxB (hb w)) 104 none b (mkS [(1,.ptr 1 0)] [(0,.ro calcAVs),(1,.cells [.val (.int .i64 K),.val (.int .i64 o),.val (.int .i64 f),.val (.int .i64 p),.val (.int .i64 k),.val (.int .i64 n),.val (.string s),.val (.slice a m c)] 0)] 2) Q:=by
  intro ho1 ho2 Q b hbd hQ
  cases hbd
  by_cases hK:K=1
  ·refine CodeP.ifCut (mkS [(1,.ptr 1 0)] [(0,.ro calcAVs),(1,.cells [.val (.int .i64 K),.val (.int .i64 o),.val (.int .i64 f),.val (.int .i64 p),.val (.int .i64 k),.val (.int .i64 n),.val (.string s),.val (.slice a m c)] 0)] 2) (fun G hG=>refValid3 K o f p true (decide_eq_true hK) rfl rfl hG) fun Q' hQ'=>refValid4 (r:=r) hE K o f p rfl hz ht hkd hgoal ?_ fun e st he=>?_
   ·rw [hr]
    simp only [hK,ho1,ho2]
    cases isS (.mk k n s l)<;>cases atS k s m<;>simp [and_assoc,Bool.and_assoc]
   ·obtain⟨rfl,h2⟩:=he
    exact hQ' _ (hQ _ _ ⟨rfl,h2⟩)
  ·refine CodeP.ifNot (mkS [(1,.ptr 1 0)] [(0,.ro calcAVs),(1,.cells [.val (.int .i64 K),.val (.int .i64 o),.val (.int .i64 f),.val (.int .i64 p),.val (.int .i64 k),.val (.int .i64 n),.val (.string s),.val (.slice a m c)] 0)] 2) (fun G hG=>refValid3 K o f p false (decide_eq_false hK) rfl rfl hG) (refValid8 (r:=r) hE K o f p rfl hz ht ?_ hQ)
   rw [hr]
   have h1:(1≤K)=(2≤K):=propext ⟨fun h=>by omega,fun h=>by omega⟩
   simp only [hK,ho1,ho2,h1,if_false]
   cases (if K=3 then sameT (.mk k n s l) zeroT else isS (.mk k n s l))<;>simp [and_assoc,Bool.and_assoc]
 refine ret_of hE func35 rfl [.agg [.val (.int .i64 K),.val (.int .i64 o),.val (.int .i64 f),.val (.int .i64 p),.val (.int .i64 k),.val (.int .i64 n),.val (.string s),.val (.slice a m c)]] rfl fun Q hQ=>?_
 refine .syCut 2 (prog_okB _) ?_
 intro _ _ _ _ _ _ _ _ _ _ _ _ _ _ Hc Hs Ha Hw Hd Ho Hl Hn Hi Hk Hv Hz Hr Hx G hG
 cbv
 repeat'(first|((with_reducible refine hQ _ _ ?_);refine⟨rfl,rfl,_,rfl,rfl,?_⟩)|((with_reducible first|refine Hc _ _ _ _ ?_|refine Hs _ _ _ _ ?_);rintro(_|_) hq0<;>cbv)|((with_reducible first|refine Ha _ _ _ _ _ ?_|refine Hw _ _ _ ?_);intro _ hn;cbv)|((with_reducible refine Hn _ _ _ ?_);(first|refine len_sl rfl rfl ?_|(refine len_st ?_;intro _ hm));cbv)|((with_reducible refine hG _ (mkS [(1,.ptr 1 0)] [(0,.ro calcAVs),(1,.cells [.val (.int .i64 K),.val (.int .i64 o),.val (.int .i64 f),.val (.int .i64 p),.val (.int .i64 k),.val (.int .i64 n),.val (.string s),.val (.slice a m c)] 0)] 2) ?_ rfl rfl ?_);(exact(sub_mk sbt sbh));refine two ?_ ?_ Q _ rfl hQ))
 all_goals(clear Hc Hs Ha Hw Hd Ho Hl Hn Hi Hk Hv Hz Hr Hx;clear hQ hG hgoal two;(try simp only [toV,toVs,retA,Value.bool.injEq,SB.bytes] at *);grind [cmp0,scmp0])
end
end Go.Proofs.YtaacpiniakmpbaaGreatDoor
