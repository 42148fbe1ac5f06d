/- The seat's functions over inputs that are not told: how they are entered; terms in memory. -/
import Derived.Test.YtaacpiniakmpbaaGreatDoorH
import Derived.Test.YtaacpiniakmpbaaGreatDoorJ
namespace Go.Proofs.YtaacpiniakmpbaaGreatDoor
open Go Ev Tryz
set_option linter.unusedSimpArgs false
set_option linter.unusedVariables false
def hb (w:World):Nat→Option Go.Obj:=fun k=>w.heap[k]?
noncomputable def ttG:T TI :=
 (.node (.node (.node (.node (.node .leaf none (.node .leaf none (.node .leaf none (.node (.node .leaf (some ti367) .leaf) none .leaf)))) none (.node (.node (.node (.node (.node .leaf (some ti263) .leaf) none .leaf) none .leaf) none .leaf) none (.node (.node .leaf (some ti87) .leaf) none .leaf))) (some ti3) (.node (.node .leaf none (.node (.node .leaf (some ti83) .leaf) none .leaf)) none (.node .leaf none (.node (.node (.node .leaf (some ti155) .leaf) none .leaf) none .leaf)))) none (.node (.node .leaf (some ti9) (.node (.node .leaf none (.node .leaf none (.node .leaf none (.node .leaf (some ti489) .leaf)))) none .leaf)) (some ti5) (.node (.node .leaf (some ti21) (.node (.node .leaf (some ti85) .leaf) none .leaf)) none (.node (.node (.node .leaf (some ti77) .leaf) none .leaf) (some ti29) (.node .leaf none (.node .leaf none (.node .leaf (some ti253) .leaf))))))) none (.node (.node (.node (.node .leaf none (.node .leaf none (.node (.node .leaf (some ti176) .leaf) none (.node (.node .leaf (some ti368) .leaf) none .leaf)))) none (.node .leaf (some ti24) (.node (.node .leaf (some ti88) .leaf) none .leaf))) (some ti4) (.node (.node .leaf (some ti20) .leaf) none (.node (.node (.node .leaf (some ti76) .leaf) none (.node (.node (.node (.node .leaf (some ti556) .leaf) none .leaf) none .leaf) none .leaf)) none .leaf))) none (.node (.node (.node .leaf none (.node .leaf none (.node (.node .leaf none (.node .leaf (some ti434) .leaf)) none .leaf))) none (.node .leaf (some ti26) (.node (.node .leaf (some ti90) .leaf) none .leaf))) none (.node (.node (.node .leaf (some ti38) .leaf) (some ti22) .leaf) none .leaf))))
theorem ttG_ok:AllAt (fun t ti=>TIok Tryz.prog t ti) ttG (fun n=>n) :=
 (.none (.none (.one 3 rfl tk3 (.none (.none .nil (.none .nil (.none .nil (.none (.one 367 rfl tk367 .nil .nil) .nil)))) (.none (.none (.none (.none (.one 263 rfl tk263 .nil .nil) .nil) .nil) .nil) (.none (.one 87 rfl tk87 .nil .nil) .nil))) (.none (.none .nil (.none (.one 83 rfl tk83 .nil .nil) .nil)) (.none .nil (.none (.none (.one 155 rfl tk155 .nil .nil) .nil) .nil)))) (.one 5 rfl tk5 (.one 9 rfl tk9 .nil (.none (.none .nil (.none .nil (.none .nil (.one 489 rfl tk489 .nil .nil)))) .nil)) (.none (.one 21 rfl tk21 .nil (.none (.one 85 rfl tk85 .nil .nil) .nil)) (.one 29 rfl tk29 (.none (.one 77 rfl tk77 .nil .nil) .nil) (.none .nil (.none .nil (.one 253 rfl tk253 .nil .nil))))))) (.none (.one 4 rfl tk4 (.none (.none .nil (.none .nil (.none (.one 176 rfl tk176 .nil .nil) (.none (.one 368 rfl tk368 .nil .nil) .nil)))) (.one 24 rfl tk24 .nil (.none (.one 88 rfl tk88 .nil .nil) .nil))) (.none (.one 20 rfl tk20 .nil .nil) (.none (.none (.one 76 rfl tk76 .nil .nil) (.none (.none (.none (.one 556 rfl tk556 .nil .nil) .nil) .nil) .nil)) .nil))) (.none (.none (.none .nil (.none .nil (.none (.none .nil (.one 434 rfl tk434 .nil .nil)) .nil))) (.one 26 rfl tk26 .nil (.none (.one 90 rfl tk90 .nil .nil) .nil))) (.none (.one 22 rfl tk22 (.one 38 rfl tk38 .nil .nil) .nil) .nil))))
noncomputable def ctxB (B:Nat→Option Go.Obj):Ctx:=⟨ttG,.leaf,fun _=>false,fun _=>false,B⟩
theorem prog_okB (B:Nat→Option Go.Obj):ProgOk Tryz.prog (ctxB B):=⟨fun t ti h=>ttG_ok.get t ti h,prog_ok.mixed,fun f fn h=>by simp [ctxB] at h⟩
def calcVals:Array Value:=#[.string ⟨#[43]⟩,.string ⟨#[45]⟩,.string ⟨#[42]⟩,.string ⟨#[47]⟩,.string ⟨#[109,111,100]⟩,.string ⟨#[45]⟩]
def calcAVs:List AV:=[.str [43],.str [45],.str [42],.str [47],.str [109,111,100],.str [45]]
noncomputable def H0:T Ev.Obj:=.node .leaf (some (Ev.Obj.ro calcAVs)) .leaf
def φ0:Phi:=fun i=>if i=0 then some (.cells 1 0 6) else none
def Env (w:World):Prop:=∃ e,w.heap[1]?=some (.cells calcVals e)
theorem H0_get (i:Nat):H0.get i=if i=0 then some (Ev.Obj.ro calcAVs) else none:=by
 cases i with
 | zero=>rfl
 | succ n=>show(T.get _ (n+1))=_;unfold H0;rw [T.get_succ];simp
theorem init_of {w:World} (h:Env w):Init (ctxB (hb w)) H0 1 φ0 w:=by
 obtain⟨e,h⟩:=h
 have hlt:1<w.heap.size:=(Array.getElem?_eq_some_iff.1 h).1
 have hφ:∀ i l,φ0 i=some l→i=0∧l=.cells 1 0 6:=by
  intro i l hi
  simp only [φ0] at hi
  split at hi
  ·next e0=>cases hi;exact⟨e0,rfl⟩
  ·cases hi
 have hH:∀ i ob,H0.get i=some ob→i=0∧ob=.ro calcAVs:=by
  intro i ob hi
  rw [H0_get] at hi
  split at hi
  ·next e0=>cases hi;exact⟨e0,rfl⟩
  ·cases hi
 have hcell:∀ (j:Nat) (v:AV),calcAVs[j]?=some v→∃ v',w.cell? ⟨1,0+j,none⟩=some v'∧VRel φ0 v v':=by
  intro j v hj
  have hc:∀ (x:Value),calcVals[j]?=some x→w.cell? ⟨1,0+j,none⟩=some x:=fun x hx=>by
   simp only [World.cell?,h,Nat.zero_add]
   simpa using hx
  match j,hj with
  | 0,hj=>cases hj;exact⟨_,hc _ rfl,.str ⟨#[43]⟩⟩
  | 1,hj=>cases hj;exact⟨_,hc _ rfl,.str ⟨#[45]⟩⟩
  | 2,hj=>cases hj;exact⟨_,hc _ rfl,.str ⟨#[42]⟩⟩
  | 3,hj=>cases hj;exact⟨_,hc _ rfl,.str ⟨#[47]⟩⟩
  | 4,hj=>cases hj;exact⟨_,hc _ rfl,.str ⟨#[109,111,100]⟩⟩
  | 5,hj=>cases hj;exact⟨_,hc _ rfl,.str ⟨#[45]⟩⟩
  | j+6,hj=>simp [calcAVs] at hj
 have hown:∀ k,¬ OwnB φ0 H0.get k:=by
  rintro k ⟨i,ob,l,h1,h2,_,_⟩
  obtain⟨_,rfl⟩:=hH i ob h1
  cases h2
 refine⟨⟨fun i l hi=>?_,fun i b o N hi=>?_,fun i ob hi=>?_,fun i j a b l m hi hj hne ho hl hm=>?_⟩,⟨fun g hg=>?_,fun k o hk=>⟨hk,hown k⟩⟩,hown⟩
 ·obtain⟨rfl,rfl⟩:=hφ i l hi;exact⟨Nat.zero_lt_one,hlt⟩
 ·obtain⟨rfl,h1⟩:=hφ i _ hi
  cases h1
  exact⟨e,by simp only [World.shape?,h];rfl⟩
 ·obtain⟨rfl,rfl⟩:=hH i ob hi
  exact⟨_,rfl,.ro (by decide) hcell⟩
 ·obtain⟨_,rfl⟩:=hH i a hi;cases ho
 ·have hq:false=true:=hg
  cases hq
theorem ret_of {f:FuncId} {fn:Func} {body:Code} {w:World} (hE:Env w) (hft:Tryz.prog.funcs[f]?=some fn) (hbd:fn.body=some body) (args:List AV) {V:Value} (ha:okVs args=true)
  (h:∀ Q:Ex→St→Prop,(∀ e st,endV (ctxB (hb w)) fn V e st→Q e st)→CodeP Tryz.prog (ctxB (hb w)) (maxA args.length fn.ntmps) none body ⟨argA args 0 .leaf,H0,1,[]⟩ Q):Ret Tryz.prog f (toVs args).toArray w V :=
 .of_code (prog_okB _) hft hbd (init_of hE) ha h
def sb (l:List Nat):ByteArray:=⟨(l.map UInt8.ofNat).toArray⟩
theorem Env.ext {w w':World} (h:Env w) (hx:Ext (ctxB (hb w)) w'):Env w':=let ⟨e,h⟩:=h;⟨e,hx 1 _ h⟩
inductive Tm where
 | mk (k n:Int) (s:ByteArray) (l:List Tm)
mutual
def tsz:Tm→Nat
 | .mk _ _ _ l=>tszs l+1
def tszs:List Tm→Nat
 | []=>0
 | t::r=>tsz t+tszs r
end
theorem tsz_mem:∀ {l:List Tm} {i:Nat} {t:Tm},l[i]?=some t→tsz t≤tszs l
 | [],i,t,h=>by simp at h
 | x::l,0,t,h=>by simp at h;subst h;unfold tszs;omega
 | x::l,i+1,t,h=>by have:=tsz_mem (l:=l) (i:=i) (t:=t) (by simpa using h);unfold tszs;omega
mutual
def TmAt (B:Nat→Option Go.Obj):Tm→List Value→Prop
 | .mk k n s l,cs=>∃ a m c,cs=[.int .i64 k,.int .i64 n,.string s,.slice a m c]∧s.size≤1048576∧m=l.length∧m≤1048576∧(l=[]∨∃ b off,a=some ⟨b,off,none⟩∧ElAt B b off l)
def ElAt (B:Nat→Option Go.Obj) (b:Nat):Nat→List Tm→Prop
 | _,[]=>True
 | off,t::r=>(∃ cs,CellsB B ⟨b,off,none⟩ cs∧TmAt B t cs)∧ElAt B b (off+4) r
end
def TmsAt (B:Nat→Option Go.Obj) (l:List Tm) (a:Option Addr) (m:Nat):Prop:=m=l.length∧m≤1048576∧(l=[]∨∃ b off,a=some ⟨b,off,none⟩∧ElAt B b off l)
theorem TmAt.out {B:Nat→Option Go.Obj} {k n:Int} {s:ByteArray} {l:List Tm} {cs:List Value} (h:TmAt B (.mk k n s l) cs):∃ a m c,cs=[.int .i64 k,.int .i64 n,.string s,.slice a m c]∧TmsAt B l a m:=by
 unfold TmAt at h;exact let ⟨a,m,c,h1,_,h2⟩:=h;⟨a,m,c,h1,h2⟩
theorem TmAt.sz {B:Nat→Option Go.Obj} {k n:Int} {s:ByteArray} {l:List Tm} {cs:List Value} (h:TmAt B (.mk k n s l) cs):s.size≤1048576:=by
 unfold TmAt at h;exact let ⟨_,_,_,_,h1,_⟩:=h;h1
theorem TmAt.mk' {B:Nat→Option Go.Obj} {k n:Int} {s:ByteArray} {l:List Tm} {a:Option Addr} {m c:Nat} (h:TmsAt B l a m) (hs:s.size≤1048576):TmAt B (.mk k n s l) [.int .i64 k,.int .i64 n,.string s,.slice a m c]:=by
 unfold TmAt;exact⟨a,m,c,rfl,hs,h⟩
theorem CellsB.mono {B B':Nat→Option Go.Obj} (hm:∀ k o,B k=some o→B' k=some o) {p:Addr} {cs:List Value} (h:CellsB B p cs):CellsB B' p cs :=
 let ⟨h1,arr,e,fz,h2,h3⟩:=h;⟨h1,arr,e,fz,hm _ _ h2,h3⟩
mutual
theorem TmAt.mono {B B':Nat→Option Go.Obj} (hm:∀ k o,B k=some o→B' k=some o):∀ {t:Tm} {cs:List Value},TmAt B t cs→TmAt B' t cs
 | .mk k n s l,cs,h=>by
  unfold TmAt at h ⊢
  obtain⟨a,m,c,h1,h5,h3,h4,h2⟩:=h
  refine⟨a,m,c,h1,h5,h3,h4,?_⟩
  rcases h2 with h2|⟨b,off,h2,h3⟩
  ·exact .inl h2
  ·exact .inr ⟨b,off,h2,ElAt.mono hm h3⟩
theorem ElAt.mono {B B':Nat→Option Go.Obj} (hm:∀ k o,B k=some o→B' k=some o):∀ {b off:Nat} {l:List Tm},ElAt B b off l→ElAt B' b off l
 | _,_,[],_=>by unfold ElAt;trivial
 | b,off,t::r,h=>by
  unfold ElAt at h ⊢
  obtain⟨⟨cs,h1,h2⟩,h3⟩:=h
  exact⟨⟨cs,CellsB.mono hm h1,TmAt.mono hm h2⟩,ElAt.mono hm h3⟩
end
theorem TmsAt.mono {B B':Nat→Option Go.Obj} (hm:∀ k o,B k=some o→B' k=some o) {l:List Tm} {a:Option Addr} {m:Nat} (h:TmsAt B l a m):TmsAt B' l a m :=
 ⟨h.1,h.2.1,h.2.2.imp id fun⟨b,off,h1,h2⟩=>⟨b,off,h1,ElAt.mono hm h2⟩⟩
theorem ext_hb {w w':World} (h:Ext (ctxB (hb w)) w'):∀ k o,hb w k=some o→hb w' k=some o:=h
theorem ElAt.get {B:Nat→Option Go.Obj} {b:Nat}:∀ {l:List Tm} {off:Nat},ElAt B b off l→∀ (i:Nat) (t:Tm),l[i]?=some t→∃ cs,CellsB B ⟨b,off+i*4,none⟩ cs∧TmAt B t cs
 | [],_,_,i,t,ht=>by simp at ht
 | x::l,off,h,i,t,ht=>by
  unfold ElAt at h
  cases i with
  | zero=>simp at ht;subst ht;simpa using h.1
  | succ i =>
   have:=ElAt.get h.2 i t (by simpa using ht)
   rwa [show off+4+i*4=off+(i+1)*4 by omega] at this
theorem idx_tm {B:Nat→Option Go.Obj} {l:List Tm} {a:Option Addr} {m:Nat} (h:TmsAt B l a m) {i:Nat} (hi:i<m) {c:Nat} {K:AV→Prop}
  (hK:∀ p t cs,l[i]?=some t→CellsB B p cs→TmAt B t cs→K (.val (.pointer (some p)))):IndexR (ctxB B) 22 (.slice a m c) (Int.ofNat i) K:=by
 obtain⟨rfl,_,h⟩:=h
 rcases h with rfl|⟨b,off,rfl,h⟩
 ·simp at hi
 ·have ht:=List.getElem?_eq_getElem hi
  obtain⟨cs,h1,h2⟩:=h.get i _ ht
  exact⟨_,_,_,b,off,_,c,i,rfl,rfl,rfl,rfl,rfl,hi,hK _ _ cs ht h1 h2⟩
theorem drop_get {α:Type} {l:List α} {i:Nat} {x:α} (h:l[i]?=some x):l.drop i=x::l.drop (i+1):=by
 obtain⟨h1,h2⟩:=List.getElem?_eq_some_iff.1 h
 rw [List.drop_eq_getElem_cons h1,h2]
theorem load_tm {B:Nat→Option Go.Obj} {p:Addr} {t:Tm} {cs:List Value} (hc:CellsB B p cs) (ht:TmAt B t cs) {K:AV→Prop} (hK:K (.agg (cs.map .val))):LoadR (ctxB B) 24 p K:=by
 obtain⟨k,n,s,l⟩:=t
 obtain⟨a,m,c,rfl,_⟩:=ht.out
 exact⟨_,_,rfl,hc,.inl ⟨rfl,rfl,rfl,hK⟩⟩
theorem len_sl {B:Nat→Option Go.Obj} {t e n c:Nat} {a:Option Addr} {ti:TI} (ht:ttG.get t=some ti) (hk:ti.k=.sl e) {K:AV→Prop} (hK:K (.val (.int .i64 (Int.ofNat n)))):LenR (ctxB B) t (.slice a n c) K :=
 ⟨ti,ht,.inl ⟨e,a,n,c,hk,rfl,hK⟩⟩
theorem len_st {B:Nat→Option Go.Obj} {s:ByteArray} {K:AV→Prop} (hK:∀ m,m=s.size→K (.val (.int .i64 (Int.ofNat m)))):LenR (ctxB B) 9 (.string s) K:=⟨_,rfl,.inr ⟨rfl,s,rfl,hK _ rfl⟩⟩
end Go.Proofs.YtaacpiniakmpbaaGreatDoor
namespace Go.Proofs.YtaacpiniakmpbaaGreatDoor
open Go Ev Tryz
set_option linter.unusedSimpArgs false
set_option linter.unusedVariables false
set_option maxHeartbeats 4000000
set_option maxRecDepth 10000
section
variable {w:World}
def isAtomS (k:Int) (s u:ByteArray):Bool:=decide (k=3)&&decide (bytesOf s=bytesOf u)
theorem isAtom_ret (hE:Env w) (k n:Int) (s:ByteArray) (a:Option Addr) (m c:Nat) (u:ByteArray):Ret Tryz.prog 326 #[.agg #[.int .i64 k,.int .i64 n,.string s,.slice a m c],.string u] w (.bool (isAtomS k s u)):=by
 refine ret_of hE func326 rfl [.agg [.val (.int .i64 k),.val (.int .i64 n),.val (.string s),.val (.slice a m c)],.val (.string u)] rfl fun Q hQ=>?_
 refine .sy (prog_okB _) ?_
 intro _ _ _ _ _ _ _ _ _ _ _ _ _ _ Hc Hs Ha Hw Hd Ho Hl Hn Hi Hk Hv Hz Hr Hx
 cbv
 repeat'(first|((with_reducible refine hQ _ _ ?_);refine⟨rfl,rfl,_,rfl,rfl,?_⟩)|((with_reducible first|refine Hc _ _ _ _ ?_|refine Hs _ _ _ _ ?_);rintro(_|_) hq0<;>cbv)|((with_reducible first|refine Ha _ _ _ _ _ ?_|refine Hw _ _ _ ?_);intro _ hn;cbv)|((with_reducible refine Hn _ _ _ ?_);(first|refine len_sl rfl rfl ?_|(refine len_st ?_;intro _ hm));cbv))
 all_goals(clear Hc Hs Ha Hw Hd Ho Hl Hn Hi Hk Hv Hz Hr Hx;clear hQ;first|(simp_all [toV,toVs,retA,cmp0,scmp0,SB.bytes,← bytesEq_iff,isAtomS];done)|(simp_all [toV,toVs,retA,cmp0,scmp0,SB.bytes,← bytesEq_iff,isAtomS];omega))
def isFunS (k:Int) (s:ByteArray) (m:Nat) (u:ByteArray) (j:Int):Bool:=decide (k=5)&&decide (bytesOf s=bytesOf u)&&decide ((m:Int)=j)
theorem isFun_ret (hE:Env w) (k n:Int) (s:ByteArray) (a:Option Addr) (m c:Nat) (u:ByteArray) (j:Int):Ret Tryz.prog 204 #[.agg #[.int .i64 k,.int .i64 n,.string s,.slice a m c],.string u,.int .i64 j] w (.bool (isFunS k s m u j)):=by
 refine ret_of hE func204 rfl [.agg [.val (.int .i64 k),.val (.int .i64 n),.val (.string s),.val (.slice a m c)],.val (.string u),.val (.int .i64 j)] rfl fun Q hQ=>?_
 refine .sy (prog_okB _) ?_
 intro _ _ _ _ _ _ _ _ _ _ _ _ _ _ Hc Hs Ha Hw Hd Ho Hl Hn Hi Hk Hv Hz Hr Hx
 cbv
 repeat'(first|((with_reducible refine hQ _ _ ?_);refine⟨rfl,rfl,_,rfl,rfl,?_⟩)|((with_reducible first|refine Hc _ _ _ _ ?_|refine Hs _ _ _ _ ?_);rintro(_|_) hq0<;>cbv)|((with_reducible first|refine Ha _ _ _ _ _ ?_|refine Hw _ _ _ ?_);intro _ hn;cbv)|((with_reducible refine Hn _ _ _ ?_);(first|refine len_sl rfl rfl ?_|(refine len_st ?_;intro _ hm));cbv))
 all_goals(clear Hc Hs Ha Hw Hd Ho Hl Hn Hi Hk Hv Hz Hr Hx;clear hQ;first|(simp_all [toV,toVs,retA,cmp0,scmp0,SB.bytes,← bytesEq_iff,isFunS];done)|(simp_all [toV,toVs,retA,cmp0,scmp0,SB.bytes,← bytesEq_iff,isFunS];omega))
def funS (k:Int) (s:ByteArray) (m:Nat) (u:ByteArray) (j:Int):Bool:=if j=0 then isAtomS k s u else isFunS k s m u j
theorem fun_ret (hE:Env w) (k n:Int) (s:ByteArray) (a:Option Addr) (m c:Nat) (u:ByteArray) (j:Int):Ret Tryz.prog 208 #[.agg #[.int .i64 k,.int .i64 n,.string s,.slice a m c],.string u,.int .i64 j] w (.bool (funS k s m u j)):=by
 refine ret_of hE func208 rfl [.agg [.val (.int .i64 k),.val (.int .i64 n),.val (.string s),.val (.slice a m c)],.val (.string u),.val (.int .i64 j)] rfl fun Q hQ=>?_
 refine .sy (prog_okB _) ?_
 intro _ _ _ _ _ _ _ _ _ _ _ _ _ _ Hc Hs Ha Hw Hd Ho Hl Hn Hi Hk Hv Hz Hr Hx
 cbv
 repeat'(first|((with_reducible refine hQ _ _ ?_);refine⟨rfl,rfl,_,rfl,rfl,?_⟩)|((with_reducible first|refine Hc _ _ _ _ ?_|refine Hs _ _ _ _ ?_);rintro(_|_) hq0<;>cbv)|((with_reducible first|refine Ha _ _ _ _ _ ?_|refine Hw _ _ _ ?_);intro _ hn;cbv)|((with_reducible refine Hn _ _ _ ?_);(first|refine len_sl rfl rfl ?_|(refine len_st ?_;intro _ hm));cbv))
 all_goals(clear Hc Hs Ha Hw Hd Ho Hl Hn Hi Hk Hv Hz Hr Hx;clear hQ;first|(simp_all [toV,toVs,retA,cmp0,scmp0,SB.bytes,← bytesEq_iff,funS,isAtomS,isFunS];done)|(simp_all [toV,toVs,retA,cmp0,scmp0,SB.bytes,← bytesEq_iff,funS,isAtomS,isFunS];omega))
def symV (k:Int) (s:ByteArray) (m:Nat):Value:=if k=3∨k=5 then .tuple #[.agg #[.string s,.int .i64 m],.bool true] else .tuple #[.agg #[.string (sb []),.int .i64 0],.bool false]
theorem symbolOf_ret (hE:Env w) (k n:Int) (s:ByteArray) (a:Option Addr) (m c:Nat):Ret Tryz.prog 329 #[.agg #[.int .i64 k,.int .i64 n,.string s,.slice a m c]] w (symV k s m):=by
 refine ret_of hE func329 rfl [.agg [.val (.int .i64 k),.val (.int .i64 n),.val (.string s),.val (.slice a m c)]] rfl fun Q hQ=>?_
 refine .sy (prog_okB _) ?_
 intro _ _ _ _ _ _ _ _ _ _ _ _ _ _ Hc Hs Ha Hw Hd Ho Hl Hn Hi Hk Hv Hz Hr Hx
 cbv
 repeat'(first|((with_reducible refine hQ _ _ ?_);refine⟨rfl,rfl,_,rfl,rfl,?_⟩)|((with_reducible first|refine Hc _ _ _ _ ?_|refine Hs _ _ _ _ ?_);rintro(_|_) hq0<;>cbv)|((with_reducible first|refine Ha _ _ _ _ _ ?_|refine Hw _ _ _ ?_);intro _ hn;cbv)|((with_reducible refine Hn _ _ _ ?_);(first|refine len_sl rfl rfl ?_|(refine len_st ?_;intro _ hm));cbv))
 all_goals(clear Hc Hs Ha Hw Hd Ho Hl Hn Hi Hk Hv Hz Hr Hx;clear hQ;first|(simp_all [toV,toVs,retA,cmp0,scmp0,SB.bytes,← bytesEq_iff,symV,sb];done)|(simp_all [toV,toVs,retA,cmp0,scmp0,SB.bytes,← bytesEq_iff,symV,sb];omega))
theorem symbol_ret (hE:Env w) (k n:Int) (s:ByteArray) (a:Option Addr) (m c:Nat):Ret Tryz.prog 324 #[.agg #[.int .i64 k,.int .i64 n,.string s,.slice a m c]] w (.tuple #[.agg #[.string s,.int .i64 m],.bool (decide (k=3)||decide (k=5))]):=by
 refine ret_of hE func324 rfl [.agg [.val (.int .i64 k),.val (.int .i64 n),.val (.string s),.val (.slice a m c)]] rfl fun Q hQ=>?_
 refine .sy (prog_okB _) ?_
 intro _ _ _ _ _ _ _ _ _ _ _ _ _ _ Hc Hs Ha Hw Hd Ho Hl Hn Hi Hk Hv Hz Hr Hx
 cbv
 repeat'(first|((with_reducible refine hQ _ _ ?_);refine⟨rfl,rfl,_,rfl,rfl,?_⟩)|((with_reducible first|refine Hc _ _ _ _ ?_|refine Hs _ _ _ _ ?_);rintro(_|_) hq0<;>cbv)|((with_reducible first|refine Ha _ _ _ _ _ ?_|refine Hw _ _ _ ?_);intro _ hn;cbv)|((with_reducible refine Hn _ _ _ ?_);(first|refine len_sl rfl rfl ?_|(refine len_st ?_;intro _ hm));cbv))
 all_goals(clear Hc Hs Ha Hw Hd Ho Hl Hn Hi Hk Hv Hz Hr Hx;clear hQ;first|(simp_all [toV,toVs,retA,cmp0,scmp0,SB.bytes,← bytesEq_iff];done)|(simp_all [toV,toVs,retA,cmp0,scmp0,SB.bytes,← bytesEq_iff];omega))
theorem outside_ret (hE:Env w) (n:Int):Ret Tryz.prog 406 #[.int .i32 n] w (.bool (decide (n<32)||decide (126<n))):=by
 refine ret_of hE func406 rfl [.val (.int .i32 n)] rfl fun Q hQ=>?_
 refine .sy (prog_okB _) ?_
 intro _ _ _ _ _ _ _ _ _ _ _ _ _ _ Hc Hs Ha Hw Hd Ho Hl Hn Hi Hk Hv Hz Hr Hx
 cbv
 repeat'(first|((with_reducible refine hQ _ _ ?_);refine⟨rfl,rfl,_,rfl,rfl,?_⟩)|((with_reducible first|refine Hc _ _ _ _ ?_|refine Hs _ _ _ _ ?_);rintro(_|_) hq0<;>cbv)|((with_reducible first|refine Ha _ _ _ _ _ ?_|refine Hw _ _ _ ?_);intro _ hn;cbv)|((with_reducible refine Hn _ _ _ ?_);(first|refine len_sl rfl rfl ?_|(refine len_st ?_;intro _ hm));cbv))
 all_goals(clear Hc Hs Ha Hw Hd Ho Hl Hn Hi Hk Hv Hz Hr Hx;clear hQ;first|(simp_all [toV,toVs,retA,cmp0,scmp0,SB.bytes,← bytesEq_iff];done)|(simp_all [toV,toVs,retA,cmp0,scmp0,SB.bytes,← bytesEq_iff];omega))
def bareS (n:Int) (s:ByteArray) (m:Nat) (x y z:Bool):Bool:=(x||decide (n=0))&&(y||decide (bytesOf s=[]))&&(z||decide (m=0))
theorem bare_ret (hE:Env w) (k n:Int) (s:ByteArray) (a:Option Addr) (m c:Nat) (x y z:Bool):Ret Tryz.prog 316 #[.agg #[.int .i64 k,.int .i64 n,.string s,.slice a m c],.bool x,.bool y,.bool z] w (.bool (bareS n s m x y z)):=by
 refine ret_of hE func316 rfl [.agg [.val (.int .i64 k),.val (.int .i64 n),.val (.string s),.val (.slice a m c)],.bool x,.bool y,.bool z] rfl fun Q hQ=>?_
 refine .sy (prog_okB _) ?_
 intro _ _ _ _ _ _ _ _ _ _ _ _ _ _ Hc Hs Ha Hw Hd Ho Hl Hn Hi Hk Hv Hz Hr Hx
 cases x<;>cases y<;>cases z<;>cbv
 repeat'(first|((with_reducible refine hQ _ _ ?_);refine⟨rfl,rfl,_,rfl,rfl,?_⟩)|((with_reducible first|refine Hc _ _ _ _ ?_|refine Hs _ _ _ _ ?_);rintro(_|_) hq0<;>cbv)|((with_reducible first|refine Ha _ _ _ _ _ ?_|refine Hw _ _ _ ?_);intro _ hn;cbv)|((with_reducible refine Hn _ _ _ ?_);(first|refine len_sl rfl rfl ?_|(refine len_st ?_;intro _ hm));cbv))
 all_goals(clear Hc Hs Ha Hw Hd Ho Hl Hn Hi Hk Hv Hz Hr Hx;clear hQ;first|(simp_all [toV,toVs,retA,cmp0,scmp0,SB.bytes,← bytesEq_iff,bareS];done)|(simp_all [toV,toVs,retA,cmp0,scmp0,SB.bytes,← bytesEq_iff,bareS];omega))
end
def RowAt {α:Type} (sz:Nat) (R:α→List Value→Prop) (B:Nat→Option Go.Obj) (b:Nat):Nat→List α→Prop
 | _,[]=>True
 | off,x::r=>(∃ cs,CellsB B ⟨b,off,none⟩ cs∧R x cs)∧RowAt sz R B b (off+sz) r
def SlAt {α:Type} (sz:Nat) (R:α→List Value→Prop) (B:Nat→Option Go.Obj) (l:List α) (a:Option Addr) (m:Nat):Prop :=
 m=l.length∧m≤1048576∧(l=[]∨∃ b off,a=some ⟨b,off,none⟩∧RowAt sz R B b off l)
section
variable {α:Type} {sz:Nat} {R R':α→List Value→Prop} {B B':Nat→Option Go.Obj}
theorem RowAt.mono (hm:∀ k o,B k=some o→B' k=some o) (hR:∀ x cs,R x cs→R' x cs) {b:Nat}:∀ {l:List α} {off:Nat},RowAt sz R B b off l→RowAt sz R' B' b off l
 | [],_,_=>trivial
 | _::_,_,⟨⟨cs,h1,h2⟩,h3⟩=>⟨⟨cs,CellsB.mono hm h1,hR _ _ h2⟩,RowAt.mono hm hR h3⟩
theorem SlAt.mono (hm:∀ k o,B k=some o→B' k=some o) (hR:∀ x cs,R x cs→R' x cs) {l:List α} {a:Option Addr} {m:Nat} (h:SlAt sz R B l a m):SlAt sz R' B' l a m :=
 ⟨h.1,h.2.1,h.2.2.imp id fun⟨b,off,h1,h2⟩=>⟨b,off,h1,h2.mono hm hR⟩⟩
theorem RowAt.get {b:Nat}:∀ {l:List α} {off:Nat},RowAt sz R B b off l→∀ (i:Nat) (t:α),l[i]?=some t→∃ cs,CellsB B ⟨b,off+i*sz,none⟩ cs∧R t cs
 | [],_,_,i,t,ht=>by simp at ht
 | x::l,off,h,i,t,ht=>by
  cases i with
  | zero=>simp at ht;subst ht;simpa using h.1
  | succ i =>
   have:=RowAt.get h.2 i t (by simpa using ht)
   rwa [show off+sz+i*sz=off+(i+1)*sz by rw [Nat.add_mul];omega] at this
theorem idx_sl {t e:Nat} {ti te:TI} (ht:ttG.get t=some ti) (hk:ti.k=.sl e) (hte:ttG.get e=some te) (hsz:te.size=sz) {l:List α} {a:Option Addr} {m:Nat} (h:SlAt sz R B l a m) {i:Nat} (hi:i<m) {c:Nat} {K:AV→Prop}
  (hK:∀ p x cs,l[i]?=some x→CellsB B p cs→R x cs→K (.val (.pointer (some p)))):IndexR (ctxB B) t (.slice a m c) (Int.ofNat i) K:=by
 obtain⟨rfl,_,h⟩:=h
 rcases h with rfl|⟨b,off,rfl,h⟩
 ·simp at hi
 ·have hx:=List.getElem?_eq_getElem hi
  obtain⟨cs,h1,h2⟩:=h.get i _ hx
  exact⟨ti,e,te,b,off,_,c,i,ht,hk,hte,rfl,rfl,hi,hK _ _ cs hx (by rw [hsz];exact h1) h2⟩
end
theorem bytesOf_len (s:ByteArray):(bytesOf s).length=s.size:=by simp [bytesOf]
section
variable {P:Program} {C:Ctx}
theorem _root_.Ev.OpOK.norm {o:Oper} {tm tm':T AV} {H H':Hp} {nx nx':Nat} {v:AV} (hw:∀ t v,tm'.get t=some v→∃ u,tm.get t=some u∧∀ φ x,VRel φ u x→VRel φ v x) (h:OpOK P C o tm' H nx v H' nx'):OpOK P C o tm H nx v H' nx':=by
 intro φ w a hr hg ht
 refine h φ w a hr hg fun t v hv=>?_
 obtain⟨u,h1,h2⟩:=hw t v hv
 obtain⟨v',h3,h4⟩:=ht t u h1
 exact⟨v',h3,h2 _ _ h4⟩
theorem idx_str (hC:CtxOk P C) {o:Oper} {tm:T AV} {t a b:Nat} {ti:TI} (ho:o.op=.index t (.tmp a) (.tmp b)) (hab:a≠b) (ht:C.tt.get t=some ti) (hk:ti.k=.str) {s:ByteArray} {j c:Nat} {k:IntKind}
  (hx:tm.get a=some (.val (.string s))) (hi:tm.get b=some (.val (.int k (Int.ofNat j)))) (hc:(bytesOf s)[j]?=some c) {K:AV→Prop} (hK:K (.val (.int .u8 (Int.ofNat c)))):PureR P C o tm K:=by
 refine⟨_,fun H nx=>?_,hK⟩
 have hv:valA C (mkT [(a,.str (bytesOf s)),(b,.int k (Int.ofNat j))]) .leaf o=some (.int .u8 (Int.ofNat c)):=by
  unfold valA
  simp only [ho,ht,hk,ev,mkT,T.get_set,if_true,if_neg hab,if_neg hab.symm,natOf,nth_eq,hc]
 have h1:OpOK P C o (mkT [(a,.str (bytesOf s)),(b,.int k (Int.ofNat j))]) (T.leaf:T Ev.Obj).get nx (.int .u8 (Int.ofNat c)) (T.leaf:T Ev.Obj).get nx:=OpOK.val hC hv nx
 refine OpOK.norm (tm':=mkT [(a,.str (bytesOf s)),(b,.int k (Int.ofNat j))]) (fun t v hv=>?_) ?_
 ·have:=mkT_get hv
  simp only [List.mem_cons,Prod.mk.injEq,List.not_mem_nil,or_false] at this
  rcases this with⟨rfl,rfl⟩|⟨rfl,rfl⟩
  ·exact⟨_,hx,fun φ x h=>by cases h;exact .str _⟩
  ·exact⟨_,hi,fun φ x h=>by cases h;exact .int _ _⟩
 ·have h2:=h1.frame (E:=H) (fun i x _=>rfl)
  have e:un H (T.leaf:T Ev.Obj).get=H:=by funext i;cases hi:H i with|some x=>exact un_some hi|none=>rw [un_none hi];rfl
  rw [e] at h2
  intro φ w a' hr hg htm r n K' Q hK'
  exact h2 φ w a' hr hg htm r n K' Q fun φ' v' w' h3 h4 h5=>hK' φ' v' w' (by cases h3;exact .val _ rfl) h4 h5
theorem range_str (hC:CtxOk P C) {o:Oper} {st:St} {t a:Nat} {ti:TI} (ho:o.op=.range t (.tmp a)) (ht:C.tt.get t=some ti) (hk:ti.k=.str) {s:ByteArray} (hx:st.tm.get a=some (.val (.string s)))
  {K:AV→T Ev.Obj→Nat→Prop} (hK:∀ l,l=bytesOf s→K (.it st.nx) (st.hp.set st.nx (.sIter l 0)) (st.nx+1)):OpR P C o st K:=by
 refine⟨_,_,_,?_,hK _ rfl⟩
 have hv:newA C (mkT [(a,.str (bytesOf s))]) st.hp st.nx o=some (.sIter (bytesOf s) 0,.it st.nx):=by
  unfold newA
  simp only [ho,ht,hk,ev,mkT,T.get_set,if_true]
 refine OpOK.norm (tm':=mkT [(a,.str (bytesOf s))]) (fun t v hv=>?_) ?_
 ·have:=mkT_get hv
  simp only [List.mem_cons,Prod.mk.injEq,List.not_mem_nil,or_false] at this
  obtain⟨rfl,rfl⟩:=this
  exact⟨_,hx,fun φ x h=>by cases h;exact .str _⟩
 ·rw [set_get]
  exact OpOK.new hC (Nat.le_refl _) (Nat.lt_succ_self _) hv
theorem next_str (hC:CtxOk P C) {o:Oper} {st:St} {a id pos:Nat} {l:List Nat} (ho:o.op=.next (.tmp a) true) (hx:st.tm.get a=some (.it id)) (hh:st.hp.get id=some (.sIter l pos)) {K:AV→T Ev.Obj→Nat→Prop}
  (h0:l.drop pos=[]→K (.tup [.bool false]) st.hp st.nx)
  (h1:∀ c r,l.drop pos=c::r→c<128→K (.tup [.bool true,.val (.int .i64 (Int.ofNat pos)),.val (.int .i32 (Int.ofNat c))]) (st.hp.set id (.sIter l (pos+1))) st.nx)
  (h2:∀ c r n d,l.drop pos=c::r→128≤c→n=Int.ofNat (Utf8.decode ⟨(l.map UInt8.ofNat).toArray⟩ pos).1→K (.tup [.bool true,.val (.int .i64 (Int.ofNat pos)),.val (.int .i32 n)]) (st.hp.set id (.sIter l d)) st.nx):OpR P C o st K:=by
 have val3:∀ {φ:Phi} {p n:Int} {x:Value},VRel φ (.tup [.bool true,.int .i64 p,.int .i32 n]) x→VRel φ (.tup [.bool true,.val (.int .i64 p),.val (.int .i32 n)]) x:=by
  intro φ p n x h
  cases h with
  | @tup _ x h =>
   obtain⟨x⟩:=x
   refine .tup ?_
   simp only at h ⊢
   cases h with
   | cons q1 h =>
    cases h with
    | cons q2 h =>
     cases h with
     | cons q3 h =>
      cases q2;cases q3
      exact .cons q1 (.cons (.val _ rfl) (.cons (.val _ rfl) h))
 have conv:∀ {p n:Int} {hp':T Ev.Obj} {nx':Nat},OpOK P C o st.tm st.hp.get st.nx (.tup [.bool true,.int .i64 p,.int .i32 n]) hp'.get nx'→OpOK P C o st.tm st.hp.get st.nx (.tup [.bool true,.val (.int .i64 p),.val (.int .i32 n)]) hp'.get nx':=by
  intro p n hp' nx' h φ w a' hr hg htm r m K' Q hK'
  exact h φ w a' hr hg htm r m K' Q fun φ' v' w' h3 h4 h5=>hK' φ' v' w' (val3 h3) h4 h5
 rcases hd:l.drop pos with _|⟨c,r⟩
 ·have hv:chgA C st.tm st.hp st.nx o=some ⟨.tup [.bool false],st.hp,st.nx⟩:=by
   unfold chgA;simp only [ho,ev,hx,hh,hd]
  exact⟨_,_,_,OpOK.chg hC hv,h0 hd⟩
 ·cases hb:Nat.blt c 128 with
  | true =>
   have hv:chgA C st.tm st.hp st.nx o=some ⟨.tup [.bool true,.int .i64 (Int.ofNat pos),.int .i32 (Int.ofNat c)],st.hp.set id (.sIter l (pos+1)),st.nx⟩:=by
    unfold chgA;simp only [ho,ev,hx,hh,hd,hb]
   exact⟨_,_,_,conv (OpOK.chg hC hv),h1 c r hd (by simpa [Nat.blt_eq] using hb)⟩
  | false =>
   have hv:chgA C st.tm st.hp st.nx o=some ⟨.tup [.bool true,.int .i64 (Int.ofNat pos),.int .i32 (Int.ofNat (Utf8.decode ⟨(l.map UInt8.ofNat).toArray⟩ pos).1)],st.hp.set id (.sIter l (pos+(Utf8.decode ⟨(l.map UInt8.ofNat).toArray⟩ pos).2)),st.nx⟩:=by
    unfold chgA;simp only [ho,ev,hx,hh,hd,hb];rfl
   exact⟨_,_,_,conv (OpOK.chg hC hv),h2 c r _ _ hd (Nat.le_of_not_lt fun q=>by have q2:Nat.blt c 128=true:=(by rw [Nat.blt_eq];exact q);rw [q2] at hb;cases hb) rfl⟩
end
section
variable {w:World}
def goodB (c:Nat):Bool:=decide (32≤c)&&decide (c≤126)
def nameS (s:ByteArray):Bool:=(bytesOf s).all goodB&&decide (1≤s.size)&&decide (s.size≤32)
theorem refName_ret (hE:Env w) (s:ByteArray) (hs:s.size≤1048576):Ret Tryz.prog 408 #[.string s] w (.bool (nameS s)):=by
 refine ret_of hE func408 rfl [.val (.string s)] rfl fun Q hQ=>?_
 obtain⟨m,hm⟩:∃ m,m=s.size:=⟨_,rfl⟩
 obtain⟨r,hr⟩:∃ r,r=nameS s:=⟨_,rfl⟩
 rw [← hr] at hQ
 refine .sy (prog_okB _) ?_
 intro _ _ _ _ _ _ _ _ _ _ _ _ _ _ Hc Hs Ha Hw Hd Ho Hl Hn Hi Hk Hv Hz Hr Hx
 cbv
 refine Hr _ _ _ (CodeP.loopN 1 (fun i:Nat=>mkS [(0,.val (.string s)),(3,.val (.int .i64 (Int.ofNat i)))] [(0,.ro calcAVs)] 1)
  (fun i=>m - i) (fun i=>i≤m∧r=(((bytesOf s).drop i).all goodB&&decide (1≤m)&&decide (m≤32))) 0 ⟨Nat.zero_le _,by rw [hr,hm];rfl⟩ (sub_mk sbt sbh) rfl rfl (fun _=>⟨rfl,rfl⟩) ?_)
 rintro G i ⟨hi,hri⟩ hG
 refine .sy (prog_okB _) ?_
 intro _ _ _ _ _ _ _ _ _ _ _ _ _ _ Hc2 Hs2 Ha2 Hw2 Hd2 Ho2 Hl2 Hn2 Hi2 Hk2 Hv2 Hz2 Hr2 Hx2
 cbv
 refine Hn2 _ _ _ (len_st ?_)
 rintro _ rfl
 rw [← hm]
 cbv
 refine Hc2 _ _ _ _ ?_
 rintro(_|_) h1<;>cbv
 ·have hge:m≤i:=by simpa [cmp0] using h1
  rw [List.drop_of_length_le (by rw [bytesOf_len];omega)] at hri
  repeat'(first|((with_reducible refine hQ _ _ ?_);refine⟨rfl,rfl,_,rfl,rfl,?_⟩)|((with_reducible first|refine Hc2 _ _ _ _ ?_|refine Hs2 _ _ _ _ ?_);rintro(_|_) hq0<;>cbv)|((with_reducible first|refine Ha2 _ _ _ _ _ ?_|refine Hw2 _ _ _ ?_);intro _ hn;cbv)|((with_reducible refine Hn2 _ _ _ ?_);(first|refine len_sl rfl rfl ?_|(refine len_st ?_;intro _ hm));cbv)|((with_reducible first|refine Hc _ _ _ _ ?_|refine Hs _ _ _ _ ?_);rintro(_|_) hq0<;>cbv)|((with_reducible first|refine Ha _ _ _ _ _ ?_|refine Hw _ _ _ ?_);intro _ hn;cbv)|((with_reducible refine Hn _ _ _ ?_);(first|refine len_sl rfl rfl ?_|(refine len_st ?_;intro _ hm));cbv))
  all_goals(clear hG h1;clear Hc2 Hs2 Ha2 Hw2 Hd2 Ho2 Hl2 Hn2 Hi2 Hk2 Hv2 Hz2 Hr2 Hx2;clear Hc Hs Ha Hw Hd Ho Hl Hn Hi Hk Hv Hz Hr Hx;clear hQ hr;subst hri;simp only [toV,toVs,retA,Value.bool.injEq];grind [cmp0])
 ·have hlt:i<m:=by simpa [cmp0] using h1
  have hb:i<(bytesOf s).length:=by rw [bytesOf_len];omega
  obtain⟨c,hc⟩:∃ c,(bytesOf s)[i]?=some c:=⟨_,List.getElem?_eq_getElem hb⟩
  rw [drop_get hc] at hri
  refine Hz2 _ _ _ (idx_str (prog_okB _).ctx rfl (by decide) rfl rfl rfl rfl hc ?_)
  cbv
  refine Hc2 _ _ _ _ ?_
  rintro(_|_) h2<;>cbv
  ·refine Hz2 _ _ _ (idx_str (prog_okB _).ctx rfl (by decide) rfl rfl rfl rfl hc ?_)
   cbv
   refine Hc2 _ _ _ _ ?_
   rintro(_|_) h3<;>cbv
   ·refine Ha2 _ _ _ _ _ ?_
    rintro n rfl
    rw [ar0_suc (by omega)]
    refine hG _ (i+1) rfl (by omega) ⟨by omega,?_⟩ (sub_mk sbt sbh) (lt_mk rfl rfl)
    rw [hri,List.all_cons]
    have:goodB c=true:=by simp [cmp0] at h2 h3;simp [goodB];omega
    rw [this];rfl
   ·(with_reducible refine hQ _ _ ?_);refine⟨rfl,rfl,_,rfl,rfl,?_⟩
    have:goodB c=false:=by simp [cmp0] at h2 h3;simp [goodB];omega
    rw [hri,List.all_cons,this];rfl
  ·(with_reducible refine hQ _ _ ?_);refine⟨rfl,rfl,_,rfl,rfl,?_⟩
   have:goodB c=false:=by simp [cmp0] at h2;simp [goodB];omega
   rw [hri,List.all_cons,this];rfl
end
end Go.Proofs.YtaacpiniakmpbaaGreatDoor
