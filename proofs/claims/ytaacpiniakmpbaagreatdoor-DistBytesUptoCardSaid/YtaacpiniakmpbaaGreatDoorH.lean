/- Code by what is asked of its end: rules for proofs over inputs that are not told. -/
import Derived.Test.YtaacpiniakmpbaaGreatDoorG
namespace Ev
open Go
set_option linter.unusedSimpArgs false
set_option linter.unusedVariables false
section
variable {P:Program} {C:Ctx} {nt:Nat} {rd:Option Nat}
def CodeP (P:Program) (C:Ctx) (nt:Nat) (rd:Option Nat) (c:Code) (st:St) (Q:Ex→St→Prop):Prop:=∃ ex st',CodeOK P C nt rd c st ex st'∧Q ex st'
theorem CodeP.mono {c:Code} {st:St} {Q R:Ex→St→Prop} (h:CodeP P C nt rd c st Q) (k:∀ e s,Q e s→R e s):CodeP P C nt rd c st R :=
 let ⟨e,s,h1,h2⟩:=h;⟨e,s,h1,k e s h2⟩
theorem CodeP.skip {st:St} {Q:Ex→St→Prop} (h:Q .normal st):CodeP P C nt rd .skip st Q:=⟨_,_,.skip st,h⟩
theorem CodeP.exit {id:Nat} {st:St} {Q:Ex→St→Prop} (h:Q (.exit id) st):CodeP P C nt rd (.exit id) st Q:=⟨_,_,.exit id st,h⟩
theorem CodeP.ret {st:St} {Q:Ex→St→Prop} (h:Q .ret st):CodeP P C nt rd .ret st Q:=⟨_,_,.ret st,h⟩
theorem CodeP.region {id:Nat} {ops:Array Oper} {st st':St} {Q:Ex→St→Prop} (h:OpsR P C nt rd.isSome ops.toList ops.toList st st') (k:Q .normal st'):CodeP P C nt rd (.region id ops false) st Q:=⟨_,_,.region h,k⟩
def nextP (k:St→Prop) (Q:Ex→St→Prop):Ex→St→Prop
 | .normal,s=>k s
 | e,s=>Q e s
theorem CodeP.seq {a b:Code} {st:St} {Q:Ex→St→Prop} (h:CodeP P C nt rd a st (nextP (fun s=>CodeP P C nt rd b s Q) Q)):CodeP P C nt rd (.seq a b) st Q:=by
 obtain⟨e,s,h1,h2⟩:=h
 cases e with
 | normal=>obtain⟨e2,s2,h3,h4⟩:=h2;exact⟨e2,s2,h1.seq h3,h4⟩
 | _=>exact⟨_,s,.seq_out (by simp) h1,h2⟩
theorem CodeP.cond {c:Operand} {a b:Code} {st:St} {t:Bool} {Q:Ex→St→Prop} (hc:ev C st.tm c=some (.bool t)) (h1:t=true→CodeP P C nt rd a st Q) (h2:t=false→CodeP P C nt rd b st Q):CodeP P C nt rd (.cond c a b) st Q:=by
 cases t with
 | true=>obtain⟨e,s,h3,h4⟩:=h1 rfl;exact⟨e,s,.cond hc h3,h4⟩
 | false=>obtain⟨e,s,h3,h4⟩:=h2 rfl;exact⟨e,s,.cond hc h3,h4⟩
def outP (id:Nat) (Q:Ex→St→Prop):Ex→St→Prop
 | .exit i,s=>if i=id then Q .normal s else Q (.exit i) s
 | e,s=>Q e s
theorem CodeP.block {id:Nat} {c:Code} {st:St} {Q:Ex→St→Prop} (h:CodeP P C nt rd c st (outP id Q)):CodeP P C nt rd (.block id c) st Q:=by
 obtain⟨e,s,h1,h2⟩:=h
 cases e with
 | exit i =>
  by_cases hi:i=id
  ·subst hi;simp only [outP,if_true] at h2;exact⟨_,s,.block_in h1,h2⟩
  ·simp only [outP,if_neg hi] at h2;exact⟨_,s,.block_out hi h1,h2⟩
 | _=>exact⟨_,s,.block (fun i q=>by cases q) h1,h2⟩
theorem CodeP.loop {c:Code} {Q:Ex→St→Prop} (I:Nat→St→Prop) (h:∀ n st,I n st→CodeP P C nt rd c st (nextP (fun s=>∃ m,m<n∧I m s) Q)):∀ {n:Nat} {st:St},I n st→CodeP P C nt rd (.loop c) st Q:=by
 have key:∀ (n:Nat) (st:St),I n st→∃ e s k,Rounds P C nt rd c .normal e s k st∧Q e s:=by
  intro n
  induction n using Nat.strongRecOn with
  | _ n ih =>
   intro st hI
   obtain⟨e,s,h1,h2⟩:=h n st hI
   cases e with
   | normal =>
    obtain⟨m,hm,hI'⟩:=h2
    obtain⟨e2,s2,k,h3,h4⟩:=ih m hm s hI'
    exact⟨e2,s2,k+1,.round h1 h3,h4⟩
   | _=>exact⟨_,s,0,.stop (by simp) h1,h2⟩
 intro n st hI
 obtain⟨e,s,k,h1,h2⟩:=key n st hI
 exact⟨e,s,.loop h1,h2⟩
theorem CodeOK.weak {c:Code} {st s t:St} {e:Ex} (h:CodeOK P C nt rd c st e s) (hw:StW s t):CodeOK P C nt rd c st e t:=by
 intro φ a w hl r n hr Q hQ
 refine h φ a w hl r n hr Q fun φ' a' w' hl' hs=>?_
 obtain⟨t1,t2⟩:=hl'.rel.weak (H':=t.hp.get) hw.hp hw.nx
 exact hQ φ' a' w' ⟨t1,hl'.glob.step t2,fun x v hx=>hl'.tmps x v (hw.tm x v hx),hl'.size,by rw [← hw.df];exact hl'.defers⟩ (hs.trans t2)
end
section
variable {P:Program} {C:Ctx}
theorem OpOK.pure {o:Oper} {tm:T AV} {H:Hp} {nx:Nat} {v:AV} (hd:∀ c,o.op≠.defer c)
  (h:∀ (φ:Phi) (w:World) (a:Act),Rel φ H nx w→BOk C φ H w→TRel φ tm a.tmps→∃ v',VRel φ v v'∧(execOp a.eval o).run P w=.ok (.value v') w):OpOK P C o tm H nx v H nx:=by
 intro φ w a hr hg ht r n K Q hK
 obtain⟨v',h1,h2⟩:=h φ w a hr hg ht
 refine wpIn_fw hd ?_
 rw [h2,Oper.uponIn_value]
 exact hK φ v' w h1 hr (.refl _ _ _ _)
theorem val_inv {φ:Phi} {u v:Value} (h:VRel φ (.val u) v):v=u:=by cases h;rfl
end
inductive SB where
 | s (b:ByteArray)
 | l (l:List Nat)
structure Sy where
 cmp:BinOp→Int→Int→(Bool→Prop)→Prop
 scmp:BinOp→SB→SB→(Bool→Prop)→Prop
 ar:BinOp→IntKind→Int→Int→(Int→Prop)→Prop
 wr:IntKind→Int→(Int→Prop)→Prop
 add:Addr→Nat→(Addr→Prop)→Prop
 op:Oper→St→(AV→T Obj→Nat→Prop)→Prop
 load:Nat→Addr→(AV→Prop)→Prop
 len:Nat→Value→(AV→Prop)→Prop
 index:Nat→Value→Int→(AV→Prop)→Prop
 call:FuncId→List AV→T Obj→Nat→(AV→T Obj→Nat→Prop)→Prop
 callv:Value→List AV→T Obj→Nat→(AV→T Obj→Nat→Prop)→Prop
 vop:Oper→T AV→(AV→Prop)→Prop
 loop:Code→St→(Ex→St→Prop)→Prop
 other:Code→St→(Ex→St→Prop)→Prop
def symInt (S:Sy) (op:BinOp) (k:IntKind) (a b:Int) (K:AV→Prop) (F:Prop):Prop :=
 match op with
 | .eql|.neq|.lss|.leq|.gtr|.geq=>S.cmp op a b fun t=>K (.bool t)
 | .add|.sub|.mul|.and|.or|.xor|.andNot=>S.ar op k a b fun n=>K (.val (.int k n))
 | _=>F
def symStr (S:Sy) (op:BinOp) (a b:SB) (K:AV→Prop) (F:Prop):Prop :=
 match op with
 | .eql|.neq|.lss|.leq|.gtr|.geq=>S.scmp op a b fun t=>K (.bool t)
 | _=>F
def symBin (S:Sy) (op:BinOp) (a b:AV) (K:AV→Prop) (F:Prop):Prop :=
 match a,b with
 | .val (.int k a),.val (.int k' b)=>match kindEq k k' with|true=>symInt S op k a b K F|false=>F
 | .val (.int k a),.int k' b=>match kindEq k k' with|true=>symInt S op k a b K F|false=>F
 | .int k a,.val (.int k' b)=>match kindEq k k' with|true=>symInt S op k a b K F|false=>F
 | .val (.string a),.val (.string b)=>symStr S op (.s a) (.s b) K F
 | .val (.string a),.str b=>symStr S op (.s a) (.l b) K F
 | .str a,.val (.string b)=>symStr S op (.l a) (.s b) K F
 | _,_=>F
section
variable (S:Sy) (C:Ctx) (nt:Nat) (rd:Bool)
noncomputable def wpSym (o:Oper) (tm:T AV) (K:AV→Prop):Prop :=
 match o.op with
 | .binOp op t x y _=>match C.tt.get t,ev C tm x,ev C tm y with
  | some _,some a,some b=>symBin S op a b K (S.vop o tm K)
  | _,_,_=>S.vop o tm K
 | .convert s d x=>match C.tt.get s,C.tt.get d,ev C tm x with
  | some _,some td,some (.val (.int _ n))=>match td.k with
   | .int k'=>S.wr k' n fun n=>K (.val (.int k' n))
   | _=>S.vop o tm K
  | _,_,_=>S.vop o tm K
 | .load t x=>match ev C tm x with
  | some (.val (.pointer (some p)))=>S.load t p K
  | _=>S.vop o tm K
 | .fieldAddr s x f=>match ev C tm x with
  | some (.val (.pointer (some p)))=>match C.tt.get s with
   | some ti=>match ti.k with
    | .st fs=>match nth fs f with
     | some q=>match C.tt.get q.2 with
      | some tf=>match Nat.beq tf.size 0 with
       | false=>S.add p q.1 fun p=>K (.val (.pointer (some p)))
       | true=>S.vop o tm K
      | none=>S.vop o tm K
     | none=>S.vop o tm K
    | _=>S.vop o tm K
   | none=>S.vop o tm K
  | _=>S.vop o tm K
 | .indexAddr t x i=>match ev C tm x,ev C tm i with
  | some (.val v),some (.val (.int _ n))=>S.index t v n K
  | some (.val v),some (.int _ n)=>S.index t v n K
  | _,_=>S.vop o tm K
 | .nilCheck x=>match ev C tm x with
  | some (.val (.pointer (some p)))=>K (.val (.pointer (some p)))
  | some (.val (.func (.func f) a b))=>K (.val (.func (.func f) a b))
  | _=>S.vop o tm K
 | .call c=>match c.callee with
  | .builtin .len=>match c.args.toList,c.argTypes.toList with
   | [x],[t]=>match ev C tm x with
    | some (.val v)=>S.len t v K
    | _=>S.vop o tm K
   | _,_=>S.vop o tm K
  | _=>S.vop o tm K
 | _=>S.vop o tm K
noncomputable def wpVal (o:Oper) (tm:T AV) (hp:T Obj) (K:Bool→AV→Prop):Prop :=
 match valA C tm hp o with
 | some v=>K false v
 | none=>wpSym S C o tm (K true)
noncomputable def wpOp (o:Oper) (st:St) (K:AV→T Obj→Nat→Prop):Prop :=
 match cls o.op with
 | .val=>wpVal S C o st.tm st.hp fun _ v=>K v st.hp st.nx
 | .new=>match newA C st.tm st.hp st.nx o with
  | some (ob,v)=>K v (st.hp.set st.nx ob) (st.nx+1)
  | none=>S.op o st K
 | .chg=>match o.op with
  | .next _ _=>S.op o st K
  | .call c=>match c.callee with
   | .builtin .append=>S.op o st K
   | _=>match chgA C st.tm st.hp st.nx o with
    | some r=>K r.v r.hp r.nx
    | none=>S.op o st K
  | _=>match chgA C st.tm st.hp st.nx o with
   | some r=>K r.v r.hp r.nx
   | none=>S.op o st K
 | .call=>match o.op with
  | .call c=>match c.callee with
   | .value x=>match ev C st.tm x,evs C st.tm c.args.toList with
    | some (.fn (.func f) first cap),some args=>S.call f (first++args++cap) st.hp st.nx K
    | some (.val v),some args=>S.callv v args st.hp st.nx K
    | _,_=>S.op o st K
   | _=>S.op o st K
  | _=>S.op o st K
noncomputable def wpOps (ops:List Oper):List Oper→St→(St→Prop)→Prop
 | [],st,K=>K st
 | o::l,st,K=>match dstB nt o.dst with
  | false=>False
  | true=>match wantedA ops st.tm o with
   | some true=>wpOp S C o st fun v hp nx=>wpOps ops l ⟨putT st.tm o.dst v,hp,nx,st.df⟩ K
   | some false=>wpOps ops l { st with tm:=putT st.tm o.dst undefA } K
   | none=>False
noncomputable def drawW (ops:List Oper) (ow:T Nat) (st:St):List Oper→Nat→DSt→List Nat→(DSt→List Nat→Prop)→Prop
 | [],_,d,fl,K=>K d fl
 | o::l,i,d,fl,K=>match befA d.rs i o.after.toList 0 with
  | none=>False
  | some b=>match wantedA ops (tmA ow d.rs st.tm b (looks ops o) .leaf) o with
   | none=>False
   | some false=>drawW ops ow st l (i+1) { d with rs:=d.rs.set i ⟨b,.off,tmA ow d.rs st.tm b (looks ops o) .leaf,undefA⟩ } fl K
   | some true=>match cls o.op with
    | .val=>wpVal S C o (tmA ow d.rs st.tm b (looks ops o) .leaf) (plusA st.nx b (absM (recAt d.rs) d.c d.m) (d.M d.m) d.als) fun q v =>
      drawW ops ow st l (i+1) { d with rs:=d.rs.set i ⟨b,.val,tmA ow d.rs st.tm b (looks ops o) .leaf,v⟩ } (match q with|true=>i::fl|false=>fl) K
    | .new=>match newA C (tmA ow d.rs st.tm b (looks ops o) .leaf) (plusA st.nx b (absM (recAt d.rs) d.c d.m) (d.M d.m) d.als) (st.nx+i) o with
     | some (ob,v)=>drawW ops ow st l (i+1) { d with rs:=d.rs.set i ⟨b,.new ob,tmA ow d.rs st.tm b (looks ops o) .leaf,v⟩,als:=(i,ob)::d.als } fl K
     | none=>False
    | _=>match (match d.m with|0=>true|k+1=>tb b (d.c k)) with
     | true=>wpOp S C o ⟨tmA ow d.rs st.tm b (looks ops o) .leaf,plusA st.nx b (absM (recAt d.rs) d.c d.m) (d.M d.m) d.als,d.N d.m,[]⟩ fun v hp nx =>
       match Nat.ble (d.N d.m) nx with
       | true=>drawW ops ow st l (i+1) { d with rs:=d.rs.set i ⟨b,.chg,tmA ow d.rs st.tm b (looks ops o) .leaf,v⟩,m:=d.m+1,c:=fnSet d.c d.m i,M:=fnSet d.M (d.m+1) hp,N:=fnSet d.N (d.m+1) nx } fl K
       | false=>False
     | false=>False
def inB (i:Nat):List Nat→Bool
 | []=>false
 | j::l=>match Nat.beq i j with|true=>true|false=>inB i l
noncomputable def okP (st:St) (d:DSt) (fl:List Nat) (o:Oper) (i:Nat) (r:DRec) (k:Nat):Prop :=
 match r.kd with
 | .val=>match inB i fl with
  | true=>True
  | false=>match mayAt d.rs d.m d.c i r.bef k with
   | false=>True
   | true=>valA C r.tm (plusA st.nx r.bef (absM (recAt d.rs) d.c k) (d.M k) d.als) o=some r.v
 | .new ob=>(match tb (absM (recAt d.rs) d.c k) i with
   | true=>True
   | false=>(d.M k).get (st.nx+i)=none) ∧
  (match mayAt d.rs d.m d.c i r.bef k with
   | false=>True
   | true=>newA C r.tm (plusA st.nx r.bef (absM (recAt d.rs) d.c k) (d.M k) d.als) (st.nx+i) o=some (ob,r.v))
 | _=>True
noncomputable def okPs (st:St) (d:DSt) (fl:List Nat) (o:Oper) (i:Nat) (r:DRec):Nat→Prop
 | 0=>okP C st d fl o i r 0
 | k+1=>okP C st d fl o i r (k+1)∧okPs st d fl o i r k
noncomputable def okPAll (st:St) (d:DSt) (fl:List Nat):List Oper→Nat→Prop
 | [],_=>True
 | o::l,i=>okPs C st d fl o i (recAt d.rs i) d.m∧okPAll st d fl l (i+1)
noncomputable def wpDraw (ops:List Oper) (st:St) (K:St→Prop):Prop :=
 match ownA nt ops 0 .leaf with
 | none=>False
 | some ow=>drawW S C ops ow st ops 0 ⟨.leaf,[],0,fun _=>0,fun _=>st.hp,fun _=>st.nx+ops.length⟩ [] fun d fl =>
   okPAll C st d fl ops 0∧lookAll ops ow d.rs ops 0=true∧K ⟨tmEnd d.rs ops 0 st.tm,plusAll st.nx (absM (recAt d.rs) d.c d.m) (d.M d.m) d.als,d.N d.m,st.df⟩
noncomputable def wpC:Code→St→(Ex→St→Prop)→Prop
 | .skip,st,Q=>Q .normal st
 | .label _,st,Q=>Q .normal st
 | .exit id,st,Q=>Q (.exit id) st
 | .goto l,st,Q=>Q (.goto l) st
 | .ret,st,Q=>Q .ret st
 | .region _ ops draw,st,Q=>match draw with
  | false=>wpOps S C nt ops.toList ops.toList st fun st=>Q .normal st
  | true=>wpDraw S C nt ops.toList st fun st=>Q .normal st
 | .seq a b,st,Q=>wpC a st fun e s=>match e with
  | .normal=>wpC b s Q
  | .exit i=>Q (.exit i) s
  | .goto i=>Q (.goto i) s
  | .ret=>Q .ret s
 | .cond c a b,st,Q=>match ev C st.tm c with
  | some (.bool t)=>match t with
   | true=>wpC a st Q
   | false=>wpC b st Q
  | _=>False
 | .block id c,st,Q=>wpC c st fun e s=>match e with
  | .exit i=>match Nat.beq i id with
   | true=>Q .normal s
   | false=>Q (.exit i) s
  | .normal=>Q .normal s
  | .goto i=>Q (.goto i) s
  | .ret=>Q .ret s
 | .loop c,st,Q=>S.loop c st Q
 | c,st,Q=>S.other c st Q
end
def cmp0 (op:BinOp) (a b:Int):Bool :=
 match op with
 | .eql=>decide (a=b)
 | .neq=>decide (a≠b)
 | .lss=>decide (a<b)
 | .leq=>decide (a≤b)
 | .gtr=>decide (b<a)
 | .geq=>decide (b≤a)
 | _=>false
def ar0 (op:BinOp) (k:IntKind) (a b:Int):Int :=
 match op with
 | .add=>k.wrap (a+b)
 | .sub=>k.wrap (a - b)
 | .mul=>k.wrap (a*b)
 | .and=>k.wrap (BitVec.ofInt k.bits a &&& BitVec.ofInt k.bits b).toNat
 | .or=>k.wrap (BitVec.ofInt k.bits a ||| BitVec.ofInt k.bits b).toNat
 | .xor=>k.wrap (BitVec.ofInt k.bits a ^^^ BitVec.ofInt k.bits b).toNat
 | .andNot=>k.wrap (BitVec.ofInt k.bits a &&& ~~~ BitVec.ofInt k.bits b).toNat
 | _=>0
def scmp0 (op:BinOp) (a b:List Nat):Bool :=
 match op with
 | .eql=>bytesEq a b
 | .neq=>!bytesEq a b
 | .lss=>bytesLt a b
 | .leq=>bytesLt a b||bytesEq a b
 | .gtr=>!(bytesLt a b||bytesEq a b)
 | .geq=>!bytesLt a b
 | _=>false
def SB.bytes:SB→List Nat
 | .s b=>bytesOf b
 | .l x=>x
def CellsB (B:Nat→Option Go.Obj) (p:Addr) (cs:List Value):Prop :=
 p.spot=none∧∃ arr e fz,B p.block=some (.cells arr e fz)∧∀ j v,cs[j]?=some v→arr[p.off+j]?=some v
def oneAll:List Value→Bool
 | []=>true
 | v::l=>match v.oneCell' with|true=>oneAll l|false=>false
section
variable (P:Program) (C:Ctx) (nt:Nat) (rd:Option Nat)
def OpR (o:Oper) (st:St) (K:AV→T Obj→Nat→Prop):Prop:=∃ v hp nx,OpOK P C o st.tm st.hp.get st.nx v hp.get nx∧K v hp nx
def LoadR (t:Nat) (p:Addr) (K:AV→Prop):Prop:=∃ ti cs,C.tt.get t=some ti∧CellsB C.base p cs ∧
 ((ti.k.agg=true∧cs.length=ti.size∧oneAll cs=true∧K (.agg (cs.map .val)))∨(ti.k.agg=false∧∃ v,cs=[v]∧v.oneCell'=true∧K (.val v)))
def LenR (t:Nat) (v:Value) (K:AV→Prop):Prop:=∃ ti,C.tt.get t=some ti ∧
 ((∃ e a n c,ti.k=.sl e∧v=.slice a n c∧K (.val (.int .i64 (Int.ofNat n))))∨(ti.k=.str∧∃ s,v=.string s∧K (.val (.int .i64 (Int.ofNat s.size)))))
def IndexR (t:Nat) (v:Value) (i:Int) (K:AV→Prop):Prop:=∃ ti e te b off n c,∃ j:Nat,C.tt.get t=some ti∧ti.k=.sl e∧C.tt.get e=some te ∧
 v=.slice (some ⟨b,off,none⟩) n c∧i=Int.ofNat j∧j<n∧K (.val (.pointer (some ⟨b,off+j*te.size,none⟩)))
def CallR (f:FuncId) (args:List AV) (hp:T Obj) (nx:Nat) (K:AV→T Obj→Nat→Prop):Prop :=
 ∃ v hp' nx',Enters P f∧CallOK P C f args hp.get nx v hp'.get nx'∧K v hp' nx'
def CallvR (fv:Value) (args:List AV) (hp:T Obj) (nx:Nat) (K:AV→T Obj→Nat→Prop):Prop :=
 ∃ f first cap v hp' nx',fv=.func (.func f) first cap∧oneAll first.toList=true∧oneAll cap.toList=true∧Enters P f∧CallOK P C f (first.toList.map .val++args++cap.toList.map .val) hp.get nx v hp'.get nx'∧K v hp' nx'
def PureR (o:Oper) (tm:T AV) (K:AV→Prop):Prop:=∃ v,(∀ H nx,OpOK P C o tm H nx v H nx)∧K v
structure SyR (S:Sy):Prop where
 cmp:∀ op a b K,S.cmp op a b K→K (cmp0 op a b)
 scmp:∀ op a b K,S.scmp op a b K→K (scmp0 op a.bytes b.bytes)
 ar:∀ op k a b K,S.ar op k a b K→K (ar0 op k a b)
 wr:∀ k n K,S.wr k n K→K (k.wrap n)
 add:∀ p n K,S.add p n K→K (Addr.add p n)
 op:∀ o st K,S.op o st K→OpR P C o st K
 load:∀ t p K,S.load t p K→LoadR C t p K
 len:∀ t v K,S.len t v K→LenR C t v K
 index:∀ t v i K,S.index t v i K→IndexR C t v i K
 call:∀ f args hp nx K,S.call f args hp nx K→CallR P C f args hp nx K
 callv:∀ f args hp nx K,S.callv f args hp nx K→CallvR P C f args hp nx K
 vop:∀ o tm K,S.vop o tm K→PureR P C o tm K
 loop:∀ c st Q,S.loop c st Q→CodeP P C nt rd (.loop c) st Q
 other:∀ c st Q,S.other c st Q→CodeP P C nt rd c st Q
end
def cmpB:BinOp→Bool
 | .eql|.neq|.lss|.leq|.gtr|.geq=>true
 | _=>false
def shB:BinOp→Bool
 | .shl|.shr=>true
 | _=>false
theorem intOp_cmp {op:BinOp} {k:IntKind} {a b:Int} (h:cmpB op=true):intOp op k a b=some (.bool (cmp0 op a b)):=by
 cases op<;>first|(cases h;done)|(simp [intOp,cmp0,intEq_iff,intLt_iff];done)|(simp [intOp,cmp0,intEq_iff,intLt_iff];rw [Bool.eq_iff_iff];simp;done)|(simp [intOp,cmp0,intEq_iff,intLt_iff];rw [Bool.eq_iff_iff];simp;omega)
section
variable {P:Program} {C:Ctx} {nt:Nat} {rd:Option Nat} {S:Sy} {φ:Phi}
theorem symInt_ok (hS:SyR P C nt rd S) {op:BinOp} {k:IntKind} {a b:Int} {K:AV→Prop} {F:Prop} (h:symInt S op k a b K F) {t:Nat} {ti:TI} (hti:TIok P t ti) (x y:Operand) :
  F∨∃ v,K v∧∀ (φ:Phi) (w:World),∃ r',VRel φ v r'∧((do eqGuard op t x y (.int k a) (.int k b);binOp op t (.int k a) (.int k b)):Sem Value).run P w=.ok r' w:=by
 have hk:kindEq k k=true:=by cases k<;>rfl
 have key:∀ r v,intOp op k a b=some r→(∀ φ x,VRel φ r x→VRel φ v x)→shB op=false →
   ∀ (φ:Phi) (w:World),∃ r',VRel φ v r'∧((do eqGuard op t x y (.int k a) (.int k b);binOp op t (.int k a) (.int k b)):Sem Value).run P w=.ok r' w:=by
  intro r v hr hv Ho φ w
  have hb:binA ti op (.int k a) (.int k b)=some r:=by
   unfold binA
   cases op<;>first|(cases Ho;done)|simp only [hk,hr]
  obtain⟨r',h1,h2⟩:=binA_ok (φ:=φ) hti hb (.int k a) (.int k b) w x y
  exact⟨r',hv _ _ h1,h2⟩
 unfold symInt at h
 split at h<;>first
  | exact .inr ⟨_,hS.cmp _ _ _ _ h,key _ _ (intOp_cmp rfl) (fun _ _ q=>q) rfl⟩
  | exact .inr ⟨_,hS.ar _ _ _ _ _ h,key (.int k _) _ (by simp only [intOp,wrapF_eq];rfl) (fun _ _ q=>by cases q;exact .val _ rfl) rfl⟩
  | exact .inl h
theorem symStr_not (hS:SyR P C nt rd S) {op:BinOp} {a b:SB} {K:AV→Prop} {F:Prop} {G:Prop} (h:symStr S op a b K F) (hG:∀ v,K v→G):F∨G:=by
 unfold symStr at h
 split at h<;>first
  | exact .inr (hG _ (hS.scmp _ _ _ _ h))
  | exact .inl h
theorem symStr_ok (hS:SyR P C nt rd S) {op:BinOp} {a b:ByteArray} {a0 b0:SB} (ea:a0.bytes=bytesOf a) (eb:b0.bytes=bytesOf b) {K:AV→Prop} {F:Prop} (h:symStr S op a0 b0 K F) {t:Nat} {ti:TI} (hti:TIok P t ti) (x y:Operand) :
  F∨∃ v,K v∧∀ (φ:Phi) (w:World),∃ r',VRel φ v r'∧((do eqGuard op t x y (.string a) (.string b);binOp op t (.string a) (.string b)):Sem Value).run P w=.ok r' w:=by
 have key:∀ r,strOp op (bytesOf a) (bytesOf b)=some r →
   ∀ (φ:Phi) (w:World),∃ r',VRel φ r r'∧((do eqGuard op t x y (.string a) (.string b);binOp op t (.string a) (.string b)):Sem Value).run P w=.ok r' w :=
  fun r hr φ w=>binA_ok (φ:=φ) hti (by unfold binA;exact hr) (.str a) (.str b) w x y
 unfold symStr at h
 split at h<;>first
  | (have h:=hS.scmp _ _ _ _ h;rw [ea,eb] at h;exact .inr ⟨_,h,key _ rfl⟩)
  | exact .inl h
theorem symBin_ok (hS:SyR P C nt rd S) {op:BinOp} {a b:AV} {K:AV→Prop} {F:Prop} (h:symBin S op a b K F) {t:Nat} {ti:TI} (hti:TIok P t ti) (x y:Operand) :
  F∨∃ v,K v∧∀ (φ:Phi) (w:World) (a' b':Value),VRel φ a a'→VRel φ b b'→∃ r',VRel φ v r'∧((do eqGuard op t x y a' b';binOp op t a' b'):Sem Value).run P w=.ok r' w:=by
 unfold symBin at h
 split at h
 ·split at h
  ·next hk =>
   rw [kindEq_iff] at hk;subst hk
   rcases symInt_ok hS h hti x y with q|⟨v,h1,h2⟩
   ·exact .inl q
   ·exact .inr ⟨v,h1,fun φ w a' b' ha hb=>by cases ha;cases hb;exact h2 φ w⟩
  ·exact .inl h
 ·split at h
  ·next hk =>
   rw [kindEq_iff] at hk;subst hk
   rcases symInt_ok hS h hti x y with q|⟨v,h1,h2⟩
   ·exact .inl q
   ·exact .inr ⟨v,h1,fun φ w a' b' ha hb=>by cases ha;cases hb;exact h2 φ w⟩
  ·exact .inl h
 ·split at h
  ·next hk =>
   rw [kindEq_iff] at hk;subst hk
   rcases symInt_ok hS h hti x y with q|⟨v,h1,h2⟩
   ·exact .inl q
   ·exact .inr ⟨v,h1,fun φ w a' b' ha hb=>by cases ha;cases hb;exact h2 φ w⟩
  ·exact .inl h
 ·next a1 b1 =>
  rcases symStr_ok hS (a:=a1) (b:=b1) rfl rfl h hti x y with q|⟨v,h1,h2⟩
  ·exact .inl q
  ·exact .inr ⟨v,h1,fun φ w a' b' ha hb=>by cases ha;cases hb;exact h2 φ w⟩
 ·next a1 l =>
  by_cases hl:∃ s,l=bytesOf s
  ·obtain⟨s,rfl⟩:=hl
   rcases symStr_ok hS (a:=a1) (b:=s) rfl rfl h hti x y with q|⟨v,h1,h2⟩
   ·exact .inl q
   ·exact .inr ⟨v,h1,fun φ w a' b' ha hb=>by
     cases ha
     obtain⟨s',rfl,e⟩:=hb.inv_str
     rw [← bytesOf_inj e];exact h2 φ w⟩
  ·exact symStr_not hS h fun v h1=>⟨v,h1,fun φ w a' b' ha hb=>by
    obtain⟨s',_,e⟩:=hb.inv_str
    exact(hl ⟨s',e⟩).elim⟩
 ·next l b1 =>
  by_cases hl:∃ s,l=bytesOf s
  ·obtain⟨s,rfl⟩:=hl
   rcases symStr_ok hS (a:=s) (b:=b1) rfl rfl h hti x y with q|⟨v,h1,h2⟩
   ·exact .inl q
   ·exact .inr ⟨v,h1,fun φ w a' b' ha hb=>by
     cases hb
     obtain⟨s',rfl,e⟩:=ha.inv_str
     rw [← bytesOf_inj e];exact h2 φ w⟩
  ·exact symStr_not hS h fun v h1=>⟨v,h1,fun φ w a' b' ha hb=>by
    obtain⟨s',_,e⟩:=ha.inv_str
    exact(hl ⟨s',e⟩).elim⟩
 ·exact .inl h
theorem oneAll_mem:∀ {l:List Value},oneAll l=true→∀ v∈l,v.oneCell'=true
 | [],_,v,h=>by simp at h
 | x::l,h,v,hv=>by
  simp only [oneAll] at h
  split at h
  ·next hx =>
   rcases List.mem_cons.1 hv with rfl|hv
   ·exact hx
   ·exact oneAll_mem h v hv
  ·simp at h
theorem vals_rel:∀ {l:List Value},oneAll l=true→VRels φ (l.map .val) l
 | [],_=>.nil
 | x::l,h=>by
  have h1:=oneAll_mem h x List.mem_cons_self
  simp only [oneAll,h1] at h
  exact .cons (.val _ h1) (vals_rel h)
theorem opLoad (hC:CtxOk P C) {o:Oper} {tm:T AV} {t:Nat} {x:Operand} {p:Addr} (ho:o.op=.load t x) (hx:ev C tm x=some (.val (.pointer (some p)))) {K:AV→Prop} (h:LoadR C t p K):PureR P C o tm K:=by
 obtain⟨ti,cs,hti,⟨hs,arr,e,fz,hb,hcs⟩,h⟩:=h
 obtain⟨b,i,sp⟩:=p
 simp only at hs;subst hs
 have hT:=hC t ti hti
 rcases h with⟨hag,Hn,hone,hK⟩|⟨hag,v,rfl,hone,hK⟩
 ·refine⟨_,fun H nx=>.pure (fun c q=>by rw [ho] at q;cases q) fun φ w a hr hg htm=>?_,hK⟩
  obtain⟨d,hd,hk⟩:=hT.und
  have hv:=val_inv (ev_rel hg.gl htm hx)
  have hblk:=(hg.base b _ hb).1
  have Hl:(Instr.loadAt t (.pointer (some ⟨b,i,none⟩))).run P w=.ok (.agg cs.toArray) w:=by
   refine run_loadAt_mid w b i t cs d (fun j v hj=>?_) hd ?_ (by rw [hT.info?,Hn])
   ·simp only [World.cell?,hblk]
    simpa using hcs j v hj
   ·rw [← hk] at hag
    cases d<;>first|rfl|simp [TK.of,TK.agg] at hag
  refine⟨.agg cs.toArray,.agg (by simpa using vals_rel hone),?_⟩
  simp only [execOp,ho,Sem.run_bind,hv,Hl];rfl
 ·refine⟨_,fun H nx=>.pure (fun c q=>by rw [ho] at q;cases q) fun φ w a hr hg htm=>?_,hK⟩
  have hv:=val_inv (ev_rel hg.gl htm hx)
  have hblk:=(hg.base b _ hb).1
  have hcell:w.cell? ⟨b,i,none⟩=some v:=by
   simp only [World.cell?,hblk]
   simpa using hcs 0 v rfl
  refine⟨v,.val _ hone,?_⟩
  simp [execOp,ho,hv,Instr.loadAt,Instr.sureAddr,loadVar,hT.isAgg,hag,hcell]
theorem opLen (hC:CtxOk P C) {o:Oper} {tm:T AV} {t:Nat} {c:Call} {x:Operand} {v:Value} (ho:o.op=.call c) (hc:c.callee=.builtin .len) (hargs:c.args.toList=[x]) (htys:c.argTypes.toList=[t])
  (hx:ev C tm x=some (.val v)) {K:AV→Prop} (h:LenR C t v K):PureR P C o tm K:=by
 obtain⟨ti,hti,h⟩:=h
 have hT:=hC t ti hti
 have hargs':c.args=#[x]:=by rw [← hargs]
 have htys':c.argTypes=#[t]:=by rw [← htys]
 rcases h with⟨e,a,n,cp,hk,rfl,hK⟩|⟨hk,s,rfl,hK⟩
 ·refine⟨_,fun H nx=>.pure (fun c q=>by rw [ho] at q;cases q) fun φ w a hr hg htm=>?_,hK⟩
  have hv:=val_inv (ev_rel hg.gl htm hx)
  have hd:=hT.sl hk
  obtain⟨cs,hcs⟩:=run_builtin (P:=P) (ρ:=a.eval) ho hc w
  refine⟨_,.val _ rfl,?_⟩
  rw [hcs,hargs',htys']
  simp [builtin,Builtin.len_,run_underlying hd,goInt,hv]
 ·refine⟨_,fun H nx=>.pure (fun c q=>by rw [ho] at q;cases q) fun φ w a hr hg htm=>?_,hK⟩
  have hv:=val_inv (ev_rel hg.gl htm hx)
  have hd:=hT.str hk
  obtain⟨cs,hcs⟩:=run_builtin (P:=P) (ρ:=a.eval) ho hc w
  refine⟨_,.val _ rfl,?_⟩
  rw [hcs,hargs',htys']
  simp [builtin,Builtin.len_,run_underlying hd,goInt,hv]
theorem opIndex (hC:CtxOk P C) {o:Oper} {tm:T AV} {t:Nat} {x i:Operand} {v:Value} {m:Int} (ho:o.op=.indexAddr t x i) (hx:ev C tm x=some (.val v))
  (hi:∃ k,∀ φ u,(∃ y,ev C tm i=some y∧VRel φ y u)→u=.int k m) (hi2:∃ y,ev C tm i=some y) {K:AV→Prop} (h:IndexR C t v m K):PureR P C o tm K:=by
 obtain⟨ti,e,te,b,off,n,c,j,ht,hk,hte,rfl,rfl,hlt,hK⟩:=h
 refine⟨_,fun H nx=>.pure (fun c q=>by rw [ho] at q;cases q) fun φ w a hr hg htm=>?_,hK⟩
 have hv:=val_inv (ev_rel hg.gl htm hx)
 obtain⟨k,hi⟩:=hi
 obtain⟨y,hy⟩:=hi2
 have hi':=hi φ _ ⟨y,hy,ev_rel hg.gl htm hy⟩
 have hd:P.underlying t=some (.slice (P.elem t)):=by simp [Program.elem,(hC t ti ht).sl hk]
 have e1:P.elem t=e:=by simp [Program.elem,(hC t ti ht).sl hk]
 refine⟨_,.val _ rfl,?_⟩
 simp only [execOp,ho,Sem.run_bind,hv,hi']
 rw [run_indexAt_slice _ _ _ _ _ _ _ hd,if_pos (by simp;omega),e1,(hC e te hte).sizeOf]
 simp [Addr.add_mid]
theorem opField (hC:CtxOk P C) {o:Oper} {tm:T AV} {H:Hp} {nx:Nat} {s f:Nat} {x:Operand} {p:Addr} (ho:o.op=.fieldAddr s x f) (hx:ev C tm x=some (.val (.pointer (some p)))) {ti tf:TI} {fs:List (Nat×Nat)} {q:Nat×Nat}
  (hti:C.tt.get s=some ti) (hk:ti.k=.st fs) (hq:nth fs f=some q) (htf:C.tt.get q.2=some tf) (hz:Nat.beq tf.size 0=false) :
  OpOK P C o tm H nx (.val (.pointer (some (p.add q.1)))) H nx:=by
 refine .pure (fun c q=>by rw [ho] at q;cases q) fun φ w a hr hg htm=>?_
 obtain⟨gs,hgs,hfs⟩:=(hC s ti hti).st hk
 have hv:=val_inv (ev_rel hg.gl htm hx)
 rw [nth_eq,hfs,List.getElem?_map] at hq
 cases hg':gs.toList[f]? with
 | none=>rw [hg'] at hq;simp at hq
 | some fd =>
  rw [hg'] at hq
  simp only [Option.map_some,Option.some.injEq] at hq;subst hq
  have hg'':gs[f]?=some fd:=by simpa using hg'
  have hne:¬ tf.size=0:=by intro e;rw [e] at hz;simp at hz
  refine⟨_,.val _ rfl,?_⟩
  simp [execOp,ho,hv,Instr.fieldAt,run_underlying hgs,hg'',Instr.sureAddr,fieldPlace,(hC _ _ htf).sizeOf,hne]
theorem opCallv {o:Oper} {c:Call} {x:Operand} {f:FuncId} {first cap:Array Value} {args:List AV} {tm:T AV} {H H':Hp} {nx nx':Nat} {v:AV} (ho:o.op=.call c) (hc:c.callee=.value x)
  (hx:ev C tm x=some (.val (.func (.func f) first cap))) (hargs:evs C tm c.args.toList=some args) (hf:Enters P f) (h1:oneAll first.toList=true) (h2:oneAll cap.toList=true)
  (h:CallOK P C f (first.toList.map .val++args++cap.toList.map .val) H nx v H' nx'):OpOK P C o tm H nx v H' nx':=by
 intro φ w a hr hg ht r n K Q hK
 have hb:=val_inv (ev_rel hg.gl ht hx)
 have hl:=evs_rel hg.gl ht hargs
 refine wpIn_fw (fun c hc=>by rw [ho] at hc;cases hc) ?_
 have hrun:(execOp a.eval o).run P w=.ok (.enter f (first++c.args.map a.eval++cap)) w:=by
  simp only [execOp,ho,Sem.run_bind,resolve,hc,Deferred.ofValue,hb,Sem.run_pure,Result.andThen_ok,invoke]
  exact hf _ _
 rw [hrun,Oper.uponIn_enter]
 refine⟨fun q=>by simp [Fw,Fence.wide] at q,callsIn_fw ((h φ w (first++c.args.map a.eval++cap) hr hg ?_).mono ?_)⟩
 ·simp only [Array.toList_append,Array.toList_map]
  exact((vals_rel h1).append hl).append (vals_rel h2)
 ·rintro e w' ⟨v',φ',rfl,h1,h2,h3⟩
  exact hK φ' v' w' h1 h2 h3
theorem opNil {o:Oper} {tm:T AV} {H:Hp} {nx:Nat} {x:Operand} {v:Value} (ho:o.op=.nilCheck x) (hx:ev C tm x=some (.val v)) (h:∀ w,(execOp (fun _=>v) o).run P w=.ok (.value v) w) (hv:v.oneCell'=true) :
  OpOK P C o tm H nx (.val v) H nx:=by
 refine .pure (fun c q=>by rw [ho] at q;cases q) fun φ w a hr hg htm=>?_
 have hv':=val_inv (ev_rel hg.gl htm hx)
 refine⟨v,.val _ hv,?_⟩
 have:=h w
 simp only [execOp,ho] at this ⊢
 rw [hv']
 exact this
theorem opConv (hC:CtxOk P C) {o:Oper} {tm:T AV} {H:Hp} {nx:Nat} {s d:Nat} {x:Operand} {k k':IntKind} {n:Int} {ts td:TI} (ho:o.op=.convert s d x) (hx:ev C tm x=some (.val (.int k n))) (hs:C.tt.get s=some ts) (hd:C.tt.get d=some td) (hk:td.k=.int k') :
  OpOK P C o tm H nx (.val (.int k' (k'.wrap n))) H nx:=by
 refine .pure (fun c q=>by rw [ho] at q;cases q) fun φ w a hr hg htm=>?_
 have hv:=val_inv (ev_rel hg.gl htm hx)
 obtain⟨ds,hds,hks⟩:=(hC s _ hs).und
 refine⟨_,.val _ rfl,?_⟩
 simp [execOp,ho,convert,run_underlying hds,run_underlying ((hC d _ hd).int hk),hv,Conv.intToInt]
theorem opBin (hC:CtxOk P C) (hS:SyR P C nt rd S) {o:Oper} {tm:T AV} {op:BinOp} {t u:Nat} {x y:Operand} {a b:AV} {ti:TI} {K:AV→Prop} {F:Prop} (ho:o.op=.binOp op t x y u) (hti:C.tt.get t=some ti) (hx:ev C tm x=some a) (hy:ev C tm y=some b) (h:symBin S op a b K F) :
  F∨PureR P C o tm K:=by
 rcases symBin_ok hS h (hC t ti hti) x y with q|⟨v,h1,h2⟩
 ·exact .inl q
 ·refine .inr ⟨v,fun H nx=>.pure (fun c q=>by rw [ho] at q;cases q) fun φ w a' hr hg htm=>?_,h1⟩
  obtain⟨r',h3,h4⟩:=h2 φ w _ _ (ev_rel hg.gl htm hx) (ev_rel hg.gl htm hy)
  exact⟨r',h3,by simp only [execOp,ho,Sem.run_bind] at h4 ⊢;rw [h4];rfl⟩
theorem wpSym_ok (hC:CtxOk P C) (hS:SyR P C nt rd S) {o:Oper} {tm:T AV} {K:AV→Prop} (h:wpSym S C o tm K):PureR P C o tm K:=by
 unfold wpSym at h
 split at h
 ·next op t x y u ho =>
  split at h
  ·next ti a b hti hx hy =>
   rcases opBin hC hS ho hti hx hy h with q|q
   ·exact hS.vop _ _ _ q
   ·exact q
  ·exact hS.vop _ _ _ h
 ·next s d x ho =>
  split at h
  ·next ts td k n hs hd hx =>
   split at h
   ·next k' hk =>
    exact⟨_,fun H nx=>opConv hC ho hx hs hd hk,hS.wr _ _ _ h⟩
   ·exact hS.vop _ _ _ h
  ·exact hS.vop _ _ _ h
 ·next t x ho =>
  split at h
  ·next p hx=>exact opLoad hC ho hx (hS.load _ _ _ h)
  ·exact hS.vop _ _ _ h
 ·next s x f ho =>
  split at h
  ·next p hx =>
   split at h
   ·next ti hti =>
    split at h
    ·next fs hk =>
     split at h
     ·next q hq =>
      split at h
      ·next tf htf =>
       split at h
       ·next hz =>
        exact⟨_,fun H nx=>opField hC ho hx hti hk hq htf hz,hS.add _ _ _ h⟩
       ·exact hS.vop _ _ _ h
      ·exact hS.vop _ _ _ h
     ·exact hS.vop _ _ _ h
    ·exact hS.vop _ _ _ h
   ·exact hS.vop _ _ _ h
  ·exact hS.vop _ _ _ h
 ·next t x i ho =>
  split at h
  ·next v k n hx hi =>
   refine opIndex hC ho hx ⟨k,?_⟩ ⟨_,hi⟩ (hS.index _ _ _ _ h)
   rintro φ u ⟨y,hy,hr⟩
   rw [hi] at hy;cases hy;cases hr;rfl
  ·next v k n hx hi =>
   refine opIndex hC ho hx ⟨k,?_⟩ ⟨_,hi⟩ (hS.index _ _ _ _ h)
   rintro φ u ⟨y,hy,hr⟩
   rw [hi] at hy;cases hy;cases hr;rfl
  ·exact hS.vop _ _ _ h
 ·next x ho =>
  split at h
  ·next p hx=>exact⟨_,fun H nx=>opNil ho hx (fun w=>by simp only [execOp,ho];rfl) rfl,h⟩
  ·next f a b hx=>exact⟨_,fun H nx=>opNil ho hx (fun w=>by simp only [execOp,ho];rfl) rfl,h⟩
  ·exact hS.vop _ _ _ h
 ·next c ho =>
  split at h
  ·next hc =>
   split at h
   ·next x t ha ht =>
    split at h
    ·next v hx=>exact opLen hC ho hc ha ht hx (hS.len _ _ _ h)
    ·exact hS.vop _ _ _ h
   ·exact hS.vop _ _ _ h
  ·exact hS.vop _ _ _ h
 ·exact hS.vop _ _ _ h
theorem wpVal_ok (hC:CtxOk P C) (hS:SyR P C nt rd S) {o:Oper} {tm:T AV} {hp:T Obj} {K:Bool→AV→Prop} (h:wpVal S C o tm hp K) :
  (∃ v,valA C tm hp o=some v∧K false v)∨∃ v,(∀ H nx,OpOK P C o tm H nx v H nx)∧K true v:=by
 unfold wpVal at h
 split at h
 ·next v hv=>exact .inl ⟨v,hv,h⟩
 ·exact .inr (wpSym_ok hC hS h)
theorem wpOp_ok (hC:CtxOk P C) (hS:SyR P C nt rd S) {o:Oper} {st:St} {K:AV→T Obj→Nat→Prop} (h:wpOp S C o st K):OpR P C o st K:=by
 unfold wpOp at h
 split at h
 ·rcases wpVal_ok hC hS h with⟨v,hv,hK⟩|⟨v,hv,hK⟩
  ·exact⟨v,_,_,OpOK.val hC hv _,hK⟩
  ·exact⟨v,_,_,hv _ _,hK⟩
 ·split at h
  ·next ob v hv =>
   refine⟨_,_,_,?_,h⟩
   rw [set_get]
   exact OpOK.new hC (Nat.le_refl _) (Nat.lt_succ_self _) hv
  ·exact hS.op _ _ _ h
 ·split at h
  ·exact hS.op _ _ _ h
  ·split at h
   ·exact hS.op _ _ _ h
   ·split at h
    ·next r hv=>exact⟨_,_,_,OpOK.chg hC hv,h⟩
    ·exact hS.op _ _ _ h
  ·split at h
   ·next r hv=>exact⟨_,_,_,OpOK.chg hC hv,h⟩
   ·exact hS.op _ _ _ h
 ·split at h
  ·next c ho =>
   split at h
   ·next x hc =>
    split at h
    ·next f first cap args hx ha =>
     obtain⟨v,hp,nx,h1,h2,h3⟩:=hS.call _ _ _ _ _ h
     exact⟨v,hp,nx,OpOK.call ho hc hx ha h1 h2,h3⟩
    ·next fv args hx ha =>
     obtain⟨f,first,cap,v,hp,nx,rfl,h1,h2,h3,h4,h5⟩:=hS.callv _ _ _ _ _ h
     exact⟨v,hp,nx,opCallv ho hc hx ha h3 h1 h2 h4,h5⟩
    ·exact hS.op _ _ _ h
   ·exact hS.op _ _ _ h
  ·exact hS.op _ _ _ h
theorem wpOps_ok (hC:CtxOk P C) (hS:SyR P C nt rd S) {b:Bool} {ops:List Oper}:∀ {l:List Oper} {st:St} {K:St→Prop},wpOps S C nt ops l st K→∃ st',OpsR P C nt b ops l st st'∧K st':=by
 intro l
 induction l with
 | nil=>intro st K h;exact⟨st,.nil _,h⟩
 | cons o l ih =>
  intro st K h
  unfold wpOps at h
  split at h
  ·exact h.elim
  ·next hd =>
   split at h
   ·next hw =>
    obtain⟨v,hp,nx,h1,h2⟩:=wpOp_ok hC hS h
    obtain⟨st',h3,h4⟩:=ih h2
    exact⟨st',.step hw (dstB_ok hd) h1 h3,h4⟩
   ·next hw =>
    obtain⟨st',h3,h4⟩:=ih h
    exact⟨st',.skip hw (dstB_ok hd) h3,h4⟩
   ·exact h.elim
section
variable {ops:Array Oper} {st:St}
theorem drawW_ok (hC:CtxOk P C) (hS:SyR P C nt rd S) {n:Nat} {ow:T Nat} (hn:ops.size≤n) (how:Owns ops nt n ow):∀ {l:List Oper} {i:Nat} {d:DSt} {fl:List Nat} {K:DSt→List Nat→Prop},ops.toList.drop i=l→i≤ops.size→Pre P C ops st i d →
  (∀ j o,inB j fl=true→ops[j]?=some o→j<i∧∀ H nx,OpOK P C o (recAt d.rs j).tm H nx (recAt d.rs j).v H nx) →
  drawW S C ops.toList ow st l i d fl K→∃ d' fl',Pre P C ops st ops.size d'∧(∀ j o,inB j fl'=true→ops[j]?=some o→∀ H nx,OpOK P C o (recAt d'.rs j).tm H nx (recAt d'.rs j).v H nx)∧K d' fl':=by
 intro l
 induction l with
 | nil =>
  intro i d fl K hi hle h hf hg
  have:=drop_nil hi
  have e:i=ops.size:=by omega
  subst e
  exact⟨d,fl,h,fun j o h1 h2=>(hf j o h1 h2).2,hg⟩
 | cons o l ih =>
  intro i d fl K hi hle h hf hg
  obtain⟨ho,hi'⟩:=drop_head hi
  have hlts:i<ops.size:=(Array.getElem?_eq_some_iff.1 ho).1
  unfold drawW at hg
  split at hg
  ·exact hg.elim
  ·next b hb =>
   obtain⟨hb1,hord⟩:=befA_ok hb
   have hbef:∀ x,b.testBit x=true↔∃ e∈o.after,Region.binds .any e=true∧(x=e.on∨(recAt d.rs e.on).bef.testBit x=true):=fun x=>by rw [hb1 x];simp [Array.mem_toList_iff]
   have hord':∀ e∈o.after,Region.binds .any e=true→e.on<i:=fun e he hbb=>hord e (by simpa using he) hbb
   have hlt:∀ x,b.testBit x=true→x<i:=fun x hx=>by
    obtain⟨e,he,hbb,h1⟩:=(hbef x).1 hx
    have h2:=hord' e he hbb
    rcases h1 with rfl|h1
    ·exact h2
    ·have:=h.lt _ _ h2 h1;omega
   have htm:TmOk ops st (recAt d.rs) (looks ops.toList o) b (tmA ow d.rs st.tm b (looks ops.toList o) .leaf):=tmA_ok hn how (fun _ h=>h) (fun t v hv=>by simp at hv)
   have old:∀ (r:DRec) (j:Nat) (o':Oper),inB j fl=true→ops[j]?=some o'→j<i+1∧∀ H nx,OpOK P C o' (recAt (d.rs.set i r) j).tm H nx (recAt (d.rs.set i r) j).v H nx:=by
    intro r j o' h1 h2
    obtain⟨h3,h4⟩:=hf j o' h1 h2
    rw [recAt_set,if_neg (by omega)]
    exact⟨by omega,h4⟩
   split at hg
   ·exact hg.elim
   ·next hw=>exact ih hi' (by omega) (h.one ho (r:=⟨b,.off,_,undefA⟩) hbef hord' htm hw (fun _=>rfl) (by simp) (als:=d.als) (fun j ob=>by simp)) (old _) hg
   ·next hw =>
    split at hg
    ·rcases wpVal_ok hC hS hg with⟨v,hv,hK⟩|⟨v,hv,hK⟩
     ·exact ih hi' (by omega) (h.one ho (r:=⟨b,.val,_,v⟩) hbef hord' htm hw (fun q=>by cases q) (by simp) (als:=d.als) (fun j ob=>by simp)) (old _) hK
     ·refine ih hi' (by omega) (h.one ho (r:=⟨b,.val,_,v⟩) hbef hord' htm hw (fun q=>by cases q) (by simp) (als:=d.als) (fun j ob=>by simp)) ?_ hK
      intro j o' h1 h2
      simp only [inB] at h1
      split at h1
      ·next q =>
       have q:=Nat.eq_of_beq_eq_true q;subst q
       rw [ho] at h2;cases h2
       rw [recAt_set,if_pos rfl]
       exact⟨Nat.lt_succ_self _,hv⟩
      ·exact old _ j o' h1 h2
    ·split at hg
     ·next ob v hv=>exact ih hi' (by omega) (h.one ho (r:=⟨b,.new ob,_,v⟩) hbef hord' htm hw (fun q=>by cases q) (by simp) (als:=(i,ob)::d.als) (fun j ob'=>by
       simp only [List.mem_cons,Prod.mk.injEq,DK.new.injEq]
       constructor
       ·rintro(⟨a,b⟩|a)
        ·exact .inr ⟨a,b.symm⟩
        ·exact .inl a
       ·rintro(a|⟨a,b⟩)
        ·exact .inr a
        ·exact .inl ⟨a,b.symm⟩)) (old _) hg
     ·exact hg.elim
    ·split at hg
     ·next hl =>
      obtain⟨v,hp,nx,h1,h2⟩:=wpOp_ok hC hS hg
      split at h2
      ·next hnx =>
       refine ih hi' (by omega) (h.turn ho (r:=⟨b,.chg,_,v⟩) hbef hord' htm hw rfl ?_ (Nat.le_of_ble_eq_true hnx) ?_) (old _) h2
       ·intro k hk
        rw [hk] at hl
        simpa [tb_eq] using hl
       ·rw [← h.plus hle hlt]
        exact h1
      ·exact h2.elim
     ·exact hg.elim
theorem okPs_ok {d:DSt} {fl:List Nat} {o:Oper} {i:Nat} {r:DRec}:∀ {m:Nat},okPs C st d fl o i r m→∀ k,k≤m→okP C st d fl o i r k:=by
 intro m
 induction m with
 | zero=>intro h k hk;have:k=0:=by omega
         subst this;exact h
 | succ m ih =>
  intro h k hk
  by_cases e:k=m+1
  ·subst e;exact h.1
  ·exact ih h.2 k (by omega)
theorem okPAll_ok {d:DSt} {fl:List Nat}:∀ {l:List Oper} {i:Nat},ops.toList.drop i=l→okPAll C st d fl l i→∀ (j:Nat) (o:Oper),i≤j→ops[j]?=some o→∀ k,k≤d.m→okP C st d fl o j (recAt d.rs j) k:=by
 intro l
 induction l with
 | nil =>
  intro i hi h j o hj ho
  have:=drop_nil hi
  have:=(Array.getElem?_eq_some_iff.1 ho).1
  omega
 | cons o l ih =>
  intro i hi h j o' hj ho' k hk
  obtain⟨ho,hi'⟩:=drop_head hi
  by_cases e:j=i
  ·subst e;rw [ho] at ho';cases ho';exact okPs_ok h.1 k hk
  ·exact ih hi' h.2 j o' (by omega) ho' k hk
theorem wpDraw_ok (hP:ProgOk P C) (hS:SyR P C nt rd S) {K:St→Prop} (h:wpDraw S C nt ops.toList st K):∃ st',(∀ id,CodeOK P C nt rd (.region id ops true) st .normal st')∧K st':=by
 have hC:=hP.ctx
 unfold wpDraw at h
 split at h
 ·exact h.elim
 ·next ow how0 =>
  obtain⟨n,hn,how⟩:=ownA_ok (ops:=ops) (i:=0) rfl ⟨fun d j=>by simp,fun j o hj=>by omega⟩ how0
  obtain⟨d,fl,hpre,hfl,hok,hlook,hK⟩:=drawW_ok hC hS hn how (i:=0) rfl (Nat.zero_le _)
   ⟨fun j o hj=>by omega,fun j x hj=>by omega,fun j o hj=>by omega,fun j hj=>by omega,fun j o hj=>by omega,fun j hj=>by omega,fun k hk=>by simp at hk,fun j hj=>by omega,fun k hk=>by simp at hk,
     fun j ob=>by simp,rfl,by simp,fun k hk=>by simp at hk⟩ (fun j o h=>by simp [inB] at h) h
  refine⟨_,fun id=>?_,hK⟩
  have hlook':=lookAll_ok (ops:=ops) (i:=0) rfl hlook
  have hok':=okPAll_ok (ops:=ops) (i:=0) rfl hok
  have hlt:∀ {j:Nat} {o:Oper},ops[j]?=some o→j<ops.size:=fun h=>(Array.getElem?_eq_some_iff.1 h).1
  refine CodeOK.draw (R:=recAt d.rs) (m:=d.m) (c:=d.c) (M:=d.M) (N:=d.N) (G:=fun k i=>plusA st.nx (recAt d.rs i).bef (absM (recAt d.rs) d.c k) (d.M k) d.als) hC hP.mixed ?_
  refine { bef:=fun i o ho=>hpre.bef i o (hlt ho) ho,ord:=fun i o ho=>hpre.ord i o (hlt ho) ho,dst:=fun i o ho=>how.dst i o (by have:=hlt ho;omega) ho,uniq:=?_,tmp:=?_,
           want:=fun i o ho=>hpre.want i o (hlt ho) ho,dfE:=rfl,off:=fun i o ho=>hpre.off i (hlt ho),chg:=fun k hk=>(hpre.chg k hk).2,chgs:=fun i o ho=>hpre.chgs i (hlt ho),line:=hpre.line,
           heap:=fun k i o hk ho=>hpre.plus (Nat.le_refl _) (fun x hx=>by have:=hpre.lt i x (hlt ho) hx;have:=hlt ho;omega) k,val:=?_,new:=?_,free:=?_,hp0:=hpre.hp0,nx0:=hpre.nx0,nxs:=hpre.nxs,tmE:=?_,hpE:=?_,nxE:=rfl }
  ·intro i j oi oj t hi hj hdi hdj
   have h1:=(how.get t i).2 ⟨by have:=hlt hi;omega,oi,hi,hdi⟩
   have h2:=(how.get t j).2 ⟨by have:=hlt hj;omega,oj,hj,hdj⟩
   rw [h1] at h2;simpa using h2
  ·intro i o t v ho hv
   rcases hpre.tmp i o (hlt ho) ho t v hv with⟨j,oj,h1,h2,h3,h4⟩|⟨h1,h2,h3⟩
   ·exact .inl ⟨j,oj,h1,h2,h3,h4⟩
   ·refine .inr ⟨h1,fun j oj hj hd=>?_⟩
    have:=(how.get t j).2 ⟨by have:=hlt hj;omega,oj,hj,hd⟩
    rcases lookOne_ok (hlook' i o (Nat.zero_le _) ho) t h2 j this with q|q
    ·rw [h3 j oj hj hd] at q;cases q
    ·exact q
  ·intro k i o hk ho hkd hlo hhi
   have:=hok' i o (Nat.zero_le _) ho k hk
   unfold okP at this
   rw [hkd] at this
   simp only [mayAt_of hlo hhi] at this
   split at this
   ·next q=>exact hfl i o q ho _ _
   ·exact OpOK.val hC this _
  ·intro k i o ob hk ho hkd hlo hhi
   have:=hok' i o (Nat.zero_le _) ho k hk
   unfold okP at this
   rw [hkd] at this
   simp only [mayAt_of hlo hhi] at this
   exact this.2
  ·intro k i o ob hk ho hkd hab
   have:=hok' i o (Nat.zero_le _) ho k hk
   unfold okP at this
   rw [hkd] at this
   have hb:tb (absM (recAt d.rs) d.c k) i=false:=by
    rw [tb_eq]
    have:=congrFun (abs_absM (R:=recAt d.rs) (c:=d.c) (k:=k)) i
    rw [this];exact hab
   simp only [hb] at this
   exact this.1
  ·exact tmEnd_ok (i:=0) rfl (fun t v hv=>.inr ⟨hv,fun j oj hj=>by omega⟩)
  ·show(plusAll st.nx (absM (recAt d.rs) d.c d.m) (d.M d.m) d.als).get=_
   rw [plusAll_eq _ _ _ ops.size _ fun p hp=>((hpre.als p.1 p.2).1 hp).1,hpre.plusx d.m]
end
theorem wpC_ok (hP:ProgOk P C) (hS:SyR P C nt rd S):∀ {c:Code} {st:St} {Q:Ex→St→Prop},wpC S C nt c st Q→CodeP P C nt rd c st Q:=by
 intro c
 induction c with
 | skip=>intro st Q h;exact .skip h
 | label l=>intro st Q h;exact⟨_,_,.label l st,h⟩
 | exit id=>intro st Q h;exact .exit h
 | goto l=>intro st Q h;exact⟨_,_,.goto l st,h⟩
 | ret=>intro st Q h;exact .ret h
 | region id ops draw =>
  intro st Q h
  cases draw with
  | false =>
   obtain⟨st',h1,h2⟩:=wpOps_ok (b:=rd.isSome) hP.ctx hS h
   exact .region h1 h2
  | true =>
   obtain⟨st',h1,h2⟩:=wpDraw_ok hP hS h
   exact⟨_,_,h1 id,h2⟩
 | seq a b iha ihb =>
  intro st Q h
  refine .seq ((iha h).mono fun e s q=>?_)
  cases e with
  | normal=>exact ihb q
  | _=>exact q
 | cond c a b iha ihb =>
  intro st Q h
  unfold wpC at h
  split at h
  ·next t ht =>
   refine .cond ht (fun e=>?_) (fun e=>?_)
   ·subst e;exact iha h
   ·subst e;exact ihb h
  ·exact h.elim
 | block id c ih =>
  intro st Q h
  refine .block ((ih h).mono fun e s q=>?_)
  cases e with
  | exit i =>
   simp only [outP]
   simp only at q
   split at q
   ·next hi=>rw [if_pos (Nat.eq_of_beq_eq_true hi)];exact q
   ·next hi=>rw [if_neg (fun e=>by rw [e] at hi;simp at hi)];exact q
  | _=>exact q
 | loop c _=>intro st Q h;exact hS.loop _ _ _ h
 | _=>intros;exact hS.other _ _ _ (by assumption)
end
mutual
def AV.ltId (n:Nat):AV→Bool
 | .ptr a _=>Nat.blt a n
 | .it a=>Nat.blt a n
 | .sl a _ _ _ _ _=>Nat.blt a n
 | .map a=>Nat.blt a n
 | .yld a=>Nat.blt a n
 | .fn _ x y=>match AV.ltIds n x with|true=>AV.ltIds n y|false=>false
 | .iface _ v=>AV.ltId n v
 | .agg l=>AV.ltIds n l
 | .tup l=>AV.ltIds n l
 | _=>true
def AV.ltIds (n:Nat):List AV→Bool
 | []=>true
 | a::l=>match AV.ltId n a with|true=>AV.ltIds n l|false=>false
end
def entLt (n:Nat):List (AV×AV)→Bool
 | []=>true
 | e::l=>match AV.ltId n e.1,AV.ltId n e.2 with|true,true=>entLt n l|_,_=>false
def Obj.ltB (n:Nat):Obj→Bool
 | .cells c _=>AV.ltIds n c
 | .tc _ c _=>AV.ltIds n c
 | .ro c=>AV.ltIds n c
 | .map es _=>entLt n es
 | .sIter _ _=>true
 | .mIter m _ _=>Nat.blt m n
 | .dfr=>true
 | .any=>true
 | .loop ..=>false
def cut (φ:Phi) (n:Nat):Phi:=fun i=>if i<n then φ i else none
theorem cut_lt {φ:Phi} {n i:Nat} (h:i<n):cut φ n i=φ i:=if_pos h
theorem cut_some {φ:Phi} {n i:Nat} {l:Loc} (h:cut φ n i=some l):i<n∧φ i=some l:=by
 unfold cut at h
 split at h
 ·next q=>exact⟨q,h⟩
 ·cases h
section
variable {φ:Phi} {n:Nat}
theorem blt_lt {a b:Nat} (h:Nat.blt a b=true):a<b:=by simpa [Nat.blt_eq] using h
mutual
theorem VRel.cut:∀ {a:AV} {v:Value},a.ltId n=true→VRel φ a v→VRel (cut φ n) a v
 | .bool _,_,_,q=>by cases q;exact .bool _
 | .int _ _,_,_,q=>by cases q;exact .int _ _
 | .str _,_,_,q=>by cases q;exact .str _
 | .ptr a o,_,hb,q=>by cases q with|ptr q=>exact .ptr (by rw [cut_lt (blt_lt hb)];exact q)
 | .it a,_,hb,q=>by cases q with|it q=>exact .it (by rw [cut_lt (blt_lt hb)];exact q)
 | .nptr,_,_,q=>by cases q;exact .nptr
 | .sl a _ _ _ _ _,_,hb,q=>by
  cases q with
  | sl q x y z u=>exact .sl (by rw [cut_lt (blt_lt hb)];exact q) x y z u
  | sl0 q=>exact .sl0 (by rw [cut_lt (blt_lt hb)];exact q)
 | .nsl,_,_,q=>by cases q;exact .nsl
 | .map a,_,hb,q=>by cases q with|map q=>exact .map (by rw [cut_lt (blt_lt hb)];exact q)
 | .nmap,_,_,q=>by cases q;exact .nmap
 | .fn f x y,_,hb,q=>by
  unfold AV.ltId at hb
  split at hb
  ·next h1=>cases q with|fn _ hx hy=>exact .fn f (VRels.cut h1 hx) (VRels.cut hb hy)
  ·simp at hb
 | .nfn,_,_,q=>by cases q;exact .nfn
 | .yld a,_,hb,q=>by cases q with|yld q=>exact .yld (by rw [cut_lt (blt_lt hb)];exact q)
 | .iface t v,_,hb,q=>by cases q with|iface _ q=>exact .iface t (VRel.cut (by simpa [AV.ltId] using hb) q)
 | .nif,_,_,q=>by cases q;exact .nif
 | .agg l,_,hb,q=>by cases q with|agg q=>exact .agg (VRels.cut (by simpa [AV.ltId] using hb) q)
 | .tup l,_,hb,q=>by cases q with|tup q=>exact .tup (VRels.cut (by simpa [AV.ltId] using hb) q)
 | .val v,_,_,q=>by cases q with|val _ q=>exact .val _ q
theorem VRels.cut:∀ {a:List AV} {v:List Value},AV.ltIds n a=true→VRels φ a v→VRels (cut φ n) a v
 | [],_,_,q=>by cases q;exact .nil
 | a::l,_,hb,q=>by
  unfold AV.ltIds at hb
  split at hb
  ·next h1=>cases q with|cons q t=>exact .cons (VRel.cut h1 q) (VRels.cut hb t)
  ·simp at hb
end
theorem ltIds_get:∀ {l:List AV},AV.ltIds n l=true→∀ (j:Nat) (v:AV),l[j]?=some v→v.ltId n=true
 | [],_,j,v,h=>by simp at h
 | a::l,hb,j,v,h=>by
  unfold AV.ltIds at hb
  split at hb
  ·next h1 =>
   cases j with
   | zero=>simp at h;subst h;exact h1
   | succ j=>exact ltIds_get hb j v (by simpa using h)
  ·simp at hb
theorem EFor.cut {es:List (AV×AV)} {r:List MapEntry} (hb:entLt n es=true) (h:EFor φ es r):EFor (cut φ n) es r:=by
 induction h with
 | nil=>exact .nil
 | cons hk hv _ ih =>
  unfold entLt at hb
  split at hb
  ·next h1 h2=>exact .cons (hk.cut h1) (hv.cut h2) (ih hb)
  ·simp at hb
theorem CRel.cut {w:World} {b o:Nat} {c:List AV} (hb:AV.ltIds n c=true) (h:CRel φ w b o c):CRel (cut φ n) w b o c :=
 fun j v hj=>let ⟨v',h1,h2⟩:=h j v hj;⟨v',h1,h2.cut (ltIds_get hb j v hj)⟩
theorem ORel.cut {w:World} {ob:Obj} {l:Loc} (hb:ob.ltB n=true) (h:ORel φ w ob l):ORel (cut φ n) w ob l:=by
 cases h with
 | cells hN hc hf=>exact .cells hN (hc.cut hb) hf
 | tc hs hN hc hf=>exact .tc hs hN (hc.cut hb) hf
 | ro hN hc=>exact .ro hN (hc.cut hb)
 | map h1 h2=>exact .map h1 ⟨let ⟨r,a,b⟩:=h2.perm;⟨r,a.cut hb,b⟩,h2.born,h2.nodup,h2.keys⟩
 | sIter h1=>exact .sIter h1
 | mIter h1 h2=>exact .mIter (by rw [cut_lt (blt_lt hb)];exact h1) h2
 | loop=>simp [Obj.ltB] at hb
 | dfr h1=>exact .dfr h1
 | any b=>exact .any b
end
mutual
def okV:AV→Bool
 | .bool _=>true
 | .int _ _=>true
 | .str l=>l.all fun n=>Nat.blt n 256
 | .nptr=>true
 | .nsl=>true
 | .nmap=>true
 | .nfn=>true
 | .nif=>true
 | .fn _ x y=>match okVs x with|true=>okVs y|false=>false
 | .iface _ v=>okV v
 | .agg l=>okVs l
 | .tup l=>okVs l
 | .val v=>v.oneCell'
 | _=>false
def okVs:List AV→Bool
 | []=>true
 | a::l=>match okV a with|true=>okVs l|false=>false
end
mutual
def toV:AV→Value
 | .bool b=>.bool b
 | .int k n=>.int k n
 | .str l=>.string ⟨(l.map UInt8.ofNat).toArray⟩
 | .nptr=>.pointer none
 | .nsl=>.slice none 0 0
 | .nmap=>.map none
 | .nfn=>.nilFunc
 | .nif=>.nilIface
 | .fn f x y=>.func f (toVs x).toArray (toVs y).toArray
 | .iface t v=>.iface t (toV v)
 | .agg l=>.agg (toVs l).toArray
 | .tup l=>.tuple (toVs l).toArray
 | .val v=>v
 | _=>.nilFunc
def toVs:List AV→List Value
 | []=>[]
 | a::l=>toV a::toVs l
end
theorem bytes_of (l:List Nat) (h:(l.all fun n=>Nat.blt n 256)=true):bytesOf ⟨(l.map UInt8.ofNat).toArray⟩=l:=by
 simp only [bytesOf,List.map_map]
 induction l with
 | nil=>rfl
 | cons x l ih =>
  simp only [List.all_cons,Bool.and_eq_true] at h
  simp only [List.map_cons,ih h.2]
  have:=blt_lt h.1
  simp;omega
theorem of_bytes (s:ByteArray):(⟨((bytesOf s).map UInt8.ofNat).toArray⟩:ByteArray)=s:=by
 cases s with
 | mk d =>
  congr 1
  simp [bytesOf,List.map_map]
  have:(UInt8.ofNat∘UInt8.toNat)=id:=by funext x;simp
  rw [this];simp
mutual
theorem okV_rel {φ:Phi}:∀ {a:AV},okV a=true→VRel φ a (toV a)
 | .bool _,_=>.bool _
 | .int _ _,_=>.int _ _
 | .str l,h=>by
  have:=VRel.str (φ:=φ) ⟨(l.map UInt8.ofNat).toArray⟩
  rw [bytes_of l h] at this
  exact this
 | .nptr,_=>.nptr
 | .nsl,_=>.nsl
 | .nmap,_=>.nmap
 | .nfn,_=>.nfn
 | .nif,_=>.nif
 | .fn f x y,h=>by
  unfold okV at h
  split at h
  ·next h1=>exact .fn f (by simpa using okVs_rel h1) (by simpa using okVs_rel h)
  ·simp at h
 | .iface t v,h=>.iface t (okV_rel (by simpa [okV] using h))
 | .agg l,h=>.agg (by simpa using okVs_rel (a:=l) (by simpa [okV] using h))
 | .tup l,h=>.tup (by simpa using okVs_rel (a:=l) (by simpa [okV] using h))
 | .val v,h=>.val v h
theorem okVs_rel {φ:Phi}:∀ {a:List AV},okVs a=true→VRels φ a (toVs a)
 | [],_=>.nil
 | a::l,h=>by
  unfold okVs at h
  split at h
  ·next h1=>exact .cons (okV_rel h1) (okVs_rel h)
  ·simp at h
end
mutual
theorem okV_inv {φ:Phi}:∀ {a:AV} {v:Value},okV a=true→VRel φ a v→v=toV a
 | .bool _,_,_,q=>by cases q;rfl
 | .int _ _,_,_,q=>by cases q;rfl
 | .str l,_,h,q=>by cases q with|str s=>simp only [toV,of_bytes]
 | .nptr,_,_,q=>by cases q;rfl
 | .nsl,_,_,q=>by cases q;rfl
 | .nmap,_,_,q=>by cases q;rfl
 | .nfn,_,_,q=>by cases q;rfl
 | .nif,_,_,q=>by cases q;rfl
 | .fn f x y,_,h,q=>by
  unfold okV at h
  split at h
  ·next h1 =>
   cases q with
   | fn _ hx hy=>simp only [toV,← okVs_inv h1 hx,← okVs_inv h hy]
  ·simp at h
 | .iface t v,_,h,q=>by cases q with|iface _ q=>simp only [toV,← okV_inv (by simpa [okV] using h) q]
 | .agg l,_,h,q=>by cases q with|agg q=>simp only [toV,← okVs_inv (by simpa [okV] using h) q]
 | .tup l,_,h,q=>by cases q with|tup q=>simp only [toV,← okVs_inv (by simpa [okV] using h) q]
 | .val v,_,h,q=>by cases q;rfl
theorem okVs_inv {φ:Phi}:∀ {a:List AV} {v:List Value},okVs a=true→VRels φ a v→v=toVs a
 | [],_,_,q=>by cases q;rfl
 | a::l,_,h,q=>by
  unfold okVs at h
  split at h
  ·next h1=>cases q with|cons q t=>simp only [toVs,← okV_inv h1 q,← okVs_inv h t]
  ·simp at h
end
mutual
inductive VW:AV→AV→Prop
 | refl (a:AV):VW a a
 | val (a:AV) (h:okV a=true) (h1:(toV a).oneCell'=true):VW a (.val (toV a))
 | agg {l m:List AV} (h:VWs l m):VW (.agg l) (.agg m)
 | tup {l m:List AV} (h:VWs l m):VW (.tup l) (.tup m)
inductive VWs:List AV→List AV→Prop
 | nil:VWs [] []
 | cons {a b:AV} {l m:List AV} (h:VW a b) (t:VWs l m):VWs (a::l) (b::m)
end
mutual
theorem VW.rel {φ:Phi}:∀ {a b:AV} {v:Value},VW a b→VRel φ a v→VRel φ b v
 | _,_,_,.refl _,q=>q
 | _,_,_,.val a h h1,q=>by rw [okV_inv h q];exact .val _ h1
 | _,_,_,.agg h,q=>by cases q with|agg q=>exact .agg (VWs.rel h q)
 | _,_,_,.tup h,q=>by cases q with|tup q=>exact .tup (VWs.rel h q)
theorem VWs.rel {φ:Phi}:∀ {a b:List AV} {v:List Value},VWs a b→VRels φ a v→VRels φ b v
 | _,_,_,.nil,q=>q
 | _,_,_,.cons h t,q=>by cases q with|cons q1 q2=>exact .cons (VW.rel h q1) (VWs.rel t q2)
end
theorem VWs.length {a b:List AV} (h:VWs a b):a.length=b.length:=by
 induction a generalizing b with
 | nil=>cases h;rfl
 | cons x l ih=>cases h with|cons _ t=>simp [ih t]
theorem VWs.get {a b:List AV} (h:VWs a b):∀ (j:Nat) (y:AV),b[j]?=some y→∃ x,a[j]?=some x∧VW x y:=by
 induction a generalizing b with
 | nil=>cases h;intro j y hy;simp at hy
 | cons x l ih =>
  cases h with
  | cons h t =>
   intro j y hy
   cases j with
   | zero=>simp at hy;subst hy;exact⟨x,rfl,h⟩
   | succ j=>simpa using ih t j y (by simpa using hy)
inductive OW:Obj→Obj→Prop
 | refl (o:Obj):OW o o
 | cells {c c':List AV} {fz:Nat} (h:VWs c c'):OW (.cells c fz) (.cells c' fz)
theorem OW.own {a b:Obj} (h:OW a b):a.own=b.own:=by cases h<;>rfl
theorem OW.rel {φ:Phi} {w:World} {a b:Obj} {l:Loc} (h:OW a b) (q:ORel φ w a l):ORel φ w b l:=by
 cases h with
 | refl=>exact q
 | @cells c c' fz h =>
  cases q with
  | cells hN hc hf =>
   refine .cells (by rw [← h.length];exact hN) (fun j y hy=>?_) hf
   obtain⟨x,h1,h2⟩:=h.get j y hy
   obtain⟨v,h3,h4⟩:=hc j x h1
   exact⟨v,h3,h2.rel h4⟩
structure Sub (s t:St):Prop where
 tm:∀ x v,t.tm.get x=some v→∃ u,s.tm.get x=some u∧VW u v
 hp:∀ i o,t.hp.get i=some o→∃ y,s.hp.get i=some y∧OW y o
structure StLt (n:Nat) (t:St):Prop where
 tm:∀ x v,t.tm.get x=some v→v.ltId n=true
 hp:∀ i o,t.hp.get i=some o→i<n∧o.ltB n=true
theorem Sub.refl (s:St):Sub s s:=⟨fun _ v h=>⟨v,h,.refl v⟩,fun _ o h=>⟨o,h,.refl o⟩⟩
section
variable {P:Program} {C:Ctx} {nt:Nat} {rd:Option Nat}
theorem CodeOK.reset {c:Code} {st st':St} {e:Ex} (h:CodeOK P C nt rd c st e st') {t:St} (hs:Sub st' t) (hn:t.nx=st.nx) (hlt:StLt st.nx t) (hd:st'.df=[]) (hdt:t.df=[]):CodeOK P C nt rd c st e t:=by
 intro φ a w hl r n hr Q hQ
 refine h φ a w hl r n hr Q fun φ' a' w' hl' hst=>?_
 have le2:Le φ (cut φ' st.nx):=fun i l hi=>by rw [cut_lt (hl.rel.lt i l hi).1];exact hst.le i l hi
 have own2:∀ k,OwnB (cut φ' st.nx) t.hp.get k→OwnB φ' st'.hp.get k:=fun k ⟨i,ob,l,h1,h2,h3,h4⟩=>let ⟨y,h5,h6⟩:=hs.hp i ob h1;⟨i,y,l,h5,by rw [h6.own];exact h2,(cut_some h3).2,h4⟩
 have live2:∀ k,LiveB (cut φ' st.nx) t.hp.get k→LiveB φ' st'.hp.get k:=fun k ⟨i,ob,l,h1,h3,h4⟩=>let ⟨y,h5,_⟩:=hs.hp i ob h1;⟨i,y,l,h5,(cut_some h3).2,h4⟩
 have rel2:Rel (cut φ' st.nx) t.hp.get t.nx w':=by
  rw [hn]
  refine⟨fun i l hi=>⟨(cut_some hi).1,(hl'.rel.lt i l (cut_some hi).2).2⟩,fun i b o N hi=>hl'.rel.shp i b o N (cut_some hi).2,fun i ob hi=>?_,fun i j a b l m hi hj hne ho h1 h2=>?_⟩
  ·obtain⟨h1,h2⟩:=hlt.hp i ob hi
   obtain⟨y,h5,h6⟩:=hs.hp i ob hi
   obtain⟨l,h3,h4⟩:=hl'.rel.dom i y h5
   exact⟨l,by rw [cut_lt h1];exact h3,(h6.rel h4).cut h2⟩
  ·obtain⟨y,h5,h6⟩:=hs.hp i a hi
   obtain⟨z,h7,h8⟩:=hs.hp j b hj
   exact hl'.rel.sep i j y z l m h5 h7 hne (by rw [h6.own];exact ho) (cut_some h1).2 (cut_some h2).2
 refine hQ (cut φ' st.nx) a' w' ⟨rel2,⟨hl.glob.gl.mono le2,fun k o hk=>?_⟩,fun x v hx=>?_,hl'.size,?_⟩ ⟨by rw [hn];exact Nat.le_refl _,fun i l hi=>?_,le2,hst.keeps,fun k hk ho=>hst.own k hk (own2 k ho),fun k hk ho=>hst.live k hk (live2 k ho)⟩
 ·obtain⟨h1,h2⟩:=hl'.glob.base k o hk
  exact⟨h1,fun q=>h2 (own2 k q)⟩
 ·obtain⟨u,h3,h4⟩:=hs.tm x v hx
  obtain⟨v',h1,h2⟩:=hl'.tmps x u h3
  exact⟨v',h1,(h4.rel h2).cut (hlt.tm x v hx)⟩
 ·have:=hl'.defers
  rw [hd] at this
  rw [hdt]
  generalize a'.defers=q at this
  cases this;exact .nil
 ·obtain⟨h1,h2⟩:=cut_some hi
  rcases hst.born i l h2 with q|q
  ·exact .inl q
  ·omega
theorem CodeOK.pre {c:Code} {st t st':St} {e:Ex} (h:CodeOK P C nt rd c t e st') (hs:Sub st t) (hn:t.nx=st.nx) (hd:t.df=st.df):CodeOK P C nt rd c st e st':=by
 intro φ a w hl r n hr Q hQ
 have own2:∀ k,OwnB φ t.hp.get k→OwnB φ st.hp.get k:=fun k ⟨i,ob,l,h1,h2,h3⟩=>let ⟨y,h5,h6⟩:=hs.hp i ob h1;⟨i,y,l,h5,by rw [h6.own];exact h2,h3⟩
 have live2:∀ k,LiveB φ t.hp.get k→LiveB φ st.hp.get k:=fun k ⟨i,ob,l,h1,h2⟩=>let ⟨y,h5,_⟩:=hs.hp i ob h1;⟨i,y,l,h5,h2⟩
 have rel2:Rel φ t.hp.get t.nx w:=by
  rw [hn]
  refine⟨hl.rel.lt,hl.rel.shp,fun i ob hi=>?_,fun i j a b l m hi hj hne ho h1 h2=>?_⟩
  ·obtain⟨y,h5,h6⟩:=hs.hp i ob hi
   obtain⟨l,h3,h4⟩:=hl.rel.dom i y h5
   exact⟨l,h3,h6.rel h4⟩
  ·obtain⟨y,h5,h6⟩:=hs.hp i a hi
   obtain⟨z,h7,h8⟩:=hs.hp j b hj
   exact hl.rel.sep i j y z l m h5 h7 hne (by rw [h6.own];exact ho) h1 h2
 refine h φ a w ⟨rel2,⟨hl.glob.gl,fun k o hk=>⟨(hl.glob.base k o hk).1,fun q=>(hl.glob.base k o hk).2 (own2 k q)⟩⟩,fun x v hx=>?_,hl.size,by rw [hd];exact hl.defers⟩ r n hr Q fun φ' a' w' hl' hst=>?_
 ·obtain⟨u,h3,h4⟩:=hs.tm x v hx
  obtain⟨v',h1,h2⟩:=hl.tmps x u h3
  exact⟨v',h1,h4.rel h2⟩
 exact hQ φ' a' w' hl' ⟨by rw [← hn];exact hst.grow,fun i l hi=>by rw [← hn];exact hst.born i l hi,hst.le,⟨hst.keeps.os,hst.keeps.tape,hst.keeps.output,hst.keeps.size,hst.keeps.shape,fun k hk hno=>hst.keeps.block k hk fun q=>hno (own2 k q)⟩,
  fun k hk q=>own2 k (hst.own k hk q),fun k hk q=>live2 k (hst.live k hk q)⟩
theorem CodeP.pre {c:Code} {st t:St} {Q:Ex→St→Prop} (h:CodeP P C nt rd c t Q) (hs:Sub st t) (hn:t.nx=st.nx) (hd:t.df=st.df):CodeP P C nt rd c st Q :=
 let ⟨e,s,h1,h2⟩:=h;⟨e,s,h1.pre hs hn hd,h2⟩
theorem CodeP.loopI {c:Code} {st:St} {Q:Ex→St→Prop} (I:Nat→St→Prop) {m:Nat} {t:St} (hs:Sub st t) (hn:t.nx=st.nx) (hd:t.df=st.df) (h0:I m t) (hI:∀ m s,I m s→s.nx=st.nx∧s.df=[])
  (h:∀ (G:St→Prop),∀ m s,I m s→(∀ s' t' m',s'.df=[]→m'<m→I m' t'→Sub s' t'→StLt st.nx t'→G s')→CodeP P C nt rd c s (nextP G Q)):CodeP P C nt rd (.loop c) st Q:=by
 refine CodeP.pre (t:=t) ?_ hs hn hd
 refine CodeP.loop I (fun m s hI'=>?_) h0
 obtain⟨e,s',h1,h2⟩:=h (fun s'=>s'.df=[]∧∃ t' m',m'<m∧I m' t'∧Sub s' t'∧StLt st.nx t') m s hI' fun s' t' m' a b c d e=>⟨a,t',m',b,c,d,e⟩
 obtain⟨i1,i2⟩:=hI m s hI'
 cases e with
 | normal =>
  obtain⟨q,t',m',q1,q2,q3,q4⟩:=h2
  obtain⟨j1,j2⟩:=hI m' t' q2
  exact⟨.normal,t',h1.reset q3 (by rw [j1,i1]) (by rw [i1];exact q4) q j2,m',q1,q2⟩
 | _=>exact⟨_,s',h1,h2⟩
end
section
variable {P:Program} {C:Ctx} {nt:Nat} {rd:Option Nat}
theorem CodeP.loopN {X:Type} {c:Code} {st:St} {Q:Ex→St→Prop} (n0:Nat) (F:X→St) (μ:X→Nat) (I:X→Prop) (x0:X) (h0:I x0) (hs:Sub st (F x0)) (hn:st.nx=n0) (hd:st.df=[]) (hF:∀ x,(F x).nx=n0∧(F x).df=[])
  (h:∀ (G:St→Prop) (x:X),I x→(∀ s' x',s'.df=[]→μ x'<μ x→I x'→Sub s' (F x')→StLt n0 (F x')→G s')→CodeP P C nt rd c (F x) (nextP G Q)):CodeP P C nt rd (.loop c) st Q:=by
 subst hn
 refine CodeP.loopI (fun m s=>∃ x,I x∧m=μ x∧s=F x) hs (hF x0).1 (by rw [(hF x0).2,hd]) ⟨x0,h0,rfl,rfl⟩ (fun m s ⟨x,_,_,e⟩=>by rw [e];exact hF x) ?_
 rintro G m s ⟨x,hx,rfl,rfl⟩ hG
 exact h G x hx fun s' x' h1 h2 h3 h4 h5=>hG s' (F x') (μ x') h1 h2 ⟨x',h3,rfl,rfl⟩ h4 h5
end
noncomputable def mkT {α:Type}:List (Nat×α)→T α
 | []=>.leaf
 | e::l=>(mkT l).set e.1 e.2
theorem mkT_get {α:Type}:∀ {l:List (Nat×α)} {i:Nat} {x:α},(mkT l).get i=some x→(i,x)∈l
 | [],i,x,h=>by cases h
 | e::l,i,x,h=>by
  simp only [mkT,T.get_set] at h
  split at h
  ·next q=>cases h;subst q;exact List.mem_cons_self
  ·exact List.mem_cons_of_mem _ (mkT_get h)
def subT {α:Type} (R:α→α→Prop) (t:T α):List (Nat×α)→Prop
 | []=>True
 | e::l=>(∃ u,t.get e.1=some u∧R u e.2)∧subT R t l
theorem subT_mem {α:Type} {R:α→α→Prop} {t:T α}:∀ {l:List (Nat×α)},subT R t l→∀ e∈l,∃ u,t.get e.1=some u∧R u e.2
 | [],_,e,he=>by cases he
 | x::l,h,e,he=>by
  rcases List.mem_cons.1 he with rfl|he
  ·exact h.1
  ·exact subT_mem h.2 e he
noncomputable def mkS (tl:List (Nat×AV)) (hl:List (Nat×Obj)) (n:Nat):St:=⟨mkT tl,mkT hl,n,[]⟩
theorem sub_mk {s:St} {tl:List (Nat×AV)} {hl:List (Nat×Obj)} {n:Nat} (h1:subT VW s.tm tl) (h2:subT OW s.hp hl):Sub s (mkS tl hl n) :=
 ⟨fun x v h=>subT_mem h1 (x,v) (mkT_get h),fun i o h=>subT_mem h2 (i,o) (mkT_get h)⟩
theorem sbt {P:Prop} (h:P:=by repeat'(first|exact trivial|refine⟨⟨_,rfl,?_⟩,?_⟩|exact .refl _|exact .val _ rfl rfl|exact .agg (by repeat'(first|exact .nil|refine .cons ?_ ?_|exact .refl _|exact .val _ rfl rfl)))):P:=h
theorem sbh {P:Prop} (h:P:=by repeat'(first|exact trivial|refine⟨⟨_,rfl,?_⟩,?_⟩|exact .refl _|exact .cells (by repeat'(first|exact .nil|refine .cons ?_ ?_|exact .refl _|exact .val _ rfl rfl)))):P:=h
def tlB (n:Nat):List (Nat×AV)→Bool
 | []=>true
 | e::l=>match AV.ltId n e.2 with|true=>tlB n l|false=>false
def hlB (n:Nat):List (Nat×Obj)→Bool
 | []=>true
 | e::l=>match Nat.blt e.1 n,Obj.ltB n e.2 with|true,true=>hlB n l|_,_=>false
theorem tlB_mem {n:Nat}:∀ {l:List (Nat×AV)},tlB n l=true→∀ e∈l,AV.ltId n e.2=true
 | [],_,e,he=>by cases he
 | x::l,h,e,he=>by
  unfold tlB at h
  split at h
  ·next q =>
   rcases List.mem_cons.1 he with rfl|he
   ·exact q
   ·exact tlB_mem h e he
  ·simp at h
theorem hlB_mem {n:Nat}:∀ {l:List (Nat×Obj)},hlB n l=true→∀ e∈l,e.1<n∧Obj.ltB n e.2=true
 | [],_,e,he=>by cases he
 | x::l,h,e,he=>by
  unfold hlB at h
  split at h
  ·next q1 q2 =>
   rcases List.mem_cons.1 he with rfl|he
   ·exact⟨blt_lt q1,q2⟩
   ·exact hlB_mem h e he
  ·simp at h
theorem lt_mk {tl:List (Nat×AV)} {hl:List (Nat×Obj)} {n m:Nat} (h1:tlB m tl=true) (h2:hlB m hl=true):StLt m (mkS tl hl n) :=
 ⟨fun x v h=>tlB_mem h1 (x,v) (mkT_get h),fun i o h=>hlB_mem h2 (i,o) (mkT_get h)⟩
structure Kept (w w':World):Prop where
 os:w'.os=w.os
 tape:w'.tape=w.tape
 output:w'.output=w.output
 size:w.heap.size≤w'.heap.size
 block:∀ k,k<w.heap.size→w'.heap[k]?=w.heap[k]?
theorem Kept.refl (w:World):Kept w w:=⟨rfl,rfl,rfl,Nat.le_refl _,fun _ _=>rfl⟩
theorem Kept.trans {a b c:World} (h:Kept a b) (k:Kept b c):Kept a c :=
 ⟨k.os.trans h.os,k.tape.trans h.tape,k.output.trans h.output,Nat.le_trans h.size k.size,fun i hi=>(k.block i (Nat.lt_of_lt_of_le hi h.size)).trans (h.block i hi)⟩
theorem Kept.ext {w w':World} (h:Kept w w') {k:Nat} {o:Go.Obj} (hk:w.heap[k]?=some o):w'.heap[k]?=some o:=by
 rw [h.block k (Array.getElem?_eq_some_iff.1 hk).1];exact hk
def Ret (P:Program) (f:FuncId) (args:Array Value) (w:World) (v:Value):Prop:=Calls P f args w fun e w'=>e=.returned v∧Kept w w'
theorem Rel.kept {φ:Phi} {H:Hp} {nx:Nat} {w w':World} (h:Rel φ H nx w) (k:Kept w w'):Rel φ H nx w'∧Step φ H nx w φ H nx w':=by
 have hs:∀ r,r<w.heap.size→w'.shape? r=w.shape? r:=fun r hr=>by simp only [World.shape?,k.block r hr]
 refine⟨⟨fun i l hi=>⟨(h.lt i l hi).1,Nat.lt_of_lt_of_le (h.lt i l hi).2 k.size⟩,fun i b o N hi=>?_,fun i ob hi=>?_,h.sep⟩,⟨Nat.le_refl _,fun _ _ q=>.inl q,.refl _,⟨k.os,k.tape,k.output,k.size,hs,fun r hr _=>k.block r hr⟩,fun _ _ q=>q,fun _ _ q=>q⟩⟩
 ·rw [hs b (h.lt i _ hi).2];exact h.shp i b o N hi
 ·obtain⟨l,h1,h2⟩:=h.dom i ob hi
  exact⟨l,h1,h2.mono (.refl _) (k.block _ (h.lt i l h1).2)⟩
section
variable {P:Program} {C:Ctx}
def endP (C:Ctx) (fn:Func) (v:AV) (e:Ex) (st:St):Prop:=exEnd e=true∧st.df=[]∧∃ vs,resA C st fn.results.toList=some vs∧retA vs=v
structure Init (C:Ctx) (H0:T Obj) (n0:Nat) (φ:Phi) (w:World):Prop where
 rel:Rel φ H0.get n0 w
 base:BOk C φ H0.get w
 own:∀ k,¬ OwnB φ H0.get k
theorem callOK_of {f:FuncId} {fn:Func} {body:Code} (hP:ProgOk P C) (hft:P.funcs[f]?=some fn) (hb:fn.body=some body) {args:List AV} {hp:T Obj} {nx:Nat} {e:Ex} {st:St} {v:AV}
  (h:CodeOK P C (maxA args.length fn.ntmps) none body ⟨argA args 0 .leaf,hp,nx,[]⟩ e st) (he:endP C fn v e st):CallOK P C f args hp.get nx v st.hp.get st.nx:=by
 obtain⟨h1,h2,vs,h3,rfl⟩:=he
 refine CallOK.body hft hb (exEnd_ok h1) hP.ctx ?_ ?_ h
 ·rw [h2];exact .nil _ _
 ·obtain⟨tm,hp,nx,df⟩:=st
  simp only at h2;subst h2
  exact h3
def endV (C:Ctx) (fn:Func) (V:Value) (e:Ex) (st:St):Prop:=exEnd e=true∧st.df=[]∧∃ vs,resA C st fn.results.toList=some vs∧okV (retA vs)=true∧toV (retA vs)=V
theorem Ret.of_code {f:FuncId} {fn:Func} {body:Code} (hP:ProgOk P C) (hft:P.funcs[f]?=some fn) (hb:fn.body=some body) {w:World} {φ:Phi} {H0:T Obj} {n0:Nat} (hi:Init C H0 n0 φ w) {args:List AV} {V:Value} (ha:okVs args=true)
  (h:∀ Q:Ex→St→Prop,(∀ e st,endV C fn V e st→Q e st)→CodeP P C (maxA args.length fn.ntmps) none body ⟨argA args 0 .leaf,H0,n0,[]⟩ Q):Ret P f (toVs args).toArray w V:=by
 obtain⟨e,st,h1,h2,h3,vs,h4,h5,h6⟩:=h _ fun e st q=>q
 refine(callOK_of hP hft hb h1 ⟨h2,h3,vs,h4,rfl⟩ φ w _ hi.rel hi.base (by simpa using okVs_rel ha)).mono ?_
 rintro en w' ⟨v',φ',rfl,h7,h8,h9⟩
 refine⟨by rw [okV_inv h5 h7,h6],h9.keeps.os,h9.keeps.tape,h9.keeps.output,h9.keeps.size,fun k hk=>h9.keeps.block k hk (hi.own k)⟩
def Ext (C:Ctx) (w:World):Prop:=∀ k o,C.base k=some o→w.heap[k]?=some o
theorem callOK_ret {f:FuncId} {args:List AV} {hp:T Obj} {nx:Nat} {v:AV} {v':Value} (h:∀ φ w args',Rel φ hp.get nx w→Ext C w→VRels φ args args'.toList→Ret P f args' w v') (hv:∀ φ,VRel φ v v'):CallOK P C f args hp.get nx v hp.get nx:=by
 intro φ w args' hr hg ha
 refine(h φ w args' hr (fun k o hk=>(hg.base k o hk).1) ha).mono ?_
 rintro e w' ⟨rfl,hk⟩
 obtain⟨h1,h2⟩:=hr.kept hk
 exact⟨v',φ,rfl,hv φ,h1,h2⟩
theorem callR_ret {f:FuncId} {args:List AV} {hp:T Obj} {nx:Nat} {v:AV} (he:Enters P f) (ha:okVs args=true) (hv:okV v=true) {K:AV→T Obj→Nat→Prop} (h:∀ w,Ext C w→Ret P f (toVs args).toArray w (toV v)) (hK:K v hp nx):CallR P C f args hp nx K:=by
 refine⟨v,hp,nx,he,callOK_ret (fun φ w args' _ hx hr=>?_) (fun φ=>okV_rel hv),hK⟩
 have:=okVs_inv ha hr
 have e:args'=(toVs args).toArray:=by rw [← this]
 rw [e];exact h w hx
end
theorem wrap_in {n:Int} (h1 : -9223372036854775808≤n) (h2:n<9223372036854775808):IntKind.i64.wrap n=n:=by
 rw [IntKind.wrap_i64];omega
theorem ar0_add {a b:Int} (h1 : -9223372036854775808≤a+b) (h2:a+b<9223372036854775808):ar0 .add .i64 a b=a+b:=wrap_in h1 h2
theorem ar0_sub {a b:Int} (h1 : -9223372036854775808≤a - b) (h2:a - b<9223372036854775808):ar0 .sub .i64 a b=a - b:=wrap_in h1 h2
theorem ar0_suc {a:Nat} (h1:a<1073741824):ar0 .add .i64 (Int.ofNat a) 1=Int.ofNat (a+1):=by
 rw [ar0_add (by simp;omega) (by simp;omega)];simp
section
variable {P:Program} {C:Ctx}
theorem callGn {α:Type} (x:α) (F:α→AV) {f:FuncId} {args:List AV} {hp:T Obj} {nx:Nat} (he:Enters P f) (ha:okVs args=true) (hv:∀ u,okV (F u)=true) {K:AV→T Obj→Nat→Prop}
  (h:∀ w,Ext C w→Ret P f (toVs args).toArray w (toV (F x))) (hK:∀ u,u=x→K (F u) hp nx):CallR P C f args hp nx K:=callR_ret he ha (hv x) h (hK x rfl)
theorem callBo (x:Bool) {f:FuncId} {args:List AV} {hp:T Obj} {nx:Nat} (he:Enters P f) (ha:okVs args=true) {K:AV→T Obj→Nat→Prop}
  (h:∀ w,Ext C w→Ret P f (toVs args).toArray w (.bool x)) (hK:∀ u,u=x→K (.bool u) hp nx):CallR P C f args hp nx K:=callGn x .bool he ha (fun _=>rfl) h hK
theorem callIn (x:Int) {f:FuncId} {args:List AV} {hp:T Obj} {nx:Nat} (he:Enters P f) (ha:okVs args=true) {K:AV→T Obj→Nat→Prop}
  (h:∀ w,Ext C w→Ret P f (toVs args).toArray w (.int .i64 x)) (hK:∀ u,u=x→K (.val (.int .i64 u)) hp nx):CallR P C f args hp nx K:=callGn x (fun u=>.val (.int .i64 u)) he ha (fun _=>rfl) h hK
end
theorem CodeP.sy {P:Program} {C:Ctx} {nt:Nat} {rd:Option Nat} (hP:ProgOk P C) {c:Code} {st:St} {Q:Ex→St→Prop}
  (h:∀ (cmp:BinOp→Int→Int→(Bool→Prop)→Prop) (scmp:BinOp→SB→SB→(Bool→Prop)→Prop) (ar:BinOp→IntKind→Int→Int→(Int→Prop)→Prop) (wr:IntKind→Int→(Int→Prop)→Prop) (add:Addr→Nat→(Addr→Prop)→Prop)
   (op:Oper→St→(AV→T Obj→Nat→Prop)→Prop) (load:Nat→Addr→(AV→Prop)→Prop) (len:Nat→Value→(AV→Prop)→Prop) (index:Nat→Value→Int→(AV→Prop)→Prop)
   (call:FuncId→List AV→T Obj→Nat→(AV→T Obj→Nat→Prop)→Prop) (callv:Value→List AV→T Obj→Nat→(AV→T Obj→Nat→Prop)→Prop)
   (vop:Oper→T AV→(AV→Prop)→Prop) (loop other:Code→St→(Ex→St→Prop)→Prop),
   (∀ op a b K,(∀ t,t=cmp0 op a b→K t)→cmp op a b K)→(∀ op a b K,(∀ t,t=scmp0 op a.bytes b.bytes→K t)→scmp op a b K)→(∀ op k a b K,(∀ n,n=ar0 op k a b→K n)→ar op k a b K) →
   (∀ k n K,(∀ m,m=k.wrap n→K m)→wr k n K)→(∀ p n K,(∀ q,q=Addr.add p n→K q)→add p n K) →
   (∀ o st K,OpR P C o st K→op o st K)→(∀ t p K,LoadR C t p K→load t p K)→(∀ t v K,LenR C t v K→len t v K)→(∀ t v i K,IndexR C t v i K→index t v i K) →
   (∀ f args hp nx K,CallR P C f args hp nx K→call f args hp nx K)→(∀ f args hp nx K,CallvR P C f args hp nx K→callv f args hp nx K)→(∀ o tm K,PureR P C o tm K→vop o tm K) →
   (∀ c st Q,CodeP P C nt rd (.loop c) st Q→loop c st Q)→(∀ c st Q,CodeP P C nt rd c st Q→other c st Q)→wpC ⟨cmp,scmp,ar,wr,add,op,load,len,index,call,callv,vop,loop,other⟩ C nt c st Q):CodeP P C nt rd c st Q :=
 wpC_ok hP (S:=⟨fun op a b K=>K (cmp0 op a b),fun op a b K=>K (scmp0 op a.bytes b.bytes),fun op k a b K=>K (ar0 op k a b),fun k n K=>K (k.wrap n),fun p n K=>K (Addr.add p n),OpR P C,LoadR C,LenR C,IndexR C,CallR P C,CallvR P C,PureR P C,fun c=>CodeP P C nt rd (.loop c),fun c=>CodeP P C nt rd c⟩)
  ⟨fun _ _ _ _ h=>h,fun _ _ _ _ h=>h,fun _ _ _ _ _ h=>h,fun _ _ _ h=>h,fun _ _ _ h=>h,fun _ _ _ h=>h,fun _ _ _ h=>h,fun _ _ _ h=>h,fun _ _ _ _ h=>h,fun _ _ _ _ _ h=>h,fun _ _ _ _ _ h=>h,fun _ _ _ h=>h,fun _ _ _ h=>h,fun _ _ _ h=>h⟩
  (h _ _ _ _ _ _ _ _ _ _ _ _ _ _ (fun _ _ _ _ h=>h _ rfl) (fun _ _ _ _ h=>h _ rfl) (fun _ _ _ _ _ h=>h _ rfl) (fun _ _ _ h=>h _ rfl) (fun _ _ _ h=>h _ rfl) (fun _ _ _ h=>h) (fun _ _ _ h=>h) (fun _ _ _ h=>h) (fun _ _ _ _ h=>h) (fun _ _ _ _ _ h=>h) (fun _ _ _ _ _ h=>h) (fun _ _ _ h=>h) (fun _ _ _ h=>h) (fun _ _ _ h=>h))
end Ev
