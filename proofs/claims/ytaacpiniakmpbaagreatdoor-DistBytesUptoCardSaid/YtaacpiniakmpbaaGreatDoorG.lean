/- The evaluator once more, laid for the kernel: small pieces, and what is new brought to its normal form at once. (Printed by wip/gen/genfast.py.) -/
import Derived.Test.YtaacpiniakmpbaaGreatDoorF
namespace Ev
open Go
set_option linter.unusedSimpArgs false
set_option linter.unusedVariables false
section force
variable {β:Type}
noncomputable def fBool (k:Bool→β) (b:Bool):β:=Bool.rec (motive:=fun _=>β) (k false) (k true) b
theorem fBool_eq (k:Bool→β) (b:Bool):fBool k b=k b:=by cases b<;>rfl
noncomputable def fNat (k:Nat→β) (n:Nat):β:=Nat.rec (motive:=fun _=>β) (k 0) (fun m _=>k (Nat.succ m)) n
theorem fNat_eq (k:Nat→β) (n:Nat):fNat k n=k n:=by cases n<;>rfl
noncomputable def fInt (k:Int→β) (n:Int):β:=Int.rec (motive:=fun _=>β) (fun m=>fNat (fun m=>k (Int.ofNat m)) m) (fun m=>fNat (fun m=>k (Int.negSucc m)) m) n
theorem fInt_eq (k:Int→β) (n:Int):fInt k n=k n:=by
 cases n with
 | ofNat m=>exact fNat_eq (fun m=>k (Int.ofNat m)) m
 | negSucc m=>exact fNat_eq (fun m=>k (Int.negSucc m)) m
noncomputable def fNats (l:List Nat):(List Nat→β)→β:=List.rec (motive:=fun _=>(List Nat→β)→β) (fun k=>k []) (fun a _ ih k=>fNat (fun a=>ih fun l=>k (a::l)) a) l
theorem fNats_eq:∀ (l:List Nat) (k:List Nat→β),fNats l k=k l
 | [],_=>rfl
 | a::l,k=>(fNat_eq (fun a=>fNats l fun l=>k (a::l)) a).trans (fNats_eq l fun l=>k (a::l))
noncomputable def fAV (v:AV):(AV→β)→β :=
 AV.rec (motive_1:=fun _=>(AV→β)→β) (motive_2:=fun _=>(List AV→β)→β)
  (fun b k=>fBool (fun b=>k (.bool b)) b)
  (fun i n k=>fInt (fun n=>k (.int i n)) n)
  (fun s k=>fNats s fun s=>k (.str s))
  (fun id off k=>fNat (fun id=>fNat (fun off=>k (.ptr id off)) off) id)
  (fun id k=>fNat (fun id=>k (.it id)) id)
  (fun k=>k .nptr)
  (fun id off len cap ex sz k=>fNat (fun id=>fNat (fun off=>fNat (fun len=>fNat (fun cap=>fBool (fun ex=>fNat (fun sz=>k (.sl id off len cap ex sz)) sz) ex) cap) len) off) id)
  (fun k=>k .nsl)
  (fun id k=>fNat (fun id=>k (.map id)) id)
  (fun k=>k .nmap)
  (fun f _ _ a b k=>a fun a=>b fun b=>k (.fn f a b))
  (fun k=>k .nfn)
  (fun id k=>fNat (fun id=>k (.yld id)) id)
  (fun t _ v k=>fNat (fun t=>v fun v=>k (.iface t v)) t)
  (fun k=>k .nif)
  (fun _ l k=>l fun l=>k (.agg l))
  (fun _ l k=>l fun l=>k (.tup l))
  (fun v k=>k (.val v))
  (fun k=>k [])
  (fun _ _ a l k=>a fun a=>l fun l=>k (a::l)) v
noncomputable def fAVs (l:List AV):(List AV→β)→β:=List.rec (motive:=fun _=>(List AV→β)→β) (fun k=>k []) (fun a _ ih k=>fAV a fun a=>ih fun l=>k (a::l)) l
theorem fAV_eq (v:AV):∀ k:AV→β,fAV v k=k v :=
 AV.rec (motive_1:=fun v=>∀ k:AV→β,fAV v k=k v)
  (motive_2:=fun l=>∀ k:List AV→β,AV.rec_1 (motive_1:=fun _=>(AV→β)→β) (motive_2:=fun _=>(List AV→β)→β)
  (fun b k=>fBool (fun b=>k (.bool b)) b)
  (fun i n k=>fInt (fun n=>k (.int i n)) n)
  (fun s k=>fNats s fun s=>k (.str s))
  (fun id off k=>fNat (fun id=>fNat (fun off=>k (.ptr id off)) off) id)
  (fun id k=>fNat (fun id=>k (.it id)) id)
  (fun k=>k .nptr)
  (fun id off len cap ex sz k=>fNat (fun id=>fNat (fun off=>fNat (fun len=>fNat (fun cap=>fBool (fun ex=>fNat (fun sz=>k (.sl id off len cap ex sz)) sz) ex) cap) len) off) id)
  (fun k=>k .nsl)
  (fun id k=>fNat (fun id=>k (.map id)) id)
  (fun k=>k .nmap)
  (fun f _ _ a b k=>a fun a=>b fun b=>k (.fn f a b))
  (fun k=>k .nfn)
  (fun id k=>fNat (fun id=>k (.yld id)) id)
  (fun t _ v k=>fNat (fun t=>v fun v=>k (.iface t v)) t)
  (fun k=>k .nif)
  (fun _ l k=>l fun l=>k (.agg l))
  (fun _ l k=>l fun l=>k (.tup l))
  (fun v k=>k (.val v))
  (fun k=>k [])
  (fun _ _ a l k=>a fun a=>l fun l=>k (a::l)) l k=k l)
  (fun b k=>fBool_eq (fun b=>k (.bool b)) b)
  (fun i n k=>fInt_eq (fun n=>k (.int i n)) n)
  (fun s k=>fNats_eq s fun s=>k (.str s))
  (fun id off k=>(fNat_eq (fun id=>fNat (fun off=>k (.ptr id off)) off) id).trans (fNat_eq (fun off=>k (.ptr id off)) off))
  (fun id k=>fNat_eq (fun id=>k (.it id)) id)
  (fun k=>rfl)
  (fun id off len cap ex sz k=>by
   show fNat (fun id=>fNat (fun off=>fNat (fun len=>fNat (fun cap=>fBool (fun ex=>fNat (fun sz=>k (.sl id off len cap ex sz)) sz) ex) cap) len) off) id=_
   simp only [fNat_eq,fBool_eq])
  (fun k=>rfl)
  (fun id k=>fNat_eq (fun id=>k (.map id)) id)
  (fun k=>rfl)
  (fun f _ y a b k=>(a fun a=>_).trans (b fun b=>k (.fn f _ b)))
  (fun k=>rfl)
  (fun id k=>fNat_eq (fun id=>k (.yld id)) id)
  (fun t v0 v k=>(fNat_eq (fun t=>fAV v0 fun v=>k (.iface t v)) t).trans (v fun v=>k (.iface t v)))
  (fun k=>rfl)
  (fun _ l k=>l fun l=>k (.agg l))
  (fun _ l k=>l fun l=>k (.tup l))
  (fun v k=>rfl)
  (fun k=>rfl)
  (fun a0 l0 a l k=>(a fun a=>_).trans (l fun l=>k (a0::l))) v
theorem fAVs_eq:∀ (l:List AV) (k:List AV→β),fAVs l k=k l
 | [],_=>rfl
 | a::l,k=>(fAV_eq a _).trans (fAVs_eq l _)
noncomputable def fEs (l:List (AV×AV)):(List (AV×AV)→β)→β :=
 List.rec (motive:=fun _=>(List (AV×AV)→β)→β) (fun k=>k []) (fun e _ ih k=>Prod.rec (motive:=fun _=>β) (fun a b=>fAV a fun a=>fAV b fun b=>ih fun l=>k ((a,b)::l)) e) l
theorem fEs_eq:∀ (l:List (AV×AV)) (k:List (AV×AV)→β),fEs l k=k l
 | [],_=>rfl
 | (a,b)::l,k=>(fAV_eq a _).trans ((fAV_eq b _).trans (fEs_eq l _))
noncomputable def fOb (o:Obj) (k:Obj→β):β :=
 match o with
 | .cells c fz=>fAVs c fun c=>fNat (fun fz=>k (.cells c fz)) fz
 | .tc t c fz=>fAVs c fun c=>fNat (fun fz=>k (.tc t c fz)) fz
 | .map es clk=>fEs es fun es=>fNat (fun clk=>k (.map es clk)) clk
 | .sIter s p=>fNat (fun p=>k (.sIter s p)) p
 | .mIter a b c=>fNat (fun a=>fNat (fun b=>fNat (fun c=>k (.mIter a b c)) c) b) a
 | o=>k o
theorem fOb_eq (o:Obj) (k:Obj→β):fOb o k=k o:=by
 cases o<;>simp only [fOb,fAVs_eq,fNat_eq,fEs_eq]
noncomputable def T.setLeafK {α:Type} (x:α) (f:Nat):Nat→(T α→β)→β :=
 Nat.rec (motive:=fun _=>Nat→(T α→β)→β) (fun _ k=>k .leaf)
  (fun _ ih i k=>Nat.rec (motive:=fun _=>β) (k (.node .leaf (some x) .leaf))
   (fun n _=>Bool.rec (motive:=fun _=>β) (ih (Nat.div n 2) fun t=>k (.node .leaf none t)) (ih (Nat.div n 2) fun t=>k (.node t none .leaf)) (Nat.beq (Nat.mod n 2) 0)) i) f
theorem T.setLeafK_eq {α:Type} (x:α):∀ (f i:Nat) (k:T α→β),T.setLeafK x f i k=k (T.setLeaf x f i):=by
 intro f
 induction f with
 | zero=>intro i k;rfl
 | succ f ih =>
  intro i k
  cases i with
  | zero=>rfl
  | succ n =>
   rw [T.setLeaf_succ]
   show Bool.rec (motive:=fun _=>β) (T.setLeafK x f (n / 2) fun t=>k (.node .leaf none t)) (T.setLeafK x f (n / 2) fun t=>k (.node t none .leaf)) (Nat.beq (n%2) 0)=_
   by_cases h:n%2=0
   ·rw [if_pos h,h];exact ih _ _
   ·rw [if_neg h,beq_mod h];exact ih _ _
noncomputable def T.setNd {α:Type} (x:α) (l:T α) (v:Option α) (r:T α) (sl sr:Nat→(T α→β)→β) (i:Nat) (k:T α→β):β :=
 Nat.rec (motive:=fun _=>β) (k (.node l (some x) r))
  (fun n _=>Bool.rec (motive:=fun _=>β) (sr (Nat.div n 2) fun t=>k (.node l v t)) (sl (Nat.div n 2) fun t=>k (.node t v r)) (Nat.beq (Nat.mod n 2) 0)) i
noncomputable def T.setK {α:Type} (t:T α) (i:Nat) (x:α) (k:T α→β):β :=
 T.rec (motive:=fun _=>Nat→(T α→β)→β) (fun i k=>T.setLeafK x (Nat.succ i) i k) (T.setNd x) t i k
theorem T.setK_eq {α:Type} (t:T α) (x:α):∀ (i:Nat) (k:T α→β),T.setK t i x k=k (t.set i x):=by
 induction t with
 | leaf=>intro i k;exact T.setLeafK_eq x (Nat.succ i) i k
 | node l v r ihl ihr =>
  intro i k
  cases i with
  | zero=>rfl
  | succ n =>
   rw [T.set_succ]
   show Bool.rec (motive:=fun _=>β) (T.setK r (n / 2) x fun t=>k (.node l v t)) (T.setK l (n / 2) x fun t=>k (.node t v r)) (Nat.beq (n%2) 0)=_
   by_cases h:n%2=0
   ·rw [if_pos h,h];exact ihl _ _
   ·rw [if_neg h,beq_mod h];exact ihr _ _
noncomputable def T.touchNd (l:T Obj) (v:Option Obj) (r:T Obj) (sl sr:Nat→(T Obj→β)→β) (i:Nat) (k:T Obj→β):β :=
 Nat.rec (motive:=fun _=>β) (Option.rec (motive:=fun _=>β) (k (.node l none r)) (fun ob=>fOb ob fun ob=>k (.node l (some ob) r)) v)
  (fun n _=>Bool.rec (motive:=fun _=>β) (sr (Nat.div n 2) fun t=>k (.node l v t)) (sl (Nat.div n 2) fun t=>k (.node t v r)) (Nat.beq (Nat.mod n 2) 0)) i
noncomputable def T.touchK (t:T Obj) (i:Nat) (k:T Obj→β):β :=
 T.rec (motive:=fun _=>Nat→(T Obj→β)→β) (fun _ k=>k .leaf) T.touchNd t i k
theorem T.touchK_eq (t:T Obj):∀ (i:Nat) (k:T Obj→β),T.touchK t i k=k t:=by
 induction t with
 | leaf=>intro i k;rfl
 | node l v r ihl ihr =>
  intro i k
  cases i with
  | zero=>cases v with
   | none=>rfl
   | some ob=>exact fOb_eq ob fun ob=>k (.node l (some ob) r)
  | succ n =>
   show Bool.rec (motive:=fun _=>β) (T.touchK r (n / 2) fun t=>k (.node l v t)) (T.touchK l (n / 2) fun t=>k (.node t v r)) (Nat.beq (n%2) 0)=_
   by_cases h:n%2=0
   ·rw [h];exact ihl _ _
   ·rw [beq_mod h];exact ihr _ _
noncomputable def putK (tm:T AV) (d:Option Tmp) (v:AV) (k:T AV→β):β:=Option.rec (motive:=fun _=>β) (k tm) (fun d=>T.setK tm d v k) d
theorem putK_eq (tm:T AV) (d:Option Tmp) (v:AV) (k:T AV→β):putK tm d v k=k (putT tm d v):=by
 cases d with
 | none=>rfl
 | some d=>exact T.setK_eq _ _ _ _
noncomputable def touchO (i:Option Nat) (hp:T Obj) (k:T Obj→β):β:=Option.rec (motive:=fun _=>β) (k hp) (fun i=>T.touchK hp i k) i
theorem touchO_eq (i:Option Nat) (hp:T Obj) (k:T Obj→β):touchO i hp k=k hp:=by
 cases i with
 | none=>rfl
 | some d=>exact T.touchK_eq _ _ _
end force
def idV:AV→Option Nat
 | .ptr id _=>some id
 | .it id=>some id
 | .sl id _ _ _ _ _=>some id
 | .map id=>some id
 | _=>none
def idOf:Option AV→Option Nat
 | some v=>idV v
 | none=>none
noncomputable def kG (k k':IntKind) (r:Option AV):Option AV:=match kindEq k k' with|true=>r|false=>none
noncomputable def ti0:TI:=⟨.bool,0,0,[],none⟩
noncomputable def intF (op:BinOp):IntKind→IntKind→Int→Int→Option AV :=
 BinOp.rec (motive:=fun _=>IntKind→IntKind→Int→Int→Option AV)
  (fun k k' a b=>kG k k' (some (.int k (wrapF k (a+b)))))
  (fun k k' a b=>kG k k' (some (.int k (wrapF k (a - b)))))
  (fun k k' a b=>kG k k' (some (.int k (wrapF k (a*b)))))
  (fun k k' a b=>binA ti0 .quo (.int k a) (.int k' b))
  (fun k k' a b=>binA ti0 .rem (.int k a) (.int k' b))
  (fun k k' a b=>binA ti0 .and (.int k a) (.int k' b))
  (fun k k' a b=>binA ti0 .or (.int k a) (.int k' b))
  (fun k k' a b=>binA ti0 .xor (.int k a) (.int k' b))
  (fun k k' a b=>binA ti0 .shl (.int k a) (.int k' b))
  (fun k k' a b=>binA ti0 .shr (.int k a) (.int k' b))
  (fun k k' a b=>binA ti0 .andNot (.int k a) (.int k' b))
  (fun k k' a b=>kG k k' (some (.bool (intEq a b))))
  (fun k k' a b=>kG k k' (some (.bool (!intEq a b))))
  (fun k k' a b=>kG k k' (some (.bool (intLt a b))))
  (fun k k' a b=>kG k k' (some (.bool (!intLt b a))))
  (fun k k' a b=>kG k k' (some (.bool (intLt b a))))
  (fun k k' a b=>kG k k' (some (.bool (!intLt a b)))) op
noncomputable def binF (ti:TI) (op:BinOp) (x y:AV):Option AV :=
 match x with
 | .int k a=>match y with
  | .int k' b=>intF op k k' a b
  | y=>binA ti op (.int k a) y
 | x=>binA ti op x y
theorem binF_eq (ti:TI) (op:BinOp) (x y:AV):binF ti op x y=binA ti op x y:=by
 cases x<;>try rfl
 cases y<;>try rfl
 cases op<;>rfl
noncomputable def v_pick (C:Ctx) (tm:T AV) (hp:T Obj) (c:Operand) (a:Operand) (b:Operand):Option AV :=
 match ev C tm c with
  | some (.bool true)=>ev C tm a
  | some (.bool false)=>ev C tm b
  | _=>none
noncomputable def v_build (C:Ctx) (tm:T AV) (hp:T Obj) (t:TypeId) (parts:Array (Nat×Operand)):Option AV :=
 match C.tt.get t with
  | some ti=>match ti.k with
   | .st fs=>match fillA C tm (placeS C fs) ti.zero parts.toList with
    | some l=>some (.agg l)
    | none=>none
   | .arr _ e=>match C.tt.get e with
    | some te=>match fillA C tm (fun i=>some (i*te.size,te.size)) ti.zero parts.toList with
     | some l=>some (.agg l)
     | none=>none
    | none=>none
   | _=>none
  | none=>none
noncomputable def v_load (C:Ctx) (tm:T AV) (hp:T Obj) (t:TypeId) (a:Operand):Option AV :=
 match C.tt.get t,ev C tm a with
  | some ti,some v=>loadT ti hp v
  | _,_=>none
noncomputable def v_nilCheck (C:Ctx) (tm:T AV) (hp:T Obj) (x:Operand):Option AV :=
 match ev C tm x with
  | some (.ptr a b)=>some (.ptr a b)
  | some (.fn (.func f) a b)=>some (.fn (.func f) a b)
  | some (.yld id)=>some (.yld id)
  | some (.sl a b c d e f)=>some (.sl a b c d e f)
  | some .nsl=>some .nsl
  | some (.map a)=>some (.map a)
  | some .nmap=>some .nmap
  | _=>none
noncomputable def v_binOp (C:Ctx) (tm:T AV) (hp:T Obj) (op:BinOp) (t:TypeId) (x:Operand) (y:Operand) (_q4:TypeId):Option AV :=
 match C.tt.get t,ev C tm x,ev C tm y with
  | some ti,some .nif,some .nif=>match ti.k,y,op with
   | .ifc,.const _,.eql=>some (.bool true)
   | .ifc,.const _,.neq=>some (.bool false)
   | _,_,_=>none
  | some ti,some a,some b=>binA ti op a b
  | _,_,_=>none
noncomputable def v_unOp (C:Ctx) (tm:T AV) (hp:T Obj) (op:UnOp) (_q1:TypeId) (x:Operand):Option AV :=
 match ev C tm x with
  | some a=>unA op a
  | none=>none
noncomputable def v_convert (C:Ctx) (tm:T AV) (hp:T Obj) (s:TypeId) (d:TypeId) (x:Operand):Option AV :=
 match C.tt.get s,C.tt.get d,ev C tm x with
  | some _,some td,some (.int k n)=>match td.k with
   | .int k'=>some (.int k' (match kindEq k k' with|true=>k'.wrap n|false=>k'.wrap n))
   | .str=>some (.str (bytesOf (Utf8.encode n)))
   | _=>none
  | some ts,some td,some (.str l)=>match ts.k,td.k with
   | .str,.str=>some (.str l)
   | _,_=>none
  | some ts,some td,some (.sl id off n _ _ sz)=>match ts.k,td.k with
   | .sl e,.str=>match C.tt.get e with
    | some te=>match te.k,Nat.beq sz 1,n with
     | .int .u8,true,0=>some (.str [])
     | .int .u8,true,n'+1=>match rdH hp id off (n'+1) with
      | some l=>match valA.u8s l with|some r=>some (.str r)|none=>none
      | none=>none
     | _,_,_=>none
    | none=>none
   | _,_=>none
  | some ts,some td,some .nsl=>match ts.k,td.k with
   | .sl e,.str=>match C.tt.get e with
    | some te=>match te.k with|.int .u8=>some (.str [])|_=>none
    | none=>none
   | _,_=>none
  | _,_,_=>none
noncomputable def v_makeInterface (C:Ctx) (tm:T AV) (hp:T Obj) (t:TypeId) (x:Operand):Option AV :=
 match C.tt.get t,ev C tm x with
  | some ti,some v=>match ti.k with|.ifc=>none|.other=>none|_=>some (.iface t v)
  | _,_=>none
noncomputable def v_makeFunc (C:Ctx) (tm:T AV) (hp:T Obj) (f:Fn) (a:Array Operand) (b:Array Operand):Option AV :=
 match evs C tm a.toList,evs C tm b.toList with
  | some a,some b=>some (.fn f a b)
  | _,_=>none
noncomputable def v_slice (C:Ctx) (tm:T AV) (hp:T Obj) (t:TypeId) (x:Operand) (lo:Option Operand) (hi:Option Operand) (mx:Option Operand):Option AV :=
 match C.tt.get t,ev C tm x,valA.evO C tm lo,valA.evO C tm hi,valA.evO C tm mx with
  | some ti,some v,some lo,some hi,some mx=>match ti.k,v with
   | .str,.str s=>match mx with
    | none=>match bounds s.length s.length true lo hi none with
     | some b=>some (.str ((s.drop b.l).take (b.h - b.l)))
     | none=>none
    | some _=>none
   | .sl e,.nsl=>match C.tt.get e,bounds 0 0 true lo hi mx with
    | some _,some _=>some .nsl
    | _,_=>none
   | .sl e,.sl id off len cap ex sz=>match C.tt.get e with
    | some te=>match Nat.beq te.size sz,bounds len cap ex lo hi mx with
     | true,some b=>some (.sl id (match b.ex,Nat.beq b.m b.l with|true,true=>off|_,_=>off+b.l*sz) (b.h - b.l) (b.m - b.l) b.ex sz)
     | _,_=>none
    | none=>none
   | .arr n e,.ptr id off=>match C.tt.get e with
    | some te=>match bounds n n true lo hi mx,holds hp id (off+n*te.size) with
     | some b,true=>some (.sl id (match Nat.beq b.m b.l with|true=>off|false=>off+b.l*te.size) (b.h - b.l) (b.m - b.l) true te.size)
     | _,_=>none
    | none=>none
   | _,_=>none
  | _,_,_,_,_=>none
noncomputable def v_fieldAddr (C:Ctx) (tm:T AV) (hp:T Obj) (s:TypeId) (x:Operand) (f:Nat):Option AV :=
 match C.tt.get s,ev C tm x with
  | some ti,some (.ptr id off)=>match ti.k with
   | .st fs=>match nth fs f with
    | some p=>match C.tt.get p.2 with
     | some tf=>match Nat.beq tf.size 0 with
      | false=>some (.ptr id (off+p.1))
      | true=>none
     | none=>none
    | none=>none
   | _=>none
  | _,_=>none
noncomputable def v_field (C:Ctx) (tm:T AV) (hp:T Obj) (t:TypeId) (x:Operand) (f:Nat):Option AV :=
 match C.tt.get t,ev C tm x with
  | some ti,some (.agg cs)=>match ti.k with
   | .st fs=>match nth fs f with
    | some p=>match C.tt.get p.2 with
     | some tf=>partOf tf cs p.1
     | none=>none
    | none=>none
   | _=>none
  | _,_=>none
noncomputable def v_indexAddr (C:Ctx) (tm:T AV) (hp:T Obj) (t:TypeId) (x:Operand) (i:Operand):Option AV :=
 match C.tt.get t,ev C tm x,ev C tm i with
  | some ti,some v,some iv=>match natOf iv,ti.k,v with
   | some i,.arr n e,.ptr id off=>match C.tt.get e,Nat.blt i n with
    | some te,true=>some (.ptr id (off+i*te.size))
    | _,_=>none
   | some i,.sl e,.sl id off n _ _ sz=>match C.tt.get e,Nat.blt i n with
    | some te,true=>match Nat.beq te.size sz with
     | true=>some (.ptr id (off+i*sz))
     | false=>none
    | _,_=>none
   | _,_,_=>none
  | _,_,_=>none
noncomputable def v_index (C:Ctx) (tm:T AV) (hp:T Obj) (t:TypeId) (x:Operand) (i:Operand):Option AV :=
 match C.tt.get t,ev C tm x,ev C tm i with
  | some ti,some v,some iv=>match natOf iv,ti.k,v with
   | some i,.arr n e,.agg cs=>match C.tt.get e,Nat.blt i n with
    | some te,true=>partOf te cs (i*te.size)
    | _,_=>none
   | some i,.str,.str s=>match nth s i with
    | some c=>some (.int .u8 (Int.ofNat c))
    | none=>none
   | _,_,_=>none
  | _,_,_=>none
noncomputable def v_lookup (C:Ctx) (tm:T AV) (hp:T Obj) (t:TypeId) (x:Operand) (i:Operand) (ok:Bool):Option AV :=
 match C.tt.get t,ev C tm x,ev C tm i with
  | some ti,some v,some k=>match ti.k with
   | .map kt et=>match C.tt.get kt,C.tt.get et with
    | some tk,some te=>match keyOk tk k,(match v with|.nmap=>some []|.map id=>(match hp.get id with|some (.map es _)=>some es|_=>none)|_=>none) with
     | true,some es=>match findK k es with
      | some (some x)=>some (match ok with|true=>.tup [x,.bool true]|false=>x)
      | some none=>match (match te.k.agg with|true=>some (.agg te.zero)|false=>(match te.zero with|[z]=>some z|_=>none)) with
       | some z=>some (match ok with|true=>.tup [z,.bool false]|false=>z)
       | none=>none
      | none=>none
     | _,_=>none
    | _,_=>none
   | _=>none
  | _,_,_=>none
noncomputable def v_extract (C:Ctx) (tm:T AV) (hp:T Obj) (x:Operand) (i:Nat):Option AV :=
 match ev C tm x with
  | some (.tup l)=>nth l i
  | _=>none
noncomputable def v_entry (C:Ctx) (tm:T AV) (hp:T Obj) (x:Operand):Option AV :=
 match ev C tm x with
  | some (.it id)=>match hp.get id with
   | some (.mIter m clk 1)=>match hp.get m with
    | some (.map [e] clk')=>match Nat.beq clk clk',Nat.beq clk 1 with|true,true=>some (.tup [e.1,e.2])|_,_=>none
    | _=>none
   | _=>none
  | _=>none
noncomputable def v_typeAssert (C:Ctx) (tm:T AV) (hp:T Obj) (x:Operand) (_q1:TypeId) (a:TypeId) (ok:Bool):Option AV :=
 match ev C tm x,C.tt.get a with
  | some (.iface t v),some ta=>match ta.k,Nat.beq t a with
   | .ifc,_=>none
   | .other,_=>none
   | _,true=>some (match ok with|true=>.tup [v,.bool true]|false=>v)
   | _,false=>none
  | _,_=>none
noncomputable def n_alloc (C:Ctx) (tm:T AV) (hp:T Obj) (nx:Nat) (t:TypeId):Option (Obj×AV) :=
 match C.tt.get t with
  | some ti=>some (mkO (C.bt t) t ti.zero 0,.ptr nx 0)
  | none=>none
noncomputable def n_box (C:Ctx) (tm:T AV) (hp:T Obj) (nx:Nat) (_q0:TypeId) (x:Operand):Option (Obj×AV) :=
 match ev C tm x with
  | some v=>some (.cells v.cells 0,.ptr nx 0)
  | none=>none
noncomputable def n_buildSlice (C:Ctx) (tm:T AV) (hp:T Obj) (nx:Nat) (t:TypeId) (len:Nat) (parts:Array (Nat×Operand)):Option (Obj×AV) :=
 match C.tt.get t with
  | some ti=>match ti.k with
   | .sl e=>match C.tt.get e with
    | some te=>match Nat.ble (len*te.size) 16777216,Nat.beq te.size te.zero.length with
     | true,true=>match fillA C tm (fun i=>some (i*te.size,te.size)) (reps len te.zero) parts.toList with
      | some l=>some (.cells l 0,.sl nx 0 len len true te.size)
      | none=>none
     | _,_=>none
    | none=>none
   | _=>none
  | none=>none
noncomputable def n_makeSlice (C:Ctx) (tm:T AV) (hp:T Obj) (nx:Nat) (t:TypeId) (l:Operand) (c:Operand):Option (Obj×AV) :=
 match C.tt.get t,ev C tm l,ev C tm c with
  | some ti,some lv,some cv=>match ti.k,natOf lv,natOf cv with
   | .sl e,some l,some c=>match C.tt.get e with
    | some te=>match Nat.ble l c,Nat.ble c big,Nat.ble te.bytes 1024,Nat.beq te.size te.zero.length with
     | true,true,true,true=>some (.cells (reps c te.zero) 0,.sl nx 0 l c true te.size)
     | _,_,_,_=>none
    | none=>none
   | _,_,_=>none
  | _,_,_=>none
noncomputable def n_range (C:Ctx) (tm:T AV) (hp:T Obj) (nx:Nat) (t:TypeId) (x:Operand):Option (Obj×AV) :=
 match C.tt.get t,ev C tm x with
  | some ti,some v=>match ti.k,v with
   | .str,.str s=>some (.sIter s 0,.it nx)
   | .map _ _,.map m=>match hp.get m with
    | some (.map _ clk)=>some (.mIter m clk 0,.it nx)
    | _=>none
   | _,_=>none
  | _,_=>none
noncomputable def c_store (C:Ctx) (tm:T AV) (hp:T Obj) (nx:Nat) (t:TypeId) (a:Operand) (x:Operand):Option R3 :=
 match C.tt.get t,ev C tm a,ev C tm x with
  | some ti,some (.ptr id off),some v=>match Nat.beq v.cells.length ti.size with
   | true=>match wrH hp id off v.cells with
    | some hp'=>some ⟨undefA,hp',nx⟩
    | none=>none
   | false=>none
  | _,_,_=>none
noncomputable def c_mapUpdate (C:Ctx) (tm:T AV) (hp:T Obj) (nx:Nat) (t:TypeId) (m:Operand) (k:Operand) (x:Operand):Option R3 :=
 chgA.upd C tm hp nx t m k x
noncomputable def c_insert (C:Ctx) (tm:T AV) (hp:T Obj) (nx:Nat) (t:TypeId) (m:Operand) (k:Operand) (x:Operand):Option R3 :=
 chgA.upd C tm hp nx t m k x
noncomputable def c_next (C:Ctx) (tm:T AV) (hp:T Obj) (nx:Nat) (it:Operand) (isS:Bool):Option R3 :=
 match ev C tm it with
  | some (.it id)=>match hp.get id,isS with
   | some (.sIter s pos),true=>match s.drop pos with
    | []=>some ⟨.tup [.bool false],hp,nx⟩
    | c::_=>match Nat.blt c 128 with
     | true=>some ⟨.tup [.bool true,.int .i64 (Int.ofNat pos),.int .i32 (Int.ofNat c)],hp.set id (.sIter s (pos+1)),nx⟩
     | false =>
      let r:=Utf8.decode ⟨(s.map UInt8.ofNat).toArray⟩ pos
      some ⟨.tup [.bool true,.int .i64 (Int.ofNat pos),.int .i32 r.1],hp.set id (.sIter s (pos+r.2)),nx⟩
   | some (.mIter m clk st),false=>match hp.get m with
    | some (.map es clk')=>match Nat.beq clk clk',Nat.beq clk 1,es,st with
     | true,_,[],_=>some ⟨.tup [.bool false],hp,nx⟩
     | true,true,[e],0=>some ⟨.tup [.bool true,e.1,e.2],hp.set id (.mIter m clk 1),nx⟩
     | true,true,[_],_+1=>some ⟨.tup [.bool false],hp,nx⟩
     | _,_,_,_=>none
    | _=>none
   | _,_=>none
  | _=>none
noncomputable def n_makeMap (C:Ctx) (tm:T AV) (hp:T Obj) (nx:Nat) (t:TypeId) (r:Option Operand):Option (Obj×AV) :=
 match r with
 | none=>match C.tt.get t with
  | some _=>some (.map [] 0,.map nx)
  | none=>none
 | some x=>match C.tt.get t,ev C tm x with
  | some ti,some (.int _ _)=>match ti.k with
   | .map _ _=>some (.map [] 0,.map nx)
   | _=>none
  | _,_=>none
noncomputable def v_binF (C:Ctx) (tm:T AV) (op:BinOp) (t:TypeId) (x:Operand) (y:Operand):Option AV :=
 match C.tt.get t,ev C tm x,ev C tm y with
  | some ti,some .nif,some .nif=>match ti.k,y,op with
   | .ifc,.const _,.eql=>some (.bool true)
   | .ifc,.const _,.neq=>some (.bool false)
   | _,_,_=>none
  | some ti,some a,some b=>binF ti op a b
  | _,_,_=>none
noncomputable def v_len (C:Ctx) (tm:T AV) (hp:T Obj) (args:List Operand) (tys:List TypeId):Option AV :=
 match args,tys with
   | [x],t::_=>match C.tt.get t,ev C tm x with
    | some ti,some v=>match lenA hp ti v with|some n=>some (.int .i64 (Int.ofNat n))|none=>none
    | _,_=>none
   | _,_=>none
noncomputable def c_append (C:Ctx) (tm:T AV) (hp:T Obj) (nx:Nat) (args:List Operand) (tys:List TypeId):Option R3 :=
 match args,tys with
   | [s,x],[t,u]=>match C.tt.get t,C.tt.get u,ev C tm s,ev C tm x with
    | some ti,some tu,some sv,some xv=>match ti.k with
     | .sl e=>match C.tt.get e with
      | some te=>match tu.k with
       | .int .i64=>appendZ e (C.bt e) te hp nx sv xv
       | _=>match srcKind tu.k xv,srcA hp te.size xv with
        | true,some nl=>appendA e (C.bt e) te hp nx sv nl.1 nl.2
        | _,_=>none
      | none=>none
     | _=>none
    | _,_,_,_=>none
   | _,_=>none
section steps
noncomputable def stepG (C:Ctx) (call:CallF) (rd:Bool) (o:Oper) (st:St) (ih:St→Option St):Option St :=
 match opA C call st.tm st.hp st.nx o with
 | some r=>ih ⟨putT st.tm o.dst r.v,r.hp,r.nx,st.df⟩
 | none=>match offA C rd st o with
  | some st'=>ih st'
  | none=>none
noncomputable def kV0 (v:Option AV) (o:Oper) (st:St) (ih:St→Option St):Option St :=
 Option.rec (motive:=fun _=>Option St) none (fun v=>putK st.tm o.dst v fun tm=>ih ⟨tm,st.hp,st.nx,st.df⟩) v
noncomputable def kV (v:Option AV) (o:Oper) (st:St) (ih:St→Option St):Option St :=
 Option.rec (motive:=fun _=>Option St) none (fun v=>fAV v fun v=>putK st.tm o.dst v fun tm=>ih ⟨tm,st.hp,st.nx,st.df⟩) v
noncomputable def kN (p:Option (Obj×AV)) (o:Oper) (st:St) (ih:St→Option St):Option St :=
 Option.rec (motive:=fun _=>Option St) none (fun p=>Prod.rec (motive:=fun _=>Option St) (fun ob v=>fOb ob fun ob=>T.setK st.hp st.nx ob fun hp=>fAV v fun v=>fNat (fun nx=>putK st.tm o.dst v fun tm=>ih ⟨tm,hp,nx,st.df⟩) (st.nx+1)) p) p
noncomputable def kC (r:Option R3) (i:Option Nat) (tr:Bool) (o:Oper) (st:St) (ih:St→Option St):Option St :=
 Option.rec (motive:=fun _=>Option St) none (fun r=>Bool.rec (motive:=fun _=>Option St) none
  (touchO i r.hp fun hp=>fAV r.v fun v=>touchO (match tr with|true=>idV v|false=>none) hp fun hp=>fNat (fun nx=>putK st.tm o.dst v fun tm=>ih ⟨tm,hp,nx,st.df⟩) r.nx) (Nat.ble st.nx r.nx)) r
noncomputable def kR (r:Option R3) (o:Oper) (st:St) (ih:St→Option St):Option St :=
 Option.rec (motive:=fun _=>Option St) none (fun r=>R3.rec (motive:=fun _=>Option St) (fun v hp nx=>putK st.tm o.dst v fun tm=>ih ⟨tm,hp,nx,st.df⟩) r) r
noncomputable def sSlow (C:Ctx) (call:CallF) (rd:Bool) (o:Oper) (st:St) (ih:St→Option St):Option St:=stepG C call rd o st ih
variable {C:Ctx} {call:CallF} {rd:Bool} {o:Oper} {st:St} {ih:St→Option St}
theorem offA_none (h:∀ c,o.op≠.defer c):offA C rd st o=none:=by
 unfold offA
 split
 ·next c hc=>exact(h c hc).elim
 ·rfl
theorem kV_eq0 (v:Option AV):kV v o st ih=kV0 v o st ih:=by
 cases v with
 | none=>rfl
 | some v=>exact fAV_eq v fun v=>putK st.tm o.dst v fun tm=>ih ⟨tm,st.hp,st.nx,st.df⟩
theorem kV0_ok {v:Option AV} (h1:cls o.op=.val) (h2:valA C st.tm st.hp o=v) (h3:offA C rd st o=none):kV0 v o st ih=stepG C call rd o st ih:=by
 unfold stepG opA
 rw [h1]
 simp only [h2,h3]
 cases v with
 | none=>rfl
 | some v=>exact putK_eq st.tm o.dst v fun tm=>ih ⟨tm,st.hp,st.nx,st.df⟩
theorem kV_ok {v:Option AV} (h1:cls o.op=.val) (h2:valA C st.tm st.hp o=v) (h3:offA C rd st o=none):kV v o st ih=stepG C call rd o st ih:=(kV_eq0 v).trans (kV0_ok h1 h2 h3)
theorem kN_ok {p:Option (Obj×AV)} (h1:cls o.op=.new) (h2:newA C st.tm st.hp st.nx o=p) (h3:offA C rd st o=none):kN p o st ih=stepG C call rd o st ih:=by
 unfold stepG opA
 rw [h1]
 simp only [h2,h3]
 cases p with
 | none=>rfl
 | some p =>
  obtain⟨ob,v⟩:=p
  show(fOb ob fun ob=>T.setK st.hp st.nx ob fun hp=>fAV v fun v=>fNat (fun nx=>putK st.tm o.dst v fun tm=>ih ⟨tm,hp,nx,st.df⟩) (st.nx+1))=_
  simp only [fOb_eq,T.setK_eq,fAV_eq,fNat_eq,putK_eq]
theorem kC_ok {r:Option R3} {i:Option Nat} {tr:Bool} (h1:cls o.op=.chg) (h2:chgA C st.tm st.hp st.nx o=r) (h3:offA C rd st o=none):kC r i tr o st ih=stepG C call rd o st ih:=by
 unfold stepG opA
 rw [h1]
 simp only [h2,h3]
 cases r with
 | none=>rfl
 | some r =>
  show Bool.rec (motive:=fun _=>Option St) none (touchO i r.hp fun hp=>fAV r.v fun v=>touchO (match tr with|true=>idV v|false=>none) hp fun hp=>fNat (fun nx=>putK st.tm o.dst v fun tm=>ih ⟨tm,hp,nx,st.df⟩) r.nx) (Nat.ble st.nx r.nx)=_
  simp only [touchO_eq,fAV_eq,fNat_eq,putK_eq]
  cases Nat.ble st.nx r.nx<;>rfl
theorem kR_ok {r:Option R3} (h1:cls o.op=.call) (h2:callA C call st.tm st.hp st.nx o=r) (h3:offA C rd st o=none):kR r o st ih=stepG C call rd o st ih:=by
 unfold stepG opA
 rw [h1]
 simp only [h2,h3]
 cases r with
 | none=>rfl
 | some r=>obtain⟨v,hp,nx⟩:=r;exact putK_eq st.tm o.dst v fun tm=>ih ⟨tm,hp,nx,st.df⟩
end steps
noncomputable def s_move (x:Operand) (C:Ctx) (call:CallF) (rd:Bool) (o:Oper) (st:St) (ih:St→Option St):Option St:=kV0 (ev C st.tm x) o st ih
noncomputable def s_assign (x:Operand) (C:Ctx) (call:CallF) (rd:Bool) (o:Oper) (st:St) (ih:St→Option St):Option St:=kV0 (ev C st.tm x) o st ih
noncomputable def s_load (t:TypeId) (a:Operand) (C:Ctx) (call:CallF) (rd:Bool) (o:Oper) (st:St) (ih:St→Option St):Option St:=kV0 (v_load C st.tm st.hp t a) o st ih
noncomputable def s_store (t:TypeId) (a:Operand) (x:Operand) (C:Ctx) (call:CallF) (rd:Bool) (o:Oper) (st:St) (ih:St→Option St):Option St:=kC (c_store C st.tm st.hp st.nx t a x) (idOf (ev C st.tm a)) false o st ih
noncomputable def s_binOp (op:BinOp) (t:TypeId) (x:Operand) (y:Operand) (_yt:TypeId) (C:Ctx) (call:CallF) (rd:Bool) (o:Oper) (st:St) (ih:St→Option St):Option St:=kV (v_binF C st.tm op t x y) o st ih
noncomputable def callV (x:Operand) (args:List Operand) (C:Ctx) (call:CallF) (st:St):Option R3 :=
 match ev C st.tm x,evs C st.tm args with
 | some (.fn (.func f) first cap),some args=>call (.fn f) (first++args++cap) st.hp st.nx
 | some (.yld id),some args=>call (.yld id) args st.hp st.nx
 | _,_=>none
noncomputable def callB (b:Builtin) (args:List Operand) (tys:List TypeId) (C:Ctx) (call:CallF) (rd:Bool) (o:Oper) (st:St) (ih:St→Option St):Option St :=
 match b with
 | .len=>kV (v_len C st.tm st.hp args tys) o st ih
 | .append=>kC (c_append C st.tm st.hp st.nx args tys) (match args with|x::_=>idOf (ev C st.tm x)|[]=>none) true o st ih
 | _=>sSlow C call rd o st ih
noncomputable def s_call (c:Call) (C:Ctx) (call:CallF) (rd:Bool) (o:Oper) (st:St) (ih:St→Option St):Option St :=
 match c.callee with
 | .value x=>kR (callV x c.args.toList C call st) o st ih
 | .builtin b=>callB b c.args.toList c.argTypes.toList C call rd o st ih
 | _=>sSlow C call rd o st ih
noncomputable def s_pick (c:Operand) (a:Operand) (b:Operand) (C:Ctx) (call:CallF) (rd:Bool) (o:Oper) (st:St) (ih:St→Option St):Option St:=kV0 (v_pick C st.tm st.hp c a b) o st ih
noncomputable def s_alloc (t:TypeId) (C:Ctx) (call:CallF) (rd:Bool) (o:Oper) (st:St) (ih:St→Option St):Option St:=kN (n_alloc C st.tm st.hp st.nx t) o st ih
noncomputable def s_box (t:TypeId) (x:Operand) (C:Ctx) (call:CallF) (rd:Bool) (o:Oper) (st:St) (ih:St→Option St):Option St:=kN (n_box C st.tm st.hp st.nx t x) o st ih
noncomputable def s_build (t:TypeId) (parts:Array (Nat×Operand)) (C:Ctx) (call:CallF) (rd:Bool) (o:Oper) (st:St) (ih:St→Option St):Option St:=kV (v_build C st.tm st.hp t parts) o st ih
noncomputable def s_buildSlice (t:TypeId) (len:Nat) (parts:Array (Nat×Operand)) (C:Ctx) (call:CallF) (rd:Bool) (o:Oper) (st:St) (ih:St→Option St):Option St:=kN (n_buildSlice C st.tm st.hp st.nx t len parts) o st ih
noncomputable def s_insert (t:TypeId) (m:Operand) (k:Operand) (x:Operand) (C:Ctx) (call:CallF) (rd:Bool) (o:Oper) (st:St) (ih:St→Option St):Option St:=kC (c_insert C st.tm st.hp st.nx t m k x) (idOf (ev C st.tm m)) false o st ih
noncomputable def s_ready (g:Nat) (C:Ctx) (call:CallF) (rd:Bool) (o:Oper) (st:St) (ih:St→Option St):Option St:=sSlow C call rd o st ih
noncomputable def s_waits (g:Nat) (C:Ctx) (call:CallF) (rd:Bool) (o:Oper) (st:St) (ih:St→Option St):Option St:=sSlow C call rd o st ih
noncomputable def s_nilCheck (x:Operand) (C:Ctx) (call:CallF) (rd:Bool) (o:Oper) (st:St) (ih:St→Option St):Option St:=kV0 (v_nilCheck C st.tm st.hp x) o st ih
noncomputable def s_unOp (op:UnOp) (t:TypeId) (x:Operand) (C:Ctx) (call:CallF) (rd:Bool) (o:Oper) (st:St) (ih:St→Option St):Option St:=kV (v_unOp C st.tm st.hp op t x) o st ih
noncomputable def s_convert (s:TypeId) (d:TypeId) (x:Operand) (C:Ctx) (call:CallF) (rd:Bool) (o:Oper) (st:St) (ih:St→Option St):Option St:=kV (v_convert C st.tm st.hp s d x) o st ih
noncomputable def s_sliceToArrayPointer (d:TypeId) (x:Operand) (C:Ctx) (call:CallF) (rd:Bool) (o:Oper) (st:St) (ih:St→Option St):Option St:=sSlow C call rd o st ih
noncomputable def s_makeInterface (t:TypeId) (x:Operand) (C:Ctx) (call:CallF) (rd:Bool) (o:Oper) (st:St) (ih:St→Option St):Option St:=kV (v_makeInterface C st.tm st.hp t x) o st ih
noncomputable def s_makeFunc (f:Fn) (a:Array Operand) (b:Array Operand) (C:Ctx) (call:CallF) (rd:Bool) (o:Oper) (st:St) (ih:St→Option St):Option St:=kV0 (v_makeFunc C st.tm st.hp f a b) o st ih
noncomputable def s_makeMap (t:TypeId) (r:Option Operand) (C:Ctx) (call:CallF) (rd:Bool) (o:Oper) (st:St) (ih:St→Option St):Option St:=kN (n_makeMap C st.tm st.hp st.nx t r) o st ih
noncomputable def s_makeChan (t:TypeId) (x:Operand) (C:Ctx) (call:CallF) (rd:Bool) (o:Oper) (st:St) (ih:St→Option St):Option St:=sSlow C call rd o st ih
noncomputable def s_makeSlice (t:TypeId) (l:Operand) (c:Operand) (C:Ctx) (call:CallF) (rd:Bool) (o:Oper) (st:St) (ih:St→Option St):Option St:=kN (n_makeSlice C st.tm st.hp st.nx t l c) o st ih
noncomputable def s_slice (t:TypeId) (x:Operand) (lo:Option Operand) (hi:Option Operand) (mx:Option Operand) (C:Ctx) (call:CallF) (rd:Bool) (o:Oper) (st:St) (ih:St→Option St):Option St:=kV (v_slice C st.tm st.hp t x lo hi mx) o st ih
noncomputable def s_fieldAddr (s:TypeId) (x:Operand) (f:Nat) (C:Ctx) (call:CallF) (rd:Bool) (o:Oper) (st:St) (ih:St→Option St):Option St:=kV (v_fieldAddr C st.tm st.hp s x f) o st ih
noncomputable def s_field (t:TypeId) (x:Operand) (f:Nat) (C:Ctx) (call:CallF) (rd:Bool) (o:Oper) (st:St) (ih:St→Option St):Option St:=kV0 (v_field C st.tm st.hp t x f) o st ih
noncomputable def s_indexAddr (t:TypeId) (x:Operand) (i:Operand) (C:Ctx) (call:CallF) (rd:Bool) (o:Oper) (st:St) (ih:St→Option St):Option St:=kV (v_indexAddr C st.tm st.hp t x i) o st ih
noncomputable def s_index (t:TypeId) (x:Operand) (i:Operand) (C:Ctx) (call:CallF) (rd:Bool) (o:Oper) (st:St) (ih:St→Option St):Option St:=kV (v_index C st.tm st.hp t x i) o st ih
noncomputable def s_lookup (t:TypeId) (x:Operand) (i:Operand) (ok:Bool) (C:Ctx) (call:CallF) (rd:Bool) (o:Oper) (st:St) (ih:St→Option St):Option St:=kV0 (v_lookup C st.tm st.hp t x i ok) o st ih
noncomputable def s_mapUpdate (t:TypeId) (m:Operand) (k:Operand) (x:Operand) (C:Ctx) (call:CallF) (rd:Bool) (o:Oper) (st:St) (ih:St→Option St):Option St:=kC (c_mapUpdate C st.tm st.hp st.nx t m k x) (idOf (ev C st.tm m)) false o st ih
noncomputable def s_mapEntry (t:TypeId) (m:Operand) (k:Operand) (C:Ctx) (call:CallF) (rd:Bool) (o:Oper) (st:St) (ih:St→Option St):Option St:=sSlow C call rd o st ih
noncomputable def s_entryStore (t:TypeId) (m:Operand) (k:Operand) (x:Operand) (C:Ctx) (call:CallF) (rd:Bool) (o:Oper) (st:St) (ih:St→Option St):Option St:=sSlow C call rd o st ih
noncomputable def s_range (t:TypeId) (x:Operand) (C:Ctx) (call:CallF) (rd:Bool) (o:Oper) (st:St) (ih:St→Option St):Option St:=kN (n_range C st.tm st.hp st.nx t x) o st ih
noncomputable def s_next (it:Operand) (isS:Bool) (C:Ctx) (call:CallF) (rd:Bool) (o:Oper) (st:St) (ih:St→Option St):Option St:=kC (c_next C st.tm st.hp st.nx it isS) (idOf (ev C st.tm it)) false o st ih
noncomputable def s_entry (x:Operand) (C:Ctx) (call:CallF) (rd:Bool) (o:Oper) (st:St) (ih:St→Option St):Option St:=kV (v_entry C st.tm st.hp x) o st ih
noncomputable def s_typeAssert (x:Operand) (xt:TypeId) (a:TypeId) (ok:Bool) (C:Ctx) (call:CallF) (rd:Bool) (o:Oper) (st:St) (ih:St→Option St):Option St:=kV (v_typeAssert C st.tm st.hp x xt a ok) o st ih
noncomputable def s_extract (x:Operand) (i:Nat) (C:Ctx) (call:CallF) (rd:Bool) (o:Oper) (st:St) (ih:St→Option St):Option St:=kV0 (v_extract C st.tm st.hp x i) o st ih
noncomputable def s_go (c:Call) (C:Ctx) (call:CallF) (rd:Bool) (o:Oper) (st:St) (ih:St→Option St):Option St:=sSlow C call rd o st ih
noncomputable def s_defer (c:Call) (C:Ctx) (call:CallF) (rd:Bool) (o:Oper) (st:St) (ih:St→Option St):Option St:=sSlow C call rd o st ih
noncomputable def s_panic (x:Operand) (C:Ctx) (call:CallF) (rd:Bool) (o:Oper) (st:St) (ih:St→Option St):Option St:=sSlow C call rd o st ih
noncomputable def s_send (a:Operand) (x:Operand) (C:Ctx) (call:CallF) (rd:Bool) (o:Oper) (st:St) (ih:St→Option St):Option St:=sSlow C call rd o st ih
noncomputable def s_recv (t:TypeId) (x:Operand) (ok:Bool) (C:Ctx) (call:CallF) (rd:Bool) (o:Oper) (st:St) (ih:St→Option St):Option St:=sSlow C call rd o st ih
noncomputable def s_select (cs:Array SelectCase) (bl:Bool) (C:Ctx) (call:CallF) (rd:Bool) (o:Oper) (st:St) (ih:St→Option St):Option St:=sSlow C call rd o st ih
noncomputable def stepTab (op:Op):Ctx→CallF→Bool→Oper→St→(St→Option St)→Option St :=
 Op.rec (motive:=fun _=>Ctx→CallF→Bool→Oper→St→(St→Option St)→Option St) s_move s_assign s_pick s_alloc s_box s_build s_buildSlice s_insert s_load s_store s_ready s_waits s_nilCheck s_binOp s_unOp s_convert s_sliceToArrayPointer s_makeInterface s_makeFunc s_makeMap s_makeChan s_makeSlice s_slice s_fieldAddr s_field s_indexAddr s_index s_lookup s_mapUpdate s_mapEntry s_entryStore s_range s_next s_entry s_typeAssert s_extract s_call s_go s_defer s_panic s_send s_recv s_select op
theorem v_binF_eq (C:Ctx) (tm:T AV) (hp:T Obj) (op:BinOp) (t:TypeId) (x y:Operand) (yt:TypeId):v_binOp C tm hp op t x y yt=v_binF C tm op t x y:=by
 unfold v_binOp v_binF
 simp only [binF_eq]
theorem stepTab_ok (C:Ctx) (call:CallF) (rd:Bool) (o:Oper) (st:St) (ih:St→Option St):stepTab o.op C call rd o st ih=stepG C call rd o st ih:=by
 obtain⟨dst,op,ty,pos,af,gd⟩:=o
 cases op with
 | move x=>show kV0 (ev C st.tm x) _ st ih=_;exact kV0_ok rfl rfl (offA_none fun _ q=>by cases q)
 | assign x=>show kV0 (ev C st.tm x) _ st ih=_;exact kV0_ok rfl rfl (offA_none fun _ q=>by cases q)
 | load t a=>show kV0 (v_load C st.tm st.hp t a) _ st ih=_;exact kV0_ok rfl rfl (offA_none fun _ q=>by cases q)
 | store t a x=>show kC (c_store C st.tm st.hp st.nx t a x) (idOf (ev C st.tm a)) false _ st ih=_;exact kC_ok rfl rfl (offA_none fun _ q=>by cases q)
 | binOp op t x y yt=>show kV (v_binF C st.tm op t x y) _ st ih=_;exact kV_ok rfl (v_binF_eq C st.tm st.hp op t x y yt) (offA_none fun _ q=>by cases q)
 | call c =>
  obtain⟨cl,args,tys⟩:=c
  cases cl with
  | value x=>show kR (callV x args.toList C call st) _ st ih=_;exact kR_ok rfl rfl (offA_none fun _ q=>by cases q)
  | invoke r m=>rfl
  | builtin b =>
   cases b with
   | len=>show kV (v_len C st.tm st.hp args.toList tys.toList) _ st ih=_;exact kV_ok rfl rfl (offA_none fun _ q=>by cases q)
   | append=>show kC (c_append C st.tm st.hp st.nx args.toList tys.toList) (match args.toList with|x::_=>idOf (ev C st.tm x)|[]=>none) true _ st ih=_;exact kC_ok rfl rfl (offA_none fun _ q=>by cases q)
   | _=>rfl
 | pick c a b=>show kV0 (v_pick C st.tm st.hp c a b) _ st ih=_;exact kV0_ok rfl rfl (offA_none fun _ q=>by cases q)
 | alloc t=>show kN (n_alloc C st.tm st.hp st.nx t) _ st ih=_;exact kN_ok rfl rfl (offA_none fun _ q=>by cases q)
 | box t x=>show kN (n_box C st.tm st.hp st.nx t x) _ st ih=_;exact kN_ok rfl rfl (offA_none fun _ q=>by cases q)
 | build t parts=>show kV (v_build C st.tm st.hp t parts) _ st ih=_;exact kV_ok rfl rfl (offA_none fun _ q=>by cases q)
 | buildSlice t len parts=>show kN (n_buildSlice C st.tm st.hp st.nx t len parts) _ st ih=_;exact kN_ok rfl rfl (offA_none fun _ q=>by cases q)
 | insert t m k x=>show kC (c_insert C st.tm st.hp st.nx t m k x) (idOf (ev C st.tm m)) false _ st ih=_;exact kC_ok rfl rfl (offA_none fun _ q=>by cases q)
 | ready g=>rfl
 | waits g=>rfl
 | nilCheck x=>show kV0 (v_nilCheck C st.tm st.hp x) _ st ih=_;exact kV0_ok rfl rfl (offA_none fun _ q=>by cases q)
 | unOp op t x=>show kV (v_unOp C st.tm st.hp op t x) _ st ih=_;exact kV_ok rfl rfl (offA_none fun _ q=>by cases q)
 | convert s d x=>show kV (v_convert C st.tm st.hp s d x) _ st ih=_;exact kV_ok rfl rfl (offA_none fun _ q=>by cases q)
 | sliceToArrayPointer d x=>rfl
 | makeInterface t x=>show kV (v_makeInterface C st.tm st.hp t x) _ st ih=_;exact kV_ok rfl rfl (offA_none fun _ q=>by cases q)
 | makeFunc f a b=>show kV0 (v_makeFunc C st.tm st.hp f a b) _ st ih=_;exact kV0_ok rfl rfl (offA_none fun _ q=>by cases q)
 | makeMap t r=>show kN (n_makeMap C st.tm st.hp st.nx t r) _ st ih=_;exact kN_ok rfl (by cases r<;>rfl) (offA_none fun _ q=>by cases q)
 | makeChan t x=>rfl
 | makeSlice t l c=>show kN (n_makeSlice C st.tm st.hp st.nx t l c) _ st ih=_;exact kN_ok rfl rfl (offA_none fun _ q=>by cases q)
 | slice t x lo hi mx=>show kV (v_slice C st.tm st.hp t x lo hi mx) _ st ih=_;exact kV_ok rfl rfl (offA_none fun _ q=>by cases q)
 | fieldAddr s x f=>show kV (v_fieldAddr C st.tm st.hp s x f) _ st ih=_;exact kV_ok rfl rfl (offA_none fun _ q=>by cases q)
 | field t x f=>show kV0 (v_field C st.tm st.hp t x f) _ st ih=_;exact kV0_ok rfl rfl (offA_none fun _ q=>by cases q)
 | indexAddr t x i=>show kV (v_indexAddr C st.tm st.hp t x i) _ st ih=_;exact kV_ok rfl rfl (offA_none fun _ q=>by cases q)
 | index t x i=>show kV (v_index C st.tm st.hp t x i) _ st ih=_;exact kV_ok rfl rfl (offA_none fun _ q=>by cases q)
 | lookup t x i ok=>show kV0 (v_lookup C st.tm st.hp t x i ok) _ st ih=_;exact kV0_ok rfl rfl (offA_none fun _ q=>by cases q)
 | mapUpdate t m k x=>show kC (c_mapUpdate C st.tm st.hp st.nx t m k x) (idOf (ev C st.tm m)) false _ st ih=_;exact kC_ok rfl rfl (offA_none fun _ q=>by cases q)
 | mapEntry t m k=>rfl
 | entryStore t m k x=>rfl
 | range t x=>show kN (n_range C st.tm st.hp st.nx t x) _ st ih=_;exact kN_ok rfl rfl (offA_none fun _ q=>by cases q)
 | next it isS=>show kC (c_next C st.tm st.hp st.nx it isS) (idOf (ev C st.tm it)) false _ st ih=_;exact kC_ok rfl rfl (offA_none fun _ q=>by cases q)
 | entry x=>show kV (v_entry C st.tm st.hp x) _ st ih=_;exact kV_ok rfl rfl (offA_none fun _ q=>by cases q)
 | typeAssert x xt a ok=>show kV (v_typeAssert C st.tm st.hp x xt a ok) _ st ih=_;exact kV_ok rfl rfl (offA_none fun _ q=>by cases q)
 | extract x i=>show kV0 (v_extract C st.tm st.hp x i) _ st ih=_;exact kV0_ok rfl rfl (offA_none fun _ q=>by cases q)
 | go c=>rfl
 | defer c=>rfl
 | panic x=>rfl
 | send a x=>rfl
 | recv t x ok=>rfl
 | select cs bl=>rfl
noncomputable def opsStep (C:Ctx) (call:CallF) (nt:Nat) (rd:Bool) (ops:List Oper) (o:Oper) (_l:List Oper) (ih:St→Option St) (st:St):Option St :=
 Bool.rec (motive:=fun _=>Option St) none
  (Option.rec (motive:=fun _=>Option St) (stepTab o.op C call rd o st ih) (fun _=>match wantedA ops st.tm o with
   | none=>none
   | some false=>putK st.tm o.dst undefA fun tm=>ih ⟨tm,st.hp,st.nx,st.df⟩
   | some true=>stepTab o.op C call rd o st ih) o.guard) (dstB nt o.dst)
noncomputable def opsF (C:Ctx) (call:CallF) (nt:Nat) (rd:Bool) (ops:List Oper) (l:List Oper):St→Option St :=
 List.rec (motive:=fun _=>St→Option St) some (opsStep C call nt rd ops) l
noncomputable def opsRun (C:Ctx) (call:CallF) (nt:Nat) (rd:Bool) (ops:List Oper) (o:Oper) (l:List Oper) (st:St):Option St :=
 match opA C call st.tm st.hp st.nx o with
 | some r=>opsA C call nt rd ops l ⟨putT st.tm o.dst r.v,r.hp,r.nx,st.df⟩
 | none=>match offA C rd st o with
  | some st'=>opsA C call nt rd ops l st'
  | none=>none
theorem opsA_cons (C:Ctx) (call:CallF) (nt:Nat) (rd:Bool) (ops:List Oper) (o:Oper) (l:List Oper) (st:St):opsA C call nt rd ops (o::l) st=match dstB nt o.dst,wantedA ops st.tm o with
  | true,some false=>opsA C call nt rd ops l { st with tm:=putT st.tm o.dst undefA }
  | true,some true=>opsRun C call nt rd ops o l st
  | _,_=>none:=by
 rw [opsA]
 cases dstB nt o.dst with
 | false=>rfl
 | true=>cases wantedA ops st.tm o with
  | none=>rfl
  | some b=>cases b with
   | false=>rfl
   | true =>
    unfold opsRun
    cases opA C call st.tm st.hp st.nx o with
    | some r=>rfl
    | none=>cases offA C rd st o<;>rfl
theorem opsF_eq (C:Ctx) (call:CallF) (nt:Nat) (rd:Bool) (ops:List Oper):∀ (l:List Oper) (st:St),opsF C call nt rd ops l st=opsA C call nt rd ops l st:=by
 intro l
 induction l with
 | nil=>intro st;rfl
 | cons o l ih =>
  intro st
  have hih:opsF C call nt rd ops l=opsA C call nt rd ops l:=funext ih
  show opsStep C call nt rd ops o l (opsF C call nt rd ops l) st=_
  rw [hih,opsA_cons]
  unfold opsStep
  simp only [stepTab_ok,putK_eq]
  have key:stepG C call rd o st (opsA C call nt rd ops l)=opsRun C call nt rd ops o l st:=by
   unfold stepG opsRun
   cases opA C call st.tm st.hp st.nx o with
   | some r=>rfl
   | none=>cases offA C rd st o<;>rfl
  rw [key]
  cases hd:dstB nt o.dst with
  | false=>rfl
  | true =>
   cases hg:o.guard with
   | none =>
    have hw:wantedA ops st.tm o=some true:=by unfold wantedA;rw [hg]
    rw [hw]
   | some g =>
    cases hw:wantedA ops st.tm o with
    | none=>simp only [hw]
    | some b=>cases b<;>simp only [hw]
abbrev CodeM:=Ctx→CallF→Nat→Option Nat→Nat→(Code→St→Option (Ex×St))→St→Option (Ex×St)
noncomputable def c_skip:CodeM:=fun _ _ _ _ _ _ st=>some (.normal,st)
noncomputable def c_label (_l:Nat):CodeM:=fun _ _ _ _ _ _ st=>some (.normal,st)
noncomputable def c_exit (id:Nat):CodeM:=fun _ _ _ _ _ _ st=>some (.exit id,st)
noncomputable def c_goto (l:Nat):CodeM:=fun _ _ _ _ _ _ st=>some (.goto l,st)
noncomputable def c_ret:CodeM:=fun _ _ _ _ _ _ st=>some (.ret,st)
noncomputable def c_refuse (_w:String):CodeM:=fun _ _ _ _ _ _ _=>none
noncomputable def c_region (_id:Nat) (ops:Array Oper) (draw:Bool):CodeM:=fun C call nt rd _ _ st =>
 Bool.rec (motive:=fun _=>Option (Ex×St))
  (Option.rec (motive:=fun _=>Option (Ex×St)) none (fun st=>some (.normal,st)) (opsF C call nt rd.isSome ops.toList ops.toList st))
  (Option.rec (motive:=fun _=>Option (Ex×St)) (Option.rec (motive:=fun _=>Option (Ex×St)) none (fun st=>some (.normal,st)) (drawT C call nt ops.toList st)) (fun st=>some (.normal,st)) (drawA C call nt ops.toList st)) draw
noncomputable def exSeq (e:Ex) (a b:Option (Ex×St)):Option (Ex×St):=Ex.rec (motive:=fun _=>Option (Ex×St)) a (fun _=>b) (fun _=>b) b e
noncomputable def c_seq (a b:Code) (_ _:CodeM):CodeM:=fun _ _ _ _ _ ih st =>
 Option.rec (motive:=fun _=>Option (Ex×St)) none (fun r=>Prod.rec (motive:=fun _=>Option (Ex×St)) (fun e st=>exSeq e (ih b st) (some (e,st))) r) (ih a st)
noncomputable def c_cond (c:Operand) (a b:Code) (_ _:CodeM):CodeM:=fun C _ _ _ _ ih st =>
 match ev C st.tm c with
 | some (.bool t)=>ih (Bool.rec (motive:=fun _=>Code) b a t) st
 | _=>none
noncomputable def c_block (id:Nat) (c:Code) (_:CodeM):CodeM:=fun _ _ _ _ _ ih st =>
 Option.rec (motive:=fun _=>Option (Ex×St)) none (fun r=>Prod.rec (motive:=fun _=>Option (Ex×St)) (fun e st=>match e with
  | .exit i=>Bool.rec (motive:=fun _=>Option (Ex×St)) (some (.exit i,st)) (some (.normal,st)) (Nat.beq i id)
  | e=>some (e,st)) r) (ih c st)
noncomputable def loopF (f:St→Option (Ex×St)) (k:Nat):St→Option (Ex×St) :=
 Nat.rec (motive:=fun _=>St→Option (Ex×St)) (fun _=>none)
  (fun _ ih st=>Option.rec (motive:=fun _=>Option (Ex×St)) none (fun r=>Prod.rec (motive:=fun _=>Option (Ex×St)) (fun e st=>exSeq e (ih st) (some (e,st))) r) (f st)) k
noncomputable def c_loop (c:Code) (_:CodeM):CodeM:=fun C call nt rd n ih st=>Option.rec (motive:=fun _=>Option (Ex×St)) (mapA nt (opsF C call nt rd.isSome) ih c st) some (loopF (ih c) n st)
noncomputable def c_range (g:Operand) (ps:Array Tmp) (assign body:Code) (_ _:CodeM):CodeM:=fun C call nt rd _ _ st=>rangeA C call nt rd g ps.toList assign body st
noncomputable def c_scope (c:Code) (_:CodeM):CodeM:=fun _ _ _ rd n ih st =>
 match rd with
 | some _=>none
 | none=>match ih c st with
  | none=>none
  | some r=>match r.1 with
   | .goto l=>match findLabel c l with
    | some rest=>match jumpA (ih rest) l n r.2 with
     | some r2=>match r2.1 with|.goto _=>none|_=>some r2
     | none=>none
    | none=>none
   | _=>some r
noncomputable def codeTab (c:Code):CodeM :=
 Code.rec (motive:=fun _=>CodeM) c_skip c_region c_seq c_cond c_block c_loop c_range c_exit c_scope c_label c_goto c_ret c_refuse c
noncomputable def codeStep (C:Ctx) (call:CallF) (nt:Nat) (rd:Option Nat) (n:Nat) (ih:Code→St→Option (Ex×St)) (c:Code):St→Option (Ex×St):=codeTab c C call nt rd n ih
noncomputable def codeF (C:Ctx) (call:CallF) (nt:Nat) (rd:Option Nat) (n:Nat):Code→St→Option (Ex×St) :=
 Nat.rec (motive:=fun _=>Code→St→Option (Ex×St)) (fun _ _=>none) (codeStep C call nt rd) n
theorem loopF_eq (f:St→Option (Ex×St)):∀ (k:Nat) (st:St),loopF f k st=loopA f k st:=by
 intro k
 induction k with
 | zero=>intro st;rfl
 | succ k ih =>
  intro st
  show Option.rec (motive:=fun _=>Option (Ex×St)) none (fun r=>Prod.rec (motive:=fun _=>Option (Ex×St)) (fun e st=>exSeq e (loopF f k st) (some (e,st))) r) (f st)=_
  unfold loopA
  cases f st with
  | none=>rfl
  | some r =>
   obtain⟨e,st'⟩:=r
   cases e with
   | normal=>exact ih st'
   | _=>rfl
theorem codeF_eq (C:Ctx) (call:CallF) (nt:Nat) (rd:Option Nat):∀ n,codeF C call nt rd n=codeA C call nt rd n:=by
 intro n
 induction n with
 | zero=>rfl
 | succ n ih =>
  funext c st
  show codeTab c C call nt rd n (codeF C call nt rd n) st=_
  rw [ih,codeA_succ]
  cases c with
  | region id ops draw =>
   cases draw with
   | false =>
    show Option.rec (motive:=fun _=>Option (Ex×St)) none (fun st=>some (.normal,st)) (opsF C call nt rd.isSome ops.toList ops.toList st)=match opsA C call nt rd.isSome ops.toList ops.toList st with
     | some st'=>some (.normal,st')
     | none=>none
    rw [opsF_eq]
    cases opsA C call nt rd.isSome ops.toList ops.toList st<;>rfl
   | true =>
    show Option.rec (motive:=fun _=>Option (Ex×St)) (Option.rec (motive:=fun _=>Option (Ex×St)) none (fun st=>some (.normal,st)) (drawT C call nt ops.toList st)) (fun st=>some (.normal,st)) (drawA C call nt ops.toList st)=match drawA C call nt ops.toList st with
     | some st'=>some (.normal,st')
     | none=>match drawT C call nt ops.toList st with
      | some st'=>some (.normal,st')
      | none=>none
    cases drawA C call nt ops.toList st with
    | some _=>rfl
    | none=>cases drawT C call nt ops.toList st<;>rfl
  | seq a b =>
   show Option.rec (motive:=fun _=>Option (Ex×St)) none _ (codeA C call nt rd n a st)=match codeA C call nt rd n a st with|none=>_|some r=>_
   cases codeA C call nt rd n a st with
   | none=>rfl
   | some r=>obtain⟨e,st'⟩:=r;cases e<;>rfl
  | cond c a b =>
   show(match ev C st.tm c with|some (.bool t)=>_|_=>_)=match ev C st.tm c with|some (.bool t)=>_|_=>_
   generalize ev C st.tm c=q
   cases q with
   | none=>rfl
   | some v=>cases v<;>first|rfl|(rename_i t;cases t<;>rfl)
  | block id c =>
   show Option.rec (motive:=fun _=>Option (Ex×St)) none _ (codeA C call nt rd n c st)=match codeA C call nt rd n c st with|none=>_|some r=>_
   cases codeA C call nt rd n c st with
   | none=>rfl
   | some r =>
    obtain⟨e,st'⟩:=r
    cases e with
    | exit i =>
     show Bool.rec (motive:=fun _=>Option (Ex×St)) (some (.exit i,st')) (some (.normal,st')) (Nat.beq i id)=match Nat.beq i id with|true=>_|false=>_
     cases Nat.beq i id<;>rfl
    | _=>rfl
  | loop c =>
   show Option.rec (motive:=fun _=>Option (Ex×St)) (mapA nt (opsF C call nt rd.isSome) (codeA C call nt rd n) c st) some (loopF (codeA C call nt rd n c) n st)=match loopA (codeA C call nt rd n c) n st with
    | some r=>some r
    | none=>mapA nt (opsA C call nt rd.isSome) (codeA C call nt rd n) c st
   rw [loopF_eq,show opsF C call nt rd.isSome=opsA C call nt rd.isSome from funext fun ops=>funext fun l=>funext fun st=>opsF_eq C call nt rd.isSome ops l st]
   cases loopA (codeA C call nt rd n c) n st<;>rfl
  | _=>first|rfl|(cases rd<;>rfl)
noncomputable def argK {β:Type} (l:List AV):Nat→T AV→(T AV→β)→β :=
 List.rec (motive:=fun _=>Nat→T AV→(T AV→β)→β) (fun _ t k=>k t) (fun x _ ih i t k=>T.setK t i x fun t=>fNat (fun i=>ih i t k) (i+1)) l
theorem argK_eq {β:Type}:∀ (l:List AV) (i:Nat) (t:T AV) (k:T AV→β),argK l i t k=k (argA l i t)
 | [],_,_,_=>rfl
 | x::l,i,t,k=>(T.setK_eq t x i _).trans ((fNat_eq _ _).trans (argK_eq l (i+1) (t.set i x) k))
noncomputable def retK (vs:List AV) (hp:T Obj) (nx:Nat):Option R3:=match vs with
 | [v]=>some ⟨v,hp,nx⟩
 | l=>some ⟨.tup l,hp,nx⟩
noncomputable def leaveF (C:Ctx) (call:CallF) (n:Nat) (df:List DA) (hp:T Obj) (nx:Nat) (k:T Obj→Nat→Option R3):Option R3 :=
 match df with
 | []=>k hp nx
 | [.mark id]=>match hp.get id with
  | some .dfr=>T.touchK (hp.del id) id fun hp=>k hp nx
  | _=>none
 | df=>match leaveA C call n df hp nx with
  | none=>none
  | some q=>k q.1 q.2
noncomputable def bodyF (C:Ctx) (call:CallF) (n:Nat) (f:FuncId) (args:List AV) (hp:T Obj) (nx:Nat):Option R3 :=
 match C.ft.get f with
 | none=>none
 | some fn=>match fn.body with
  | none=>none
  | some body=>fNat (fun nt=>argK args 0 .leaf fun tm=>match codeF C call nt none n body ⟨tm,hp,nx,[]⟩ with
   | none=>none
   | some r=>Bool.rec (motive:=fun _=>Option R3) none (leaveF C call n r.2.df r.2.hp r.2.nx fun hp nx'=>match resA C ⟨r.2.tm,hp,nx',[]⟩ fn.results.toList with
      | none=>none
      | some vs=>Bool.rec (motive:=fun _=>Option R3) none (retK vs hp nx') (Nat.ble nx nx')) (exEnd r.1)) (maxA args.length fn.ntmps)
theorem leaveF_eq (C:Ctx) (call:CallF) (n:Nat) (df:List DA) (hp:T Obj) (nx:Nat) (k:T Obj→Nat→Option R3):leaveF C call n df hp nx k=match leaveA C call n df hp nx with|none=>none|some q=>k q.1 q.2:=by
 unfold leaveF
 split
 ·rfl
 ·next id =>
  simp only [leaveA]
  cases hg:hp.get id with
  | none=>rfl
  | some ob=>cases ob<;>first|rfl|exact T.touchK_eq (hp.del id) id fun hp=>k hp nx
 ·rfl
theorem retK_eq (vs:List AV) (hp:T Obj) (nx:Nat):retK vs hp nx=some ⟨retA vs,hp,nx⟩:=by
 unfold retK
 split
 ·rfl
 ·next h =>
  unfold retA
  split
  ·next v=>exact(h v rfl).elim
  ·rfl
theorem bodyF_eq (C:Ctx) (call:CallF) (n:Nat) (f:FuncId) (args:List AV) (hp:T Obj) (nx:Nat):bodyF C call n f args hp nx=bodyA C call n f args hp nx:=by
 unfold bodyF bodyA
 cases C.ft.get f with
 | none=>rfl
 | some fn =>
  simp only
  cases fn.body with
  | none=>rfl
  | some body =>
   simp only [fNat_eq,argK_eq,codeF_eq,leaveF_eq,retK_eq]
   cases codeA C call (maxA args.length fn.ntmps) none n body ⟨argA args 0 .leaf,hp,nx,[]⟩ with
   | none=>rfl
   | some r =>
    simp only
    cases exEnd r.1 with
    | false=>rfl
    | true =>
     simp only
     cases leaveA C call n r.2.df r.2.hp r.2.nx with
     | none=>rfl
     | some q =>
      simp only
      cases resA C ⟨r.2.tm,q.1,q.2,[]⟩ fn.results.toList with
      | none=>rfl
      | some vs=>simp only;cases Nat.ble nx q.2<;>rfl
def entB:List (AV×AV)→List (AV×AV)→Bool
 | [],[]=>true
 | a::l,b::m=>match AV.same a.1 b.1,AV.same a.2 b.2 with|true,true=>entB l m|_,_=>false
 | _,_=>false
theorem entB_eq:∀ {a b:List (AV×AV)},entB a b=true→a=b
 | [],[],_=>rfl
 | x::l,y::m,h=>by
  simp only [entB] at h
  split at h
  ·next h1 h2=>rw [entB_eq h,Prod.ext (AV.same_eq h1) (AV.same_eq h2)]
  ·simp at h
def Obj.eqB:Obj→Obj→Bool
 | .cells a n,.cells b m=>match Nat.beq n m with|true=>AV.sames a b|false=>false
 | .tc t a n,.tc u b m=>match Nat.beq n m,Nat.beq t u with|true,true=>AV.sames a b|_,_=>false
 | .ro a,.ro b=>AV.sames a b
 | .map a c,.map b d=>match Nat.beq c d with|true=>entB a b|false=>false
 | a,b=>Obj.same a b
theorem Obj.eqB_eq {a b:Obj} (h:Obj.eqB a b=true):a=b:=by
 unfold Obj.eqB at h
 split at h
 ·split at h
  ·next hk=>rw [Nat.eq_of_beq_eq_true hk,AV.sames_eq h]
  ·simp at h
 ·split at h
  ·next h1 h2=>rw [Nat.eq_of_beq_eq_true h1,Nat.eq_of_beq_eq_true h2,AV.sames_eq h]
  ·simp at h
 ·rw [AV.sames_eq h]
 ·split at h
  ·next hk=>rw [Nat.eq_of_beq_eq_true hk,entB_eq h]
  ·simp at h
 ·exact Obj.same_eq h
abbrev IdObs:=List (Nat×Obj)
noncomputable def layT:IdObs→T Obj→T Obj
 | [],t=>t
 | e::l,t=>layT l (t.set e.1 e.2)
noncomputable def dropT:IdObs→T Obj→T Obj
 | [],t=>t
 | e::l,t=>dropT l (t.del e.1)
noncomputable def hasAll (hp:T Obj):IdObs→Bool
 | []=>true
 | e::l=>match hp.get e.1 with
  | some y=>match Obj.eqB y e.2 with|true=>hasAll hp l|false=>false
  | none=>false
theorem layT_get:∀ (l:IdObs) (t:T Obj) (i:Nat),(layT l t).get i=match (layT l .leaf).get i with|some x=>some x|none=>t.get i
 | [],t,i=>rfl
 | e::l,t,i=>by
  unfold layT
  rw [layT_get l (t.set e.1 e.2),layT_get l (T.leaf.set e.1 e.2)]
  cases (layT l .leaf).get i with
  | some x=>rfl
  | none=>simp only [T.get_set];split<;>simp
theorem dropT_get:∀ (l:IdObs) (t:T Obj) (i:Nat),(dropT l t).get i=match (layT l .leaf).get i with|some _=>none|none=>t.get i
 | [],t,i=>rfl
 | e::l,t,i=>by
  unfold dropT layT
  rw [dropT_get l (t.del e.1),layT_get l (T.leaf.set e.1 e.2)]
  cases (layT l .leaf).get i with
  | some x=>rfl
  | none=>simp only [T.get_set,T.get_del];split<;>simp
theorem hasAll_mem {hp:T Obj}:∀ {l:IdObs},hasAll hp l=true→∀ e∈l,hp.get e.1=some e.2
 | [],_,e,he=>by cases he
 | x::l,h,e,he=>by
  unfold hasAll at h
  split at h
  ·next y hy =>
   split at h
   ·next hq =>
    rcases List.mem_cons.1 he with rfl|q
    ·rw [hy,Obj.eqB_eq hq]
    ·exact hasAll_mem h e q
   ·simp at h
  ·simp at h
theorem layT_mem:∀ {l:IdObs} {t:T Obj} {i:Nat} {x:Obj},(layT l t).get i=some x→(i,x)∈l∨t.get i=some x
 | [],t,i,x,h=>.inr h
 | e::l,t,i,x,h=>by
  unfold layT at h
  rcases layT_mem h with q|q
  ·exact .inl (List.mem_cons_of_mem _ q)
  ·rw [T.get_set] at q
   split at q
   ·next he=>subst he;cases q;exact .inl List.mem_cons_self
   ·exact .inr q
theorem hasAll_lay {hp:T Obj} {l:IdObs} (h:hasAll hp l=true) {i:Nat} {x:Obj} (hx:(layT l .leaf).get i=some x):hp.get i=some x:=by
 rcases layT_mem hx with q|q
 ·exact hasAll_mem h _ q
 ·cases q
structure Piece where
 f:FuncId
 args:List AV
 ro:IdObs
 mod:IdObs
 post:IdObs
 nx:Nat
 v:AV
 nx':Nat
noncomputable def Piece.runs (call:CallF) (p:Piece):Bool :=
 match call (.fn p.f) p.args (layT p.mod (layT p.ro .leaf)) p.nx with
 | none=>false
 | some r=>match AV.same r.v p.v,Nat.beq r.nx p.nx',hasAll r.hp p.ro with
  | true,true,true=>hasAll r.hp p.post
  | _,_,_=>false
def Piece.Ok (P:Program) (C:Ctx) (p:Piece):Prop :=
 Enters P p.f∧p.nx≤p.nx'∧CallOK P C p.f p.args (layT p.mod (layT p.ro .leaf)).get p.nx p.v (layT p.post (layT p.ro .leaf)).get p.nx'
noncomputable def pieceA (alt:List AV→T Obj→Nat→Option R3):List Piece→List AV→T Obj→Nat→Option R3
 | [],args,hp,nx=>alt args hp nx
 | p::l,args,hp,nx=>match Nat.beq p.nx nx,AV.sames args p.args,hasAll hp p.ro,hasAll hp p.mod with
  | true,true,true,true=>some ⟨p.v,layT p.post (dropT p.mod hp),p.nx'⟩
  | _,_,_,_=>pieceA alt l args hp nx
abbrev Pcs:=T (List Piece)
def PcsOk (P:Program) (C:Ctx) (pcs:Pcs):Prop:=∀ f l,pcs.get f=some l→∀ p∈l,p.f=f∧p.Ok P C
noncomputable def callX (C:Ctx) (pr:Prim) (pcs:Pcs) (n:Nat) (k:Nat):CallF :=
 Nat.rec (motive:=fun _=>CallF) (fun _ _ _ _=>none) (fun _ ih t args hp nx=>match t with
  | .fn f=>match pr.get f with
   | some g=>g args hp nx
   | none=>match pcs.get f with
    | some l=>pieceA (bodyF C ih n f) l args hp nx
    | none=>bodyF C ih n f args hp nx
  | .yld id=>yieldA C ih n id args hp nx) k
section
variable {P:Program} {C:Ctx}
theorem Piece.runs_ok {call:CallF} (hc:CallSound P C call) {p:Piece} (h:p.runs call=true):p.Ok P C:=by
 unfold Piece.runs at h
 split at h
 ·simp at h
 ·next r hr =>
  split at h
  ·next h1 h2 h3 =>
   obtain⟨g1,g2,g3⟩:=hc _ _ _ _ _ hr
   rw [AV.same_eq h1,Nat.eq_of_beq_eq_true h2] at g3
   rw [Nat.eq_of_beq_eq_true h2] at g1
   refine⟨g2,g1,g3.less (fun i x hx=>?_) (Nat.le_refl _)⟩
   rw [layT_get] at hx
   split at hx
   ·next y hy=>cases hx;exact hasAll_lay h hy
   ·exact hasAll_lay h3 hx
  ·simp at h
theorem CallOK.more {f:FuncId} {args:List AV} {H1 H2 H':Hp} {nx nx':Nat} {v:AV} (h:CallOK P C f args H1 nx v H' nx') (hs:∀ i x,H1 i=some x→H2 i=some x):CallOK P C f args H2 nx v H' nx':=by
 intro φ w args' hr hg ha
 refine(h φ w args' (hr.less hs (Nat.le_refl _)) (hg.less hs) ha).mono ?_
 rintro e w' ⟨v',φ',rfl,h1,h2,h3⟩
 have sub:∀ k,OwnB φ H1 k→OwnB φ H2 k:=fun k ⟨i,ob,l,a,b⟩=>⟨i,ob,l,hs _ _ a,b⟩
 have subL:∀ k,LiveB φ H1 k→LiveB φ H2 k:=fun k ⟨i,ob,l,a,b⟩=>⟨i,ob,l,hs _ _ a,b⟩
 exact⟨v',φ',rfl,h1,h2,⟨h3.grow,h3.born,h3.le,⟨h3.keeps.os,h3.keeps.tape,h3.keeps.output,h3.keeps.size,h3.keeps.shape,fun k hk hn=>h3.keeps.block k hk fun q=>hn (sub k q)⟩,
  fun k hk q=>sub k (h3.own k hk q),fun k hk q=>subL k (h3.live k hk q)⟩⟩
theorem Piece.use {p:Piece} (h:p.Ok P C) {hp:T Obj} (h1:hasAll hp p.ro=true) (h2:hasAll hp p.mod=true) :
  CallOK P C p.f p.args hp.get p.nx p.v (layT p.post (dropT p.mod hp)).get p.nx':=by
 obtain⟨_,_,h3⟩:=h
 let E:Hp:=fun i=>match (layT p.ro .leaf).get i,(layT p.mod .leaf).get i,(layT p.post .leaf).get i with
  | none,none,none=>hp.get i
  | _,_,_=>none
 have hE:∀ i x,E i=some x→(layT p.ro .leaf).get i=none∧(layT p.mod .leaf).get i=none∧(layT p.post .leaf).get i=none∧hp.get i=some x:=by
  intro i x hx
  simp only [E] at hx
  split at hx
  ·next a b c=>exact⟨a,b,c,hx⟩
  ·cases hx
 have hE':∀ i,(layT p.ro .leaf).get i=none→(layT p.mod .leaf).get i=none→(layT p.post .leaf).get i=none→E i=hp.get i:=by
  intro i a b c
  simp only [E,a,b,c]
 have h4:=h3.frame (E:=E) fun i x hx=>by
  obtain⟨a,b,_,_⟩:=hE i x hx
  rw [layT_get,b,a]
 refine(h4.more fun i x hx=>?_).less (fun i x hx=>?_) (Nat.le_refl _)
 ·cases he:E i with
  | some y=>rw [un_some he] at hx;cases hx;exact(hE i _ he).2.2.2
  | none =>
   rw [un_none he,layT_get] at hx
   split at hx
   ·next y hy=>cases hx;exact hasAll_lay h2 hy
   ·exact hasAll_lay h1 hx
 ·rw [layT_get,dropT_get] at hx
  cases hp':(layT p.post .leaf).get i with
  | some y =>
   rw [hp'] at hx
   cases he:E i with
   | some z=>have:=(hE i z he).2.2.1;rw [hp'] at this;cases this
   | none=>rw [un_none he,layT_get,hp'];exact hx
  | none =>
   rw [hp'] at hx
   simp only at hx
   cases hm:(layT p.mod .leaf).get i with
   | some y=>rw [hm] at hx;cases hx
   | none =>
    rw [hm] at hx
    simp only at hx
    cases hr:(layT p.ro .leaf).get i with
    | none=>exact un_some (by rw [hE' i hr hm hp',hx])
    | some y =>
     have hne:E i=none:=by
      cases he:E i with
      | none=>rfl
      | some z=>have:=(hE i z he).1;rw [hr] at this;cases this
     rw [un_none hne,layT_get,hp']
     simp only
     rw [hr,← hx,hasAll_lay h1 hr]
theorem pieceA_ok {alt:List AV→T Obj→Nat→Option R3} {f:FuncId} (halt:∀ args hp nx r,alt args hp nx=some r→nx≤r.nx∧CallOK P C f args hp.get nx r.v r.hp.get r.nx):∀ {l:List Piece},(∀ p∈l,p.f=f∧p.Ok P C)→∀ {args hp nx r},pieceA alt l args hp nx=some r→nx≤r.nx∧CallOK P C f args hp.get nx r.v r.hp.get r.nx
 | [],_,args,hp,nx,r,h=>halt args hp nx r h
 | p::l,hl,args,hp,nx,r,h=>by
  unfold pieceA at h
  split at h
  ·next h1 h2 h3 h4 =>
   simp only [Option.some.injEq] at h;subst h
   obtain⟨rfl,hok⟩:=hl p List.mem_cons_self
   rw [← Nat.eq_of_beq_eq_true h1,AV.sames_eq h2]
   exact⟨hok.2.1,Piece.use hok h3 h4⟩
  ·exact pieceA_ok halt (fun p hp=>hl p (List.mem_cons_of_mem _ hp)) h
theorem PrimOk.leaf:PrimOk P C .leaf:=fun f g h=>by cases h
theorem PrimOk.set {pr:Prim} (h:PrimOk P C pr) {f:FuncId} {g:List AV→T Obj→Nat→Option R3} (hf:Enters P f) (hg:∀ args hp nx r,g args hp nx=some r→nx≤r.nx∧CallOK P C f args hp.get nx r.v r.hp.get r.nx):PrimOk P C (T.set pr f g):=by
 intro f' g' h'
 rw [T.get_set] at h'
 split at h'
 ·next e=>subst e;cases h';exact⟨hf,hg⟩
 ·exact h f' g' h'
theorem callX_ok (hP:ProgOk P C) {pr:Prim} (hpr:PrimOk P C pr) {pcs:Pcs} (hq:PcsOk P C pcs) (n:Nat):∀ k,CallSound P C (callX C pr pcs n k):=by
 intro k
 induction k with
 | zero=>intro t args hp nx r h;simp [callX] at h
 | succ k ih =>
  intro t args hp nx r h
  have hbody:∀ {f args hp nx r},bodyF C (callX C pr pcs n k) n f args hp nx=some r→Enters P f∧nx≤r.nx∧CallOK P C f args hp.get nx r.v r.hp.get r.nx:=fun {f args hp nx r} h=>by
   rw [bodyF_eq] at h;exact bodyA_ok hP ih h
  cases t with
  | fn f =>
   change (match pr.get f with|some g=>g args hp nx|none=>match pcs.get f with|some l=>pieceA (bodyF C (callX C pr pcs n k) n f) l args hp nx|none=>bodyF C (callX C pr pcs n k) n f args hp nx)=some r at h
   split at h
   ·next g hg=>exact⟨((hpr f g hg).2 args hp nx r h).1,(hpr f g hg).1,((hpr f g hg).2 args hp nx r h).2⟩
   ·split at h
    ·next l hl =>
     have hl':=hq f l hl
     have he:Enters P f:=by
      clear hl
      induction l with
      | nil=>exact(hbody h).1
      | cons p l ihl =>
       obtain⟨h1,h2⟩:=hl' p List.mem_cons_self
       rw [← h1];exact h2.1
     obtain⟨h1,h2⟩:=pieceA_ok (fun args hp nx r h=>(hbody h).2) hl' h
     exact⟨h1,he,h2⟩
    ·obtain⟨h1,h2,h3⟩:=hbody h
     exact⟨h2,h1,h3⟩
  | yld id =>
   change yieldA C (callX C pr pcs n k) n id args hp nx=some r at h
   exact yieldA_ok hP ih h
theorem PcsOk.leaf:PcsOk P C .leaf:=fun f l h=>by cases h
theorem PcsOk.of {pcs:Pcs} (h:AllAt (fun f l=>∀ p∈l,p.f=f∧p.Ok P C) pcs (fun n=>n)):PcsOk P C pcs:=fun f l hl=>h.get f l hl
theorem allP_nil {f:Nat}:∀ p∈([]:List Piece),p.f=f∧p.Ok P C:=fun p h=>by cases h
theorem allP_cons {f:Nat} {p:Piece} {l:List Piece} (h1:p.f=f) (h2:p.Ok P C) (h:∀ q∈l,q.f=f∧q.Ok P C):∀ q∈p::l,q.f=f∧q.Ok P C:=fun q hq=>by
 rcases List.mem_cons.1 hq with rfl|hq
 ·exact⟨h1,h2⟩
 ·exact h q hq
end
end Ev
