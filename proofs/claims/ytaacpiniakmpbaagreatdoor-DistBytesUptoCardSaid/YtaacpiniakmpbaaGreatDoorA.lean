/- An abstract evaluator for the model's code: a heap of numbered objects, no tape, no capacities behind an append. Here: its words and its operations. Nothing is proved here but plain facts on tries and lists. -/
import GoSem.Step
import Derived.Calls
import Derived.ProofKit
import Derived.Deep.MidRow
import Derived.Laws.IdiomCopy
import Derived.Deep.Upon
import Derived.Laws.StructEq
import Derived.Laws.Tables
import Derived.WideLaws
import Derived.Laws.Concat
import Derived.MapKept
import Derived.Laws.Slices
namespace Ev
open Go
set_option linter.unusedSimpArgs false
set_option linter.unusedVariables false
inductive T (α:Type) where
 | leaf:T α
 | node (l:T α) (v:Option α) (r:T α):T α
theorem beq_mod {n:Nat} (h:¬ n%2=0):Nat.beq (n%2) 0=false:=by
 have e:n%2=1:=by omega
 rw [e];rfl
namespace T
variable {α:Type}
noncomputable def get (t:T α):Nat→Option α :=
 T.rec (motive:=fun _=>Nat→Option α) (fun _=>none)
  (fun _ v _ gl gr i=>Nat.rec (motive:=fun _=>Option α) v
   (fun n _=>Bool.rec (motive:=fun _=>Option α) (gr (Nat.div n 2)) (gl (Nat.div n 2)) (Nat.beq (Nat.mod n 2) 0)) i) t
noncomputable def setLeaf (x:α) (f:Nat):Nat→T α :=
 Nat.rec (motive:=fun _=>Nat→T α) (fun _=>leaf)
  (fun _ ih i=>Nat.rec (motive:=fun _=>T α) (node leaf (some x) leaf)
   (fun n _=>Bool.rec (motive:=fun _=>T α) (node leaf none (ih (Nat.div n 2))) (node (ih (Nat.div n 2)) none leaf) (Nat.beq (Nat.mod n 2) 0)) i) f
noncomputable def set (t:T α) (i:Nat) (x:α):T α :=
 T.rec (motive:=fun _=>Nat→T α) (fun i=>setLeaf x (Nat.succ i) i)
  (fun l v r sl sr i=>Nat.rec (motive:=fun _=>T α) (node l (some x) r)
   (fun n _=>Bool.rec (motive:=fun _=>T α) (node l v (sr (Nat.div n 2))) (node (sl (Nat.div n 2)) v r) (Nat.beq (Nat.mod n 2) 0)) i) t i
noncomputable def del (t:T α) (i:Nat):T α :=
 T.rec (motive:=fun _=>Nat→T α) (fun _=>leaf)
  (fun l v r sl sr i=>Nat.rec (motive:=fun _=>T α) (node l none r)
   (fun n _=>Bool.rec (motive:=fun _=>T α) (node l v (sr (Nat.div n 2))) (node (sl (Nat.div n 2)) v r) (Nat.beq (Nat.mod n 2) 0)) i) t i
@[simp] theorem get_leaf (i:Nat):(leaf:T α).get i=none:=rfl
theorem get_zero (l r:T α) (v:Option α):(node l v r).get 0=v:=rfl
theorem get_succ (l r:T α) (v:Option α) (n:Nat):(node l v r).get (n+1)=if n%2=0 then l.get (n / 2) else r.get (n / 2):=by
 show Bool.rec (motive:=fun _=>Option α) (r.get (n / 2)) (l.get (n / 2)) (Nat.beq (n%2) 0)=_
 split
 ·next h=>rw [h];rfl
 ·next h=>rw [beq_mod h]
theorem setLeaf_zero (x:α) (f:Nat):setLeaf x (f+1) 0=node leaf (some x) leaf:=rfl
theorem setLeaf_succ (x:α) (f n:Nat):setLeaf x (f+1) (n+1)=if n%2=0 then node (setLeaf x f (n / 2)) none leaf else node leaf none (setLeaf x f (n / 2)):=by
 show Bool.rec (motive:=fun _=>T α) (node leaf none (setLeaf x f (n / 2))) (node (setLeaf x f (n / 2)) none leaf) (Nat.beq (n%2) 0)=_
 split
 ·next h=>rw [h];rfl
 ·next h=>rw [beq_mod h]
theorem set_leaf (i:Nat) (x:α):(leaf:T α).set i x=setLeaf x (i+1) i:=rfl
theorem set_zero (l r:T α) (v:Option α) (x:α):(node l v r).set 0 x=node l (some x) r:=rfl
theorem set_succ (l r:T α) (v:Option α) (n:Nat) (x:α):(node l v r).set (n+1) x=if n%2=0 then node (l.set (n / 2) x) v r else node l v (r.set (n / 2) x):=by
 show Bool.rec (motive:=fun _=>T α) (node l v (r.set (n / 2) x)) (node (l.set (n / 2) x) v r) (Nat.beq (n%2) 0)=_
 split
 ·next h=>rw [h];rfl
 ·next h=>rw [beq_mod h]
theorem del_zero (l r:T α) (v:Option α):(node l v r).del 0=node l none r:=rfl
theorem del_succ (l r:T α) (v:Option α) (n:Nat):(node l v r).del (n+1)=if n%2=0 then node (l.del (n / 2)) v r else node l v (r.del (n / 2)):=by
 show Bool.rec (motive:=fun _=>T α) (node l v (r.del (n / 2))) (node (l.del (n / 2)) v r) (Nat.beq (n%2) 0)=_
 split
 ·next h=>rw [h];rfl
 ·next h=>rw [beq_mod h]
theorem get_setLeaf (x:α):∀ (f i j:Nat),i<f→(setLeaf x f i).get j=if i=j then some x else none:=by
 intro f
 induction f with
 | zero=>intro i j h;omega
 | succ f ih =>
  intro i j h
  cases i with
  | zero =>
   rw [setLeaf_zero]
   cases j with
   | zero=>simp [get_zero]
   | succ m=>rw [get_succ];simp
  | succ n =>
   rw [setLeaf_succ]
   by_cases hn:n%2=0
   ·rw [if_pos hn]
    cases j with
    | zero=>simp [get_zero]
    | succ m =>
     rw [get_succ]
     by_cases hm:m%2=0
     ·rw [if_pos hm,ih _ _ (by omega)]
      by_cases e:n / 2=m / 2
      ·rw [if_pos e,if_pos (by omega)]
      ·rw [if_neg e,if_neg (by omega)]
     ·rw [if_neg hm,if_neg (by omega)];rfl
   ·rw [if_neg hn]
    cases j with
    | zero=>simp [get_zero]
    | succ m =>
     rw [get_succ]
     by_cases hm:m%2=0
     ·rw [if_pos hm,if_neg (by omega)];rfl
     ·rw [if_neg hm,ih _ _ (by omega)]
      by_cases e:n / 2=m / 2
      ·rw [if_pos e,if_pos (by omega)]
      ·rw [if_neg e,if_neg (by omega)]
theorem get_set (t:T α):∀ (i j:Nat) (x:α),(t.set i x).get j=if i=j then some x else t.get j:=by
 induction t with
 | leaf=>intro i j x;rw [set_leaf,get_setLeaf _ _ _ _ (by omega)];rfl
 | node l v r ihl ihr =>
  intro i j x
  cases i with
  | zero =>
   rw [set_zero]
   cases j with
   | zero=>simp [get_zero]
   | succ m=>simp [get_succ]
  | succ n =>
   rw [set_succ]
   by_cases hn:n%2=0
   ·rw [if_pos hn]
    cases j with
    | zero=>simp [get_zero]
    | succ m =>
     rw [get_succ,get_succ]
     by_cases hm:m%2=0
     ·rw [if_pos hm,if_pos hm,ihl]
      by_cases e:n / 2=m / 2
      ·rw [if_pos e,if_pos (by omega)]
      ·rw [if_neg e,if_neg (by omega)]
     ·rw [if_neg hm,if_neg hm,if_neg (by omega)]
   ·rw [if_neg hn]
    cases j with
    | zero=>simp [get_zero]
    | succ m =>
     rw [get_succ,get_succ]
     by_cases hm:m%2=0
     ·rw [if_pos hm,if_pos hm,if_neg (by omega)]
     ·rw [if_neg hm,if_neg hm,ihr]
      by_cases e:n / 2=m / 2
      ·rw [if_pos e,if_pos (by omega)]
      ·rw [if_neg e,if_neg (by omega)]
@[simp] theorem get_set_same (t:T α) (i:Nat) (x:α):(t.set i x).get i=some x:=by rw [get_set,if_pos rfl]
theorem get_set_ne (t:T α) {i j:Nat} (x:α) (h:i≠j):(t.set i x).get j=t.get j:=by rw [get_set,if_neg h]
theorem get_del (t:T α):∀ (i j:Nat),(t.del i).get j=if i=j then none else t.get j:=by
 induction t with
 | leaf=>intro i j;show none=_;split<;>rfl
 | node l v r ihl ihr =>
  intro i j
  cases i with
  | zero =>
   rw [del_zero]
   cases j with
   | zero=>simp [get_zero]
   | succ m=>simp [get_succ]
  | succ n =>
   rw [del_succ]
   by_cases hn:n%2=0
   ·rw [if_pos hn]
    cases j with
    | zero=>simp [get_zero]
    | succ m =>
     rw [get_succ,get_succ]
     by_cases hm:m%2=0
     ·rw [if_pos hm,if_pos hm,ihl]
      by_cases e:n / 2=m / 2
      ·rw [if_pos e,if_pos (by omega)]
      ·rw [if_neg e,if_neg (by omega)]
     ·rw [if_neg hm,if_neg hm,if_neg (by omega)]
   ·rw [if_neg hn]
    cases j with
    | zero=>simp [get_zero]
    | succ m =>
     rw [get_succ,get_succ]
     by_cases hm:m%2=0
     ·rw [if_pos hm,if_pos hm,if_neg (by omega)]
     ·rw [if_neg hm,if_neg hm,ihr]
      by_cases e:n / 2=m / 2
      ·rw [if_pos e,if_pos (by omega)]
      ·rw [if_neg e,if_neg (by omega)]
end T
inductive AV where
 | bool (b:Bool)
 | int (k:IntKind) (n:Int)
 | str (s:List Nat)
 | ptr (id off:Nat)
 | it (id:Nat)
 | nptr
 | sl (id off len cap:Nat) (ex:Bool) (sz:Nat)
 | nsl
 | map (id:Nat)
 | nmap
 | fn (f:Fn) (first cap:List AV)
 | nfn
 | yld (id:Nat)
 | iface (t:Nat) (v:AV)
 | nif
 | agg (l:List AV)
 | tup (l:List AV)
 | val (v:Value)
deriving Inhabited
inductive Obj where
 | cells (c:List AV) (fz:Nat)
 | tc (t:Nat) (c:List AV) (fz:Nat)
 | ro (c:List AV)
 | map (es:List (AV×AV)) (clk:Nat)
 | sIter (s:List Nat) (pos:Nat)
 | mIter (m clk st:Nat)
 | loop (st:LoopState) (pend:Option Code) (tm:T AV) (nt:Nat) (ps:List Nat) (assign body:Code) (df:Nat)
 | dfr
 | any
deriving Inhabited
inductive TK where
 | bool|int (k:IntKind)|str|ptr (e:Nat)|sl (e:Nat)|arr (n e:Nat)|map (k e:Nat)|st (fs:List (Nat×Nat))|fn|ifc|other
structure TI where
 k:TK
 size:Nat
 bytes:Nat
 zero:List AV
 fl:Option (List TK)
structure R3 where
 v:AV
 hp:T Obj
 nx:Nat
def bytesOf (b:ByteArray):List Nat:=b.data.toList.map UInt8.toNat
def ofV1:Value→Option AV
 | .bool b=>some (.bool b)
 | .int k n=>some (.int k n)
 | .string s=>some (.str (bytesOf s))
 | .pointer none=>some .nptr
 | .slice none 0 0=>some .nsl
 | .map none=>some .nmap
 | .nilFunc=>some .nfn
 | .nilIface=>some .nif
 | _=>none
def ofVs:List Value→Option (List AV)
 | []=>some []
 | v::l=>match ofV1 v,ofVs l with
  | some a,some r=>some (a::r)
  | _,_=>none
def ofV:Value→Option AV
 | .agg cs=>match ofVs cs.toList with|some l=>some (.agg l)|none=>none
 | .tuple cs=>match ofVs cs.toList with|some l=>some (.tup l)|none=>none
 | v=>ofV1 v
def AV.cells:AV→List AV
 | .agg l=>l
 | v=>[v]
def AV.cellOk:AV→Bool
 | .agg _|.tup _=>false
 | _=>true
def TK.agg:TK→Bool
 | .st _|.arr _ _=>true
 | _=>false
structure Ctx where
 tt:T TI
 ft:T Func
 gs:Nat→Bool
 bt:Nat→Bool
 base:Nat→Option Go.Obj
noncomputable def ev (C:Ctx) (tm:T AV):Operand→Option AV
 | .tmp t=>tm.get t
 | .const v=>ofV v
 | .global g=>match C.gs g with|true=>some (.ptr g 0)|false=>none
 | .func f=>some (.fn (.func f) [] [])
noncomputable def evs (C:Ctx) (tm:T AV):List Operand→Option (List AV)
 | []=>some []
 | x::l=>match ev C tm x,evs C tm l with
  | some a,some r=>some (a::r)
  | _,_=>none
def takeN:Nat→List AV→Option (List AV)
 | 0,_=>some []
 | _+1,[]=>none
 | n+1,x::l=>match takeN n l with|some r=>some (x::r)|none=>none
def over:List AV→List AV→Option (List AV)
 | [],c=>some c
 | _::_,[]=>none
 | v::vs,_::c=>match over vs c with|some r=>some (v::r)|none=>none
def wrN:Nat→List AV→List AV→Option (List AV)
 | 0,c,vs=>over vs c
 | _+1,[],_=>none
 | n+1,x::c,vs=>match wrN n c vs with|some r=>some (x::r)|none=>none
def allOk:List AV→Bool
 | []=>true
 | v::l=>match v.cellOk with|true=>allOk l|false=>false
def reps (n:Nat) (z:List AV):List AV:=(List.replicate n z).flatten
def Obj.read:Obj→Option (List AV)
 | .cells c _=>some c
 | .tc _ c _=>some c
 | .ro c=>some c
 | _=>none
noncomputable def rdH (hp:T Obj) (id off n:Nat):Option (List AV) :=
 match hp.get id with
 | some o=>match o.read with
  | some c=>takeN n (c.drop off)
  | none=>none
 | none=>none
noncomputable def wrH (hp:T Obj) (id off:Nat) (vs:List AV):Option (T Obj) :=
 match hp.get id with
 | some (.cells c fz)=>match allOk vs,Nat.ble fz off with
  | true,true=>match wrN off c vs with
   | some c'=>some (hp.set id (.cells c' fz))
   | none=>none
  | _,_=>none
 | some (.tc t c fz)=>match allOk vs,Nat.ble fz off with
  | true,true=>match wrN off c vs with
   | some c'=>some (hp.set id (.tc t c' fz))
   | none=>none
  | _,_=>none
 | _=>none
def mkO (b:Bool) (t:Nat) (c:List AV) (fz:Nat):Obj:=match b with
 | true=>.tc t c fz
 | false=>.cells c fz
noncomputable def loadT (ti:TI) (hp:T Obj):AV→Option AV
 | .ptr id off=>match ti.k.agg with
  | true=>match rdH hp id off ti.size with|some l=>some (.agg l)|none=>none
  | false=>match rdH hp id off 1 with|some [v]=>some v|_=>none
 | _=>none
def partOf (ti:TI) (cs:List AV) (off:Nat):Option AV :=
 match ti.k.agg with
 | true=>match takeN ti.size (cs.drop off) with|some l=>some (.agg l)|none=>none
 | false=>match takeN 1 (cs.drop off) with|some [v]=>some v|_=>none
def bytesLt:List Nat→List Nat→Bool
 | _,[]=>false
 | [],_::_=>true
 | a::x,b::y=>match Nat.blt a b with
  | true=>true
  | false=>match Nat.beq a b with|true=>bytesLt x y|false=>false
def bytesEq:List Nat→List Nat→Bool
 | [],[]=>true
 | a::x,b::y=>match Nat.beq a b with|true=>bytesEq x y|false=>false
 | _,_=>false
def intEq:Int→Int→Bool
 | .ofNat a,.ofNat b=>Nat.beq a b
 | .negSucc a,.negSucc b=>Nat.beq a b
 | _,_=>false
def intLt:Int→Int→Bool
 | .ofNat a,.ofNat b=>Nat.blt a b
 | .negSucc a,.negSucc b=>Nat.blt b a
 | .negSucc _,.ofNat _=>true
 | .ofNat _,.negSucc _=>false
def kindEq:IntKind→IntKind→Bool
 | .i8,.i8|.i16,.i16|.i32,.i32|.i64,.i64|.u8,.u8|.u16,.u16|.u32,.u32|.u64,.u64=>true
 | _,_=>false
def wrapF (k:IntKind) (n:Int):Int :=
 match k with
 | .i64=>match n with
  | .ofNat a=>match Nat.blt a 9223372036854775808 with|true=>.ofNat a|false=>k.wrap n
  | .negSucc a=>match Nat.blt a 9223372036854775808 with|true=>.negSucc a|false=>k.wrap n
 | _=>k.wrap n
def eq1:AV→AV→Option Bool
 | .bool a,.bool b=>some (match a,b with|true,true|false,false=>true|_,_=>false)
 | .int k a,.int k' b=>match kindEq k k' with|true=>some (intEq a b)|false=>none
 | .str a,.str b=>some (bytesEq a b)
 | _,_=>none
def eqL:List AV→List AV→Option Bool
 | [],[]=>some true
 | a::x,b::y=>match eq1 a b,eqL x y with
  | some p,some q=>some (match p with|true=>q|false=>false)
  | _,_=>none
 | _,_=>none
def typedL:List TK→List AV→Bool
 | [],[]=>true
 | .bool::l,.bool _::r=>typedL l r
 | .int k::l,.int k' _::r=>match kindEq k k' with|true=>typedL l r|false=>false
 | .str::l,.str _::r=>typedL l r
 | _,_=>false
def eqT (ti:TI) (x y:AV):Option Bool :=
 match ti.k,x,y with
 | .bool,.bool _,.bool _=>eq1 x y
 | .int k,.int k1 _,.int k2 _=>match kindEq k k1,kindEq k k2 with|true,true=>eq1 x y|_,_=>none
 | .str,.str _,.str _=>eq1 x y
 | .ptr _,.nptr,.nptr=>some true
 | .ptr _,.nptr,.ptr _ _=>some false
 | .ptr _,.ptr _ _,.nptr=>some false
 | .sl _,.nsl,.nsl=>some true
 | .sl _,.nsl,.sl ..=>some false
 | .sl _,.sl ..,.nsl=>some false
 | .map _ _,.nmap,.nmap=>some true
 | .map _ _,.nmap,.map _=>some false
 | .map _ _,.map _,.nmap=>some false
 | .fn,.nfn,.nfn=>some true
 | .fn,.nfn,.fn ..=>some false
 | .fn,.nfn,.yld _=>some false
 | .fn,.yld _,.nfn=>some false
 | .fn,.fn ..,.nfn=>some false
 | .st _,.agg a,.agg b=>match ti.fl with
  | some ks=>match typedL ks a with|true=>eqL a b|false=>none
  | none=>none
 | _,_,_=>none
def eqK:AV→AV→Option Bool
 | .agg a,.agg b=>eqL a b
 | a,b=>eq1 a b
def keyOk (ti:TI) (k:AV):Bool :=
 match ti.k,k with
 | .bool,.bool _=>true
 | .int k',.int k _=>kindEq k' k
 | .str,.str _=>true
 | .st _,.agg l=>match ti.fl with|some ks=>typedL ks l|none=>false
 | _,_=>false
def findK (k:AV):List (AV×AV)→Option (Option AV)
 | []=>some none
 | e::l=>match eqK k e.1 with
  | some true=>some (some e.2)
  | some false=>findK k l
  | none=>none
def setK (k v:AV):List (AV×AV)→Option (List (AV×AV)×Bool)
 | []=>some ([(k,v)],true)
 | e::l=>match eqK k e.1 with
  | some true=>some ((e.1,v)::l,false)
  | some false=>match setK k v l with|some (r,b)=>some (e::r,b)|none=>none
  | none=>none
def delK (k:AV):List (AV×AV)→Option (List (AV×AV))
 | []=>some []
 | e::l=>match eqK k e.1 with
  | some true=>some l
  | some false=>match delK k l with|some r=>some (e::r)|none=>none
  | none=>none
def intOp (op:BinOp) (k:IntKind) (a b:Int):Option AV :=
 match op with
 | .add=>some (.int k (wrapF k (a+b)))
 | .sub=>some (.int k (wrapF k (a - b)))
 | .mul=>some (.int k (wrapF k (a*b)))
 | .quo=>match intEq b 0 with|true=>none|false=>some (.int k (wrapF k (a.tdiv b)))
 | .rem=>match intEq b 0 with|true=>none|false=>some (.int k (a.tmod b))
 | .and=>some (.int k (k.wrap (BitVec.ofInt k.bits a &&& BitVec.ofInt k.bits b).toNat))
 | .or=>some (.int k (k.wrap (BitVec.ofInt k.bits a ||| BitVec.ofInt k.bits b).toNat))
 | .xor=>some (.int k (k.wrap (BitVec.ofInt k.bits a ^^^ BitVec.ofInt k.bits b).toNat))
 | .andNot=>some (.int k (k.wrap (BitVec.ofInt k.bits a &&& ~~~ BitVec.ofInt k.bits b).toNat))
 | .eql=>some (.bool (intEq a b))
 | .neq=>some (.bool (!intEq a b))
 | .lss=>some (.bool (intLt a b))
 | .leq=>some (.bool (!intLt b a))
 | .gtr=>some (.bool (intLt b a))
 | .geq=>some (.bool (!intLt a b))
 | _=>none
def strOp (op:BinOp) (a b:List Nat):Option AV :=
 match op with
 | .add=>match Nat.ble (a.length+b.length) 9223372036854775807 with|true=>some (.str (a++b))|false=>none
 | .eql=>some (.bool (bytesEq a b))
 | .neq=>some (.bool (!bytesEq a b))
 | .lss=>some (.bool (bytesLt a b))
 | .leq=>some (.bool (bytesLt a b||bytesEq a b))
 | .gtr=>some (.bool (!(bytesLt a b||bytesEq a b)))
 | .geq=>some (.bool (!bytesLt a b))
 | _=>none
def binA (ti:TI) (op:BinOp) (x y:AV):Option AV :=
 match x,y with
 | .int k a,.int k' b =>
  match op with
  | .shl=>match b with|.ofNat n=>some (.int k (wrapF k (a*2 ^ (min n k.bits))))|.negSucc _=>none
  | .shr=>match b with|.ofNat n=>some (.int k (a.fdiv (2 ^ (min n k.bits))))|.negSucc _=>none
  | _=>match kindEq k k' with|true=>intOp op k a b|false=>none
 | .str a,.str b=>strOp op a b
 | x,y=>match op with
  | .eql=>match eqT ti x y with|some b=>some (.bool b)|none=>none
  | .neq=>match eqT ti x y with|some b=>some (.bool (!b))|none=>none
  | _=>none
def unA (op:UnOp) (x:AV):Option AV :=
 match op,x with
 | .not,.bool b=>some (.bool (!b))
 | .neg,.int k n=>some (.int k (wrapF k (0 - n)))
 | _,_=>none
def natOf:AV→Option Nat
 | .int _ (.ofNat n)=>some n
 | _=>none
def optNat (d:Nat):Option AV→Option Nat
 | none=>some d
 | some v=>natOf v
structure Bnd where
 l:Nat
 h:Nat
 m:Nat
 ex:Bool
def bounds (len cap:Nat) (ex:Bool) (lo hi mx:Option AV):Option Bnd :=
 match mx with
 | none=>match optNat len hi,optNat 0 lo with
  | some h,some l=>match Nat.ble l h,Nat.ble h cap with
   | true,true=>some ⟨l,h,cap,ex⟩
   | _,_=>none
  | _,_=>none
 | some mv=>match natOf mv,hi,optNat 0 lo with
  | some m,some hv,some l=>match natOf hv with
   | some h=>match Nat.ble l h,Nat.ble h m,Nat.ble m cap with
    | true,true,true=>some ⟨l,h,m,true⟩
    | _,_,_=>none
   | none=>none
  | _,_,_=>none
noncomputable def lenA (hp:T Obj) (ti:TI) (x:AV):Option Nat :=
 match ti.k,x with
 | .str,.str s=>some s.length
 | .arr n _,_=>some n
 | .sl _,.sl _ _ n _ _ _=>some n
 | .sl _,.nsl=>some 0
 | .map _ _,.nmap=>some 0
 | .map _ _,.map id=>match hp.get id with|some (.map es _)=>some es.length|_=>none
 | _,_=>none
def big:Nat:=1073741824
noncomputable def srcA (hp:T Obj) (sz:Nat):AV→Option (Nat×List AV)
 | .nsl=>some (0,[])
 | .sl id off n _ _ sz'=>match Nat.beq sz sz' with
  | true=>match n with
   | 0=>some (0,[])
   | _+1=>match rdH hp id off (n*sz) with|some l=>some (n,l)|none=>none
  | false=>none
 | .str s=>match Nat.beq sz 1 with
  | true=>some (s.length,s.map fun(b:Nat)=>AV.int .u8 (Int.ofNat b))
  | false=>none
 | _=>none
def srcKind:TK→AV→Bool
 | .sl _,.sl ..=>true
 | .sl _,.nsl=>true
 | .str,.str _=>true
 | _,_=>false
noncomputable def appendA (E:Nat) (bt:Bool) (e:TI) (hp:T Obj) (nx:Nat) (s:AV) (n:Nat) (new:List AV):Option R3 :=
 match s with
 | .nsl=>match n with
  | 0=>some ⟨.nsl,hp,nx⟩
  | n+1=>match Nat.ble (n+1) big,Nat.ble e.bytes 1024,allOk new with
   | true,true,true=>some ⟨.sl nx 0 (n+1) (n+1) false e.size,hp.set nx (mkO bt E new 0),nx+1⟩
   | _,_,_=>none
 | .sl id off len cap ex sz=>match n with
  | 0=>some ⟨.sl id off len cap ex sz,hp,nx⟩
  | n+1=>match Nat.beq sz e.size,Nat.ble (len+(n+1)) big,Nat.ble e.bytes 1024,allOk new with
   | true,true,true,true=>match Nat.ble (len+(n+1)) cap with
    | true=>match wrH hp id (off+len*sz) new with
     | some hp'=>some ⟨.sl id off (len+(n+1)) cap ex sz,hp',nx⟩
     | none=>none
    | false=>match ex with
     | true=>match (match len with|0=>some []|_+1=>rdH hp id off (len*sz)) with
      | some old=>some ⟨.sl nx 0 (len+(n+1)) (len+(n+1)) false sz,hp.set nx (mkO bt E (old++new) 0),nx+1⟩
      | none=>none
     | false=>match hp.get id with
      | some (.cells c fz)=>match Nat.beq c.length (off+len*sz),Nat.ble fz c.length with
       | true,true=>some ⟨.sl nx 0 (len+(n+1)) (len+(n+1)) false sz,(hp.del id).set nx (.cells (c.drop off++new) (fz - off)),nx+1⟩
       | _,_=>none
      | some (.tc t c fz)=>match off,Nat.beq t E,Nat.beq c.length (len*sz),Nat.ble fz c.length with
       | 0,true,true,true=>some ⟨.sl nx 0 (len+(n+1)) (len+(n+1)) false sz,(hp.del id).set nx (.tc t (c++new) fz),nx+1⟩
       | _,_,_,_=>none
      | _=>none
   | _,_,_,_=>none
 | _=>none
noncomputable def appendZ (E:Nat) (bt:Bool) (e:TI) (hp:T Obj) (nx:Nat) (s x:AV):Option R3 :=
 match s,x with
 | .nsl,.int .i64 (.ofNat (n+1))=>match Nat.ble (n+1) big,Nat.ble e.bytes 1024,Nat.ble 1 e.size with
  | true,true,true=>some ⟨.sl nx 0 (n+1) (n+1) false e.size,hp.set nx (.cells (reps (n+1) e.zero) 0),nx+1⟩
  | _,_,_=>none
 | .nsl,.int .i64 (.ofNat 0)=>some ⟨.nsl,hp,nx⟩
 | .sl id off len cap ex sz,.int .i64 (.ofNat (n+1))=>match Nat.ble (n+1) big,Nat.ble e.bytes 1024,Nat.ble 1 e.size,allOk (reps (n+1) e.zero) with
  | true,true,true,true=>appendA E bt e hp nx (.sl id off len cap ex sz) (n+1) (reps (n+1) e.zero)
  | _,_,_,_=>none
 | .sl id off len cap ex sz,.int .i64 (.ofNat 0)=>some ⟨.sl id off len cap ex sz,hp,nx⟩
 | _,_=>none
noncomputable def fillA (C:Ctx) (tm:T AV) (place:Nat→Option (Nat×Nat)) (cs:List AV):List (Nat×Operand)→Option (List AV)
 | []=>some cs
 | p::l=>match place p.1,ev C tm p.2 with
  | some (off,size),some v=>match Nat.beq v.cells.length size with
   | true=>match wrN off cs v.cells with
    | some cs'=>fillA C tm place cs' l
    | none=>none
   | false=>none
  | _,_=>none
def nth {α:Type}:List α→Nat→Option α
 | [],_=>none
 | x::_,0=>some x
 | _::l,n+1=>nth l n
noncomputable def placeS (C:Ctx) (fs:List (Nat×Nat)) (i:Nat):Option (Nat×Nat) :=
 match nth fs i with
 | some f=>match C.tt.get f.2 with|some ti=>some (f.1,ti.size)|none=>none
 | none=>none
noncomputable def holds (hp:T Obj) (id n:Nat):Bool :=
 match hp.get id with
 | some o=>match o.read with
  | some c=>Nat.ble n c.length
  | none=>false
 | none=>false
noncomputable def valA (C:Ctx) (tm:T AV) (hp:T Obj) (o:Oper):Option AV :=
 match o.op with
 | .move x=>ev C tm x
 | .assign x=>ev C tm x
 | .pick c a b=>match ev C tm c with
  | some (.bool true)=>ev C tm a
  | some (.bool false)=>ev C tm b
  | _=>none
 | .build t parts=>match C.tt.get t with
  | some ti=>match ti.k with
   | .st fs=>match fillA C tm (placeS C fs) ti.zero parts.toList with
    | some l=>some (.agg l)
    | none=>none
   | .arr _ e=>match C.tt.get e with
    | some te=>match fillA C tm (fun i=>some (i*te.size,te.size)) ti.zero parts.toList with
     | some l=>some (.agg l)
     | none=>none
    | none=>none
   | _=>none
  | none=>none
 | .load t a=>match C.tt.get t,ev C tm a with
  | some ti,some v=>loadT ti hp v
  | _,_=>none
 | .nilCheck x=>match ev C tm x with
  | some (.ptr a b)=>some (.ptr a b)
  | some (.fn (.func f) a b)=>some (.fn (.func f) a b)
  | some (.yld id)=>some (.yld id)
  | some (.sl a b c d e f)=>some (.sl a b c d e f)
  | some .nsl=>some .nsl
  | some (.map a)=>some (.map a)
  | some .nmap=>some .nmap
  | _=>none
 | .binOp op t x y _=>match C.tt.get t,ev C tm x,ev C tm y with
  | some ti,some .nif,some .nif=>match ti.k,y,op with
   | .ifc,.const _,.eql=>some (.bool true)
   | .ifc,.const _,.neq=>some (.bool false)
   | _,_,_=>none
  | some ti,some a,some b=>binA ti op a b
  | _,_,_=>none
 | .unOp op _ x=>match ev C tm x with
  | some a=>unA op a
  | none=>none
 | .convert s d x=>match C.tt.get s,C.tt.get d,ev C tm x with
  | some _,some td,some (.int k n)=>match td.k with
   | .int k'=>some (.int k' (match kindEq k k' with|true=>k'.wrap n|false=>k'.wrap n))
   | .str=>some (.str (bytesOf (Utf8.encode n)))
   | _=>none
  | some ts,some td,some (.str l)=>match ts.k,td.k with
   | .str,.str=>some (.str l)
   | _,_=>none
  | some ts,some td,some (.sl id off n _ _ sz)=>match ts.k,td.k with
   | .sl e,.str=>match C.tt.get e with
    | some te=>match te.k,Nat.beq sz 1,n with
     | .int .u8,true,0=>some (.str [])
     | .int .u8,true,n'+1=>match rdH hp id off (n'+1) with
      | some l=>match u8s l with|some r=>some (.str r)|none=>none
      | none=>none
     | _,_,_=>none
    | none=>none
   | _,_=>none
  | some ts,some td,some .nsl=>match ts.k,td.k with
   | .sl e,.str=>match C.tt.get e with
    | some te=>match te.k with|.int .u8=>some (.str [])|_=>none
    | none=>none
   | _,_=>none
  | _,_,_=>none
 | .makeInterface t x=>match C.tt.get t,ev C tm x with
  | some ti,some v=>match ti.k with|.ifc=>none|.other=>none|_=>some (.iface t v)
  | _,_=>none
 | .makeFunc f a b=>match evs C tm a.toList,evs C tm b.toList with
  | some a,some b=>some (.fn f a b)
  | _,_=>none
 | .slice t x lo hi mx=>match C.tt.get t,ev C tm x,evO C tm lo,evO C tm hi,evO C tm mx with
  | some ti,some v,some lo,some hi,some mx=>match ti.k,v with
   | .str,.str s=>match mx with
    | none=>match bounds s.length s.length true lo hi none with
     | some b=>some (.str ((s.drop b.l).take (b.h - b.l)))
     | none=>none
    | some _=>none
   | .sl e,.nsl=>match C.tt.get e,bounds 0 0 true lo hi mx with
    | some _,some _=>some .nsl
    | _,_=>none
   | .sl e,.sl id off len cap ex sz=>match C.tt.get e with
    | some te=>match Nat.beq te.size sz,bounds len cap ex lo hi mx with
     | true,some b=>some (.sl id (match b.ex,Nat.beq b.m b.l with|true,true=>off|_,_=>off+b.l*sz) (b.h - b.l) (b.m - b.l) b.ex sz)
     | _,_=>none
    | none=>none
   | .arr n e,.ptr id off=>match C.tt.get e with
    | some te=>match bounds n n true lo hi mx,holds hp id (off+n*te.size) with
     | some b,true=>some (.sl id (match Nat.beq b.m b.l with|true=>off|false=>off+b.l*te.size) (b.h - b.l) (b.m - b.l) true te.size)
     | _,_=>none
    | none=>none
   | _,_=>none
  | _,_,_,_,_=>none
 | .fieldAddr s x f=>match C.tt.get s,ev C tm x with
  | some ti,some (.ptr id off)=>match ti.k with
   | .st fs=>match nth fs f with
    | some p=>match C.tt.get p.2 with
     | some tf=>match Nat.beq tf.size 0 with
      | false=>some (.ptr id (off+p.1))
      | true=>none
     | none=>none
    | none=>none
   | _=>none
  | _,_=>none
 | .field t x f=>match C.tt.get t,ev C tm x with
  | some ti,some (.agg cs)=>match ti.k with
   | .st fs=>match nth fs f with
    | some p=>match C.tt.get p.2 with
     | some tf=>partOf tf cs p.1
     | none=>none
    | none=>none
   | _=>none
  | _,_=>none
 | .indexAddr t x i=>match C.tt.get t,ev C tm x,ev C tm i with
  | some ti,some v,some iv=>match natOf iv,ti.k,v with
   | some i,.arr n e,.ptr id off=>match C.tt.get e,Nat.blt i n with
    | some te,true=>some (.ptr id (off+i*te.size))
    | _,_=>none
   | some i,.sl e,.sl id off n _ _ sz=>match C.tt.get e,Nat.blt i n with
    | some te,true=>match Nat.beq te.size sz with
     | true=>some (.ptr id (off+i*sz))
     | false=>none
    | _,_=>none
   | _,_,_=>none
  | _,_,_=>none
 | .index t x i=>match C.tt.get t,ev C tm x,ev C tm i with
  | some ti,some v,some iv=>match natOf iv,ti.k,v with
   | some i,.arr n e,.agg cs=>match C.tt.get e,Nat.blt i n with
    | some te,true=>partOf te cs (i*te.size)
    | _,_=>none
   | some i,.str,.str s=>match nth s i with
    | some c=>some (.int .u8 (Int.ofNat c))
    | none=>none
   | _,_,_=>none
  | _,_,_=>none
 | .lookup t x i ok=>match C.tt.get t,ev C tm x,ev C tm i with
  | some ti,some v,some k=>match ti.k with
   | .map kt et=>match C.tt.get kt,C.tt.get et with
    | some tk,some te=>match keyOk tk k,(match v with|.nmap=>some []|.map id=>(match hp.get id with|some (.map es _)=>some es|_=>none)|_=>none) with
     | true,some es=>match findK k es with
      | some (some x)=>some (match ok with|true=>.tup [x,.bool true]|false=>x)
      | some none=>match (match te.k.agg with|true=>some (.agg te.zero)|false=>(match te.zero with|[z]=>some z|_=>none)) with
       | some z=>some (match ok with|true=>.tup [z,.bool false]|false=>z)
       | none=>none
      | none=>none
     | _,_=>none
    | _,_=>none
   | _=>none
  | _,_,_=>none
 | .extract x i=>match ev C tm x with
  | some (.tup l)=>nth l i
  | _=>none
 | .entry x=>match ev C tm x with
  | some (.it id)=>match hp.get id with
   | some (.mIter m clk 1)=>match hp.get m with
    | some (.map [e] clk')=>match Nat.beq clk clk',Nat.beq clk 1 with|true,true=>some (.tup [e.1,e.2])|_,_=>none
    | _=>none
   | _=>none
  | _=>none
 | .typeAssert x _ a ok=>match ev C tm x,C.tt.get a with
  | some (.iface t v),some ta=>match ta.k,Nat.beq t a with
   | .ifc,_=>none
   | .other,_=>none
   | _,true=>some (match ok with|true=>.tup [v,.bool true]|false=>v)
   | _,false=>none
  | _,_=>none
 | .call c=>match c.callee with
  | .builtin .len=>match c.args.toList,c.argTypes.toList with
   | [x],t::_=>match C.tt.get t,ev C tm x with
    | some ti,some v=>match lenA hp ti v with|some n=>some (.int .i64 (Int.ofNat n))|none=>none
    | _,_=>none
   | _,_=>none
  | .builtin .unsafeSliceData=>match evs C tm c.args.toList with
   | some [.nsl]=>some .nptr
   | some [.sl id off _ (_+1) _ _]=>some (.ptr id off)
   | _=>none
  | .builtin .cap=>match c.args.toList,c.argTypes.toList with
   | [x],t::_=>match C.tt.get t,ev C tm x with
    | some ti,some v=>match ti.k,v with
     | .sl _,.sl _ _ _ c true _=>some (.int .i64 (Int.ofNat c))
     | .sl _,.nsl=>some (.int .i64 0)
     | _,_=>none
    | _,_=>none
   | _,_=>none
  | .builtin .max=>match evs C tm c.args.toList with
   | some [.int k a,.int k' b]=>match kindEq k k' with|true=>some (.int k (match intLt a b with|true=>b|false=>a))|false=>none
   | _=>none
  | .builtin .min=>match evs C tm c.args.toList with
   | some [.int k a,.int k' b]=>match kindEq k k' with|true=>some (.int k (match intLt b a with|true=>b|false=>a))|false=>none
   | _=>none
  | _=>none
 | _=>none
where
 evO (C:Ctx) (tm:T AV):Option Operand→Option (Option AV)
  | none=>some none
  | some x=>match ev C tm x with|some v=>some (some v)|none=>none
 u8s:List AV→Option (List Nat)
  | []=>some []
  | .int .u8 (.ofNat n)::l=>match Nat.blt n 256,u8s l with|true,some r=>some (n::r)|_,_=>none
  | _=>none
noncomputable def newA (C:Ctx) (tm:T AV) (hp:T Obj) (nx:Nat) (o:Oper):Option (Obj×AV) :=
 match o.op with
 | .alloc t=>match C.tt.get t with
  | some ti=>some (mkO (C.bt t) t ti.zero 0,.ptr nx 0)
  | none=>none
 | .box _ x=>match ev C tm x with
  | some v=>some (.cells v.cells 0,.ptr nx 0)
  | none=>none
 | .buildSlice t len parts=>match C.tt.get t with
  | some ti=>match ti.k with
   | .sl e=>match C.tt.get e with
    | some te=>match Nat.ble (len*te.size) 16777216,Nat.beq te.size te.zero.length with
     | true,true=>match fillA C tm (fun i=>some (i*te.size,te.size)) (reps len te.zero) parts.toList with
      | some l=>some (.cells l 0,.sl nx 0 len len true te.size)
      | none=>none
     | _,_=>none
    | none=>none
   | _=>none
  | none=>none
 | .makeSlice t l c=>match C.tt.get t,ev C tm l,ev C tm c with
  | some ti,some lv,some cv=>match ti.k,natOf lv,natOf cv with
   | .sl e,some l,some c=>match C.tt.get e with
    | some te=>match Nat.ble l c,Nat.ble c big,Nat.ble te.bytes 1024,Nat.beq te.size te.zero.length with
     | true,true,true,true=>some (.cells (reps c te.zero) 0,.sl nx 0 l c true te.size)
     | _,_,_,_=>none
    | none=>none
   | _,_,_=>none
  | _,_,_=>none
 | .makeMap t none=>match C.tt.get t with
  | some _=>some (.map [] 0,.map nx)
  | none=>none
 | .makeMap t (some x)=>match C.tt.get t,ev C tm x with
  | some ti,some (.int _ _)=>match ti.k with
   | .map _ _=>some (.map [] 0,.map nx)
   | _=>none
  | _,_=>none
 | .range t x=>match C.tt.get t,ev C tm x with
  | some ti,some v=>match ti.k,v with
   | .str,.str s=>some (.sIter s 0,.it nx)
   | .map _ _,.map m=>match hp.get m with
    | some (.map _ clk)=>some (.mIter m clk 0,.it nx)
    | _=>none
   | _,_=>none
  | _,_=>none
 | _=>none
def undefA:AV:=.tup []
noncomputable def chgA (C:Ctx) (tm:T AV) (hp:T Obj) (nx:Nat) (o:Oper):Option R3 :=
 match o.op with
 | .store t a x=>match C.tt.get t,ev C tm a,ev C tm x with
  | some ti,some (.ptr id off),some v=>match Nat.beq v.cells.length ti.size with
   | true=>match wrH hp id off v.cells with
    | some hp'=>some ⟨undefA,hp',nx⟩
    | none=>none
   | false=>none
  | _,_,_=>none
 | .mapUpdate t m k x=>upd t m k x
 | .insert t m k x=>upd t m k x
 | .next it isS=>match ev C tm it with
  | some (.it id)=>match hp.get id,isS with
   | some (.sIter s pos),true=>match s.drop pos with
    | []=>some ⟨.tup [.bool false],hp,nx⟩
    | c::_=>match Nat.blt c 128 with
     | true=>some ⟨.tup [.bool true,.int .i64 (Int.ofNat pos),.int .i32 (Int.ofNat c)],hp.set id (.sIter s (pos+1)),nx⟩
     | false =>
      let r:=Utf8.decode ⟨(s.map UInt8.ofNat).toArray⟩ pos
      some ⟨.tup [.bool true,.int .i64 (Int.ofNat pos),.int .i32 r.1],hp.set id (.sIter s (pos+r.2)),nx⟩
   | some (.mIter m clk st),false=>match hp.get m with
    | some (.map es clk')=>match Nat.beq clk clk',Nat.beq clk 1,es,st with
     | true,_,[],_=>some ⟨.tup [.bool false],hp,nx⟩
     | true,true,[e],0=>some ⟨.tup [.bool true,e.1,e.2],hp.set id (.mIter m clk 1),nx⟩
     | true,true,[_],_+1=>some ⟨.tup [.bool false],hp,nx⟩
     | _,_,_,_=>none
    | _=>none
   | _,_=>none
  | _=>none
 | .convert s d x=>match C.tt.get s,C.tt.get d,ev C tm x with
  | some ts,some td,some (.str l)=>match ts.k,td.k with
   | .str,.sl e=>match C.tt.get e with
    | some te=>match te.k with
     | .int .u8=>some ⟨.sl nx 0 l.length l.length false 1,hp.set nx (.cells (l.map fun(b:Nat)=>AV.int .u8 (Int.ofNat b)) 0),nx+1⟩
     | _=>none
    | none=>none
   | _,_=>none
  | _,_,_=>none
 | .call c=>match c.callee with
  | .builtin .append=>match c.args.toList,c.argTypes.toList with
   | [s,x],[t,u]=>match C.tt.get t,C.tt.get u,ev C tm s,ev C tm x with
    | some ti,some tu,some sv,some xv=>match ti.k with
     | .sl e=>match C.tt.get e with
      | some te=>match tu.k with
       | .int .i64=>appendZ e (C.bt e) te hp nx sv xv
       | _=>match srcKind tu.k xv,srcA hp te.size xv with
        | true,some nl=>appendA e (C.bt e) te hp nx sv nl.1 nl.2
        | _,_=>none
      | none=>none
     | _=>none
    | _,_,_,_=>none
   | _,_=>none
  | .builtin .unsafeString=>match evs C tm c.args.toList,c.argTypes.toList with
   | some [.nptr,.int .i64 (.ofNat 0)],[_,_]=>some ⟨.str [],hp,nx⟩
   | some [.ptr id 0,.int .i64 (.ofNat (n+1))],[pt,_]=>match C.tt.get pt,hp.get id with
    | some ti,some (.tc t c fz)=>match ti.k,valA.u8s (c.take (n+1)),Nat.ble (n+1) c.length,Nat.ble (n+1) big with
     | .ptr e,some r,true,true=>match Nat.beq e t,C.tt.get e with
      | true,some te=>match te.size with
       | 1=>some ⟨.str r,hp.set id (.tc t c (Nat.max fz (n+1))),nx⟩
       | _=>none
      | _,_=>none
     | _,_,_,_=>none
    | _,_=>none
   | _,_=>none
  | .builtin .copy=>match c.args.toList,c.argTypes.toList with
   | [d,x],[t,_]=>match C.tt.get t,ev C tm d,ev C tm x with
    | some ti,some (.sl id off len _ _ sz),some (.sl id' off' len' _ _ sz')=>match ti.k with
     | .sl e=>match C.tt.get e with
      | some te=>match Nat.beq sz te.size,Nat.beq sz' te.size,Nat.min len' len with
       | true,true,0=>some ⟨.int .i64 0,hp,nx⟩
       | true,true,n+1=>match rdH hp id' off' ((n+1)*sz) with
        | some l=>match wrH hp id off l with
         | some hp'=>some ⟨.int .i64 (Int.ofNat (n+1)),hp',nx⟩
         | none=>none
        | none=>none
       | _,_,_=>none
      | none=>none
     | _=>none
    | some ti,some (.sl ..),some .nsl=>match ti.k with
     | .sl e=>match C.tt.get e with|some _=>some ⟨.int .i64 0,hp,nx⟩|none=>none
     | _=>none
    | some ti,some .nsl,some (.sl ..)=>match ti.k with
     | .sl e=>match C.tt.get e with|some _=>some ⟨.int .i64 0,hp,nx⟩|none=>none
     | _=>none
    | some ti,some .nsl,some .nsl=>match ti.k with
     | .sl e=>match C.tt.get e with|some _=>some ⟨.int .i64 0,hp,nx⟩|none=>none
     | _=>none
    | _,_,_=>none
   | _,_=>none
  | .builtin .delete=>match c.args.toList,c.argTypes.toList with
   | [m,k],t::_=>match C.tt.get t,ev C tm m,ev C tm k with
    | some ti,some (.map id),some kv=>match ti.k with
     | .map kt _=>match C.tt.get kt,hp.get id with
      | some tk,some (.map es clk)=>match keyOk tk kv with
       | true=>match delK kv es with
        | some es'=>some ⟨undefA,hp.set id (.map es' clk),nx⟩
        | none=>none
       | false=>none
      | _,_=>none
     | _=>none
    | _,_,_=>none
   | _,_=>none
  | .builtin .clear=>match c.args.toList,c.argTypes.toList with
   | [x],t::_=>match C.tt.get t,ev C tm x with
    | some ti,some v=>match ti.k,v with
     | .sl _,.nsl=>some ⟨undefA,hp,nx⟩
     | .sl _,.sl _ _ 0 _ _ _=>some ⟨undefA,hp,nx⟩
     | .sl e,.sl id off (n+1) _ _ sz=>match C.tt.get e with
      | some te=>match Nat.beq te.size sz,Nat.beq te.zero.length sz,wrH hp id off (reps (n+1) te.zero) with
       | true,true,some hp'=>some ⟨undefA,hp',nx⟩
       | _,_,_=>none
      | none=>none
     | _,_=>none
    | _,_=>none
   | _,_=>none
  | _=>none
 | _=>none
where
 upd (t:TypeId) (m k x:Operand):Option R3 :=
  match C.tt.get t,ev C tm m,ev C tm k,ev C tm x with
  | some ti,some (.map id),some kv,some xv=>match ti.k with
   | .map kt _=>match C.tt.get kt,hp.get id with
    | some tk,some (.map es clk)=>match keyOk tk kv with
     | true=>match setK kv xv es with
      | some (es',nw)=>some ⟨undefA,hp.set id (.map es' (match nw with|true=>clk+1|false=>clk)),nx⟩
      | none=>none
     | false=>none
    | _,_=>none
   | _=>none
  | _,_,_,_=>none
inductive Cls where
 | val|new|chg|call
def cls (o:Op):Cls :=
 match o with
 | .alloc _|.box ..|.buildSlice ..|.makeSlice ..|.makeMap ..|.range ..=>.new
 | .store ..|.mapUpdate ..|.insert ..|.next ..=>.chg
 | .call c=>match c.callee with
  | .builtin .append|.builtin .copy|.builtin .clear|.builtin .unsafeString|.builtin .delete=>.chg
  | .builtin _=>.val
  | _=>.call
 | _=>.val
inductive Loc where
 | cells (b o N:Nat)
 | obj (b:Nat)
def Loc.block:Loc→Nat
 | .cells b _ _=>b
 | .obj b=>b
abbrev Phi:=Nat→Option Loc
def Le (φ ψ:Phi):Prop:=∀ i l,φ i=some l→ψ i=some l
theorem Le.refl (φ:Phi):Le φ φ:=fun _ _ h=>h
theorem Le.trans {a b c:Phi} (h:Le a b) (k:Le b c):Le a c:=fun i l hi=>k i l (h i l hi)
mutual
inductive VRel (φ:Phi):AV→Value→Prop
 | bool (b:Bool):VRel φ (.bool b) (.bool b)
 | int (k:IntKind) (n:Int):VRel φ (.int k n) (.int k n)
 | str (s:ByteArray):VRel φ (.str (bytesOf s)) (.string s)
 | ptr {id off b o N:Nat} (h:φ id=some (.cells b o N)):VRel φ (.ptr id off) (.pointer (some ⟨b,o+off,none⟩))
 | it {id b:Nat} (h:φ id=some (.obj b)):VRel φ (.it id) (.pointer (some ⟨b,0,none⟩))
 | nptr:VRel φ .nptr (.pointer none)
 | sl {id off len cap sz b o N c:Nat} {ex:Bool} (h:φ id=some (.cells b o N)) (hc:cap≤c) (hx:ex=true→c=cap) (hl:len≤cap)
   (hN:o+off+c*sz≤N):VRel φ (.sl id off len cap ex sz) (.slice (some ⟨b,o+off,none⟩) len c)
 | sl0 {id off sz:Nat} {ex:Bool} {a:Addr} {b o N:Nat} (h:φ id=some (.cells b o N)):VRel φ (.sl id off 0 0 ex sz) (.slice (some a) 0 0)
 | nsl:VRel φ .nsl (.slice none 0 0)
 | map {id b:Nat} (h:φ id=some (.obj b)):VRel φ (.map id) (.map (some b))
 | nmap:VRel φ .nmap (.map none)
 | fn (f:Fn) {x y:List AV} {x' y':Array Value} (hx:VRels φ x x'.toList) (hy:VRels φ y y'.toList):VRel φ (.fn f x y) (.func f x' y')
 | nfn:VRel φ .nfn .nilFunc
 | yld {id b:Nat} (h:φ id=some (.obj b)):VRel φ (.yld id) (.func (.yield b) #[] #[])
 | iface (t:Nat) {v:AV} {v':Value} (h:VRel φ v v'):VRel φ (.iface t v) (.iface t v')
 | nif:VRel φ .nif .nilIface
 | agg {x:List AV} {x':Array Value} (h:VRels φ x x'.toList):VRel φ (.agg x) (.agg x')
 | tup {x:List AV} {x':Array Value} (h:VRels φ x x'.toList):VRel φ (.tup x) (.tuple x')
 | val (v:Value) (h:v.oneCell'=true):VRel φ (.val v) v
inductive VRels (φ:Phi):List AV→List Value→Prop
 | nil:VRels φ [] []
 | cons {a:AV} {v:Value} {l:List AV} {m:List Value} (h:VRel φ a v) (t:VRels φ l m):VRels φ (a::l) (v::m)
end
mutual
theorem VRel.mono {φ ψ:Phi} (hle:Le φ ψ):∀ {a:AV} {v:Value},VRel φ a v→VRel ψ a v
 | _,_,.bool b=>.bool b
 | _,_,.int k n=>.int k n
 | _,_,.str s=>.str s
 | _,_,.ptr h=>.ptr (hle _ _ h)
 | _,_,.it h=>.it (hle _ _ h)
 | _,_,.nptr=>.nptr
 | _,_,.sl h a b c d=>.sl (hle _ _ h) a b c d
 | _,_,.sl0 h=>.sl0 (hle _ _ h)
 | _,_,.nsl=>.nsl
 | _,_,.map h=>.map (hle _ _ h)
 | _,_,.nmap=>.nmap
 | _,_,.fn f hx hy=>.fn f (VRels.mono hle hx) (VRels.mono hle hy)
 | _,_,.nfn=>.nfn
 | _,_,.yld h=>.yld (hle _ _ h)
 | _,_,.iface t h=>.iface t (VRel.mono hle h)
 | _,_,.nif=>.nif
 | _,_,.agg h=>.agg (VRels.mono hle h)
 | _,_,.tup h=>.tup (VRels.mono hle h)
 | _,_,.val v h=>.val v h
theorem VRels.mono {φ ψ:Phi} (hle:Le φ ψ):∀ {a:List AV} {v:List Value},VRels φ a v→VRels ψ a v
 | _,_,.nil=>.nil
 | _,_,.cons h t=>.cons (VRel.mono hle h) (VRels.mono hle t)
end
section lists
variable {φ:Phi}
theorem VRels.length {a:List AV} {v:List Value} (h:VRels φ a v):a.length=v.length:=by
 induction a generalizing v with
 | nil=>cases h;rfl
 | cons x l ih=>cases h with|cons h t=>simp [ih t]
theorem VRels.get {a:List AV} {v:List Value} (h:VRels φ a v):∀ (j:Nat) (x:AV),a[j]?=some x→∃ x',v[j]?=some x'∧VRel φ x x':=by
 induction a generalizing v with
 | nil=>intro j x hx;simp at hx
 | cons y l ih =>
  cases h with
  | cons h t =>
   intro j x hx
   cases j with
   | zero=>simp at hx;subst hx;exact⟨_,rfl,h⟩
   | succ j=>simp at hx;simpa using ih t j x hx
theorem VRels.getV {a:List AV} {v:List Value} (h:VRels φ a v):∀ (j:Nat) (x':Value),v[j]?=some x'→∃ x,a[j]?=some x∧VRel φ x x':=by
 induction a generalizing v with
 | nil=>cases h;intro j x hx;simp at hx
 | cons y l ih =>
  cases h with
  | cons h t =>
   intro j x hx
   cases j with
   | zero=>simp at hx;subst hx;exact⟨_,rfl,h⟩
   | succ j=>simp at hx;simpa using ih t j x hx
theorem VRels.append {a b:List AV} {v w:List Value} (h:VRels φ a v) (k:VRels φ b w):VRels φ (a++b) (v++w):=by
 induction a generalizing v with
 | nil=>cases h;simpa using k
 | cons x l ih=>cases h with|cons h t=>exact .cons h (ih t)
theorem VRels.drop {a:List AV} {v:List Value} (h:VRels φ a v):∀ n,VRels φ (a.drop n) (v.drop n):=by
 induction a generalizing v with
 | nil=>cases h;intro n;simpa using VRels.nil
 | cons x l ih =>
  cases h with
  | cons h t =>
   intro n
   cases n with
   | zero=>exact .cons h t
   | succ n=>simpa using ih t n
theorem VRels.take {a:List AV} {v:List Value} (h:VRels φ a v):∀ n,VRels φ (a.take n) (v.take n):=by
 induction a generalizing v with
 | nil=>cases h;intro n;simpa using VRels.nil
 | cons x l ih =>
  cases h with
  | cons h t =>
   intro n
   cases n with
   | zero=>exact .nil
   | succ n=>simpa using VRels.cons h (ih t n)
theorem VRels.flatten_replicate {a:List AV} {v:List Value} (h:VRels φ a v):∀ n,VRels φ (reps n a) (List.replicate n v).flatten:=by
 intro n
 induction n with
 | zero=>exact .nil
 | succ n ih=>simp only [reps,List.replicate_succ,List.flatten_cons];exact h.append ih
end lists
theorem takeN_eq:∀ {n:Nat} {l r:List AV},takeN n l=some r→r=l.take n∧n≤l.length
 | 0,l,r,h=>by simp [takeN] at h;subst h;simp
 | n+1,[],r,h=>by simp [takeN] at h
 | n+1,x::l,r,h=>by
  simp only [takeN] at h
  split at h
  ·next q hq =>
   obtain⟨rfl,hl⟩:=takeN_eq hq
   simp at h;subst h
   exact⟨by simp,by simp;omega⟩
  ·simp at h
theorem takeN_of {n:Nat} {l:List AV} (h:n≤l.length):takeN n l=some (l.take n):=by
 induction n generalizing l with
 | zero=>rfl
 | succ n ih =>
  cases l with
  | nil=>simp at h
  | cons x l=>simp only [takeN,ih (l:=l) (by simpa using h)];rfl
theorem over_eq:∀ {vs c r:List AV},over vs c=some r→r=vs++c.drop vs.length∧vs.length≤c.length
 | [],c,r,h=>by simp [over] at h;subst h;simp
 | v::vs,[],r,h=>by simp [over] at h
 | v::vs,x::c,r,h=>by
  simp only [over] at h
  split at h
  ·next q hq =>
   obtain⟨rfl,hl⟩:=over_eq hq
   simp at h;subst h
   exact⟨by simp,by simp;omega⟩
  ·simp at h
theorem wrN_eq:∀ {n:Nat} {c vs r:List AV},wrN n c vs=some r→r=c.take n++(vs++c.drop (n+vs.length))∧n+vs.length≤c.length
 | 0,c,vs,r,h=>by
  have h':over vs c=some r:=by rw [wrN] at h;exact h
  obtain⟨rfl,hl⟩:=over_eq h'
  refine⟨by simp,by omega⟩
 | n+1,[],vs,r,h=>by simp [wrN] at h
 | n+1,x::c,vs,r,h=>by
  simp only [wrN] at h
  split at h
  ·next q hq =>
   obtain⟨rfl,hl⟩:=wrN_eq hq
   simp at h;subst h
   refine⟨?_,by simp;omega⟩
   rw [show n+1+vs.length=(n+vs.length)+1 by omega]
   simp
  ·simp at h
theorem wrN_len {n:Nat} {c vs r:List AV} (h:wrN n c vs=some r):r.length=c.length:=by
 obtain⟨rfl,hl⟩:=wrN_eq h
 simp;omega
theorem wrN_get {n:Nat} {c vs r:List AV} (h:wrN n c vs=some r) (j:Nat):r[j]?=if n≤j∧j<n+vs.length then vs[j - n]? else c[j]?:=by
 obtain⟨rfl,hl⟩:=wrN_eq h
 split
 ·next hj =>
  rw [List.getElem?_append_right (by simp;omega),List.getElem?_append_left (by simp;omega)]
  simp;congr 1;omega
 ·next hj =>
  by_cases h1:j<n
  ·rw [List.getElem?_append_left (by simp;omega),List.getElem?_take];simp [h1]
  ·rw [List.getElem?_append_right (by simp;omega),List.getElem?_append_right (by simp;omega)]
   simp;congr 1;omega
theorem nth_eq {α:Type}:∀ (l:List α) (n:Nat),nth l n=l[n]?
 | [],n=>by cases n<;>rfl
 | x::l,0=>rfl
 | x::l,n+1=>by simp [nth,nth_eq l n]
theorem allOk_mem:∀ {l:List AV},allOk l=true→∀ v∈l,v.cellOk=true
 | [],_,v,h=>by simp at h
 | x::l,h,v,hv=>by
  simp only [allOk] at h
  split at h
  ·next hx =>
   rcases List.mem_cons.1 hv with rfl|hv
   ·exact hx
   ·exact allOk_mem h v hv
  ·simp at h
theorem one_cells {v:Value} (h:v.oneCell'=true):v.cells=#[v]:=by
 cases v<;>first|rfl|simp [Value.oneCell'] at h
theorem VRel.cells {φ:Phi} {a:AV} {v:Value} (h:VRel φ a v):VRels φ a.cells v.cells.toList:=by
 have h0:=h
 cases h<;>first|assumption|exact .cons h0 .nil|(next hv=>rw [one_cells hv];exact .cons h0 .nil)
theorem VRel.oneCell {φ:Phi} {a:AV} {v:Value} (h:VRel φ a v) (ha:a.cellOk=true):v.oneCell'=true:=by
 cases h<;>first|rfl|assumption|simp [AV.cellOk] at ha
theorem VRel.of_one {φ:Phi} {a:AV} {v:Value} (h:VRel φ a v) (ha:a.cellOk=true):v.cells=#[v]:=by
 cases h<;>first|rfl|exact one_cells (by assumption)|simp [AV.cellOk] at ha
theorem ofV1_rel {φ:Phi} {v:Value} {a:AV} (h:ofV1 v=some a):VRel φ a v:=by
 unfold ofV1 at h
 split at h<;>first|(simp at h;subst h;constructor)|(simp at h)
theorem ofVs_rel {φ:Phi}:∀ {v:List Value} {a:List AV},ofVs v=some a→VRels φ a v
 | [],a,h=>by simp [ofVs] at h;subst h;exact .nil
 | v::l,a,h=>by
  simp only [ofVs] at h
  split at h
  ·next x r hx hr=>simp at h;subst h;exact .cons (ofV1_rel hx) (ofVs_rel hr)
  ·simp at h
theorem ofV_rel {φ:Phi} {v:Value} {a:AV} (h:ofV v=some a):VRel φ a v:=by
 unfold ofV at h
 split at h
 ·split at h
  ·next l hl=>simp at h;subst h;exact .agg (ofVs_rel hl)
  ·simp at h
 ·split at h
  ·next l hl=>simp at h;subst h;exact .tup (ofVs_rel hl)
  ·simp at h
 ·exact ofV1_rel h
def Obj.own:Obj→Bool
 | .ro _=>false
 | _=>true
inductive EFor (φ:Phi):List (AV×AV)→List MapEntry→Prop
 | nil:EFor φ [] []
 | cons {e:AV×AV} {m:MapEntry} {l:List (AV×AV)} {r:List MapEntry} (hk:VRel φ e.1 m.key) (hv:VRel φ e.2 m.val) (t:EFor φ l r):EFor φ (e::l) (m::r)
structure MRel (φ:Phi) (es:List (AV×AV)) (ens:List MapEntry) (clk:Nat):Prop where
 perm:∃ r,EFor φ es r∧r.Perm ens
 born:∀ m∈ens,m.born<clk
 nodup:(ens.map (·.born)).Nodup
 keys:es.Pairwise fun a b=>eqK a.1 b.1=some false
def CRel (φ:Phi) (w:World) (b o:Nat) (c:List AV):Prop :=
 ∀ j v,c[j]?=some v→∃ v',w.cell? ⟨b,o+j,none⟩=some v'∧VRel φ v v'
def TRel (φ:Phi) (tm:T AV) (tmps:Array Value):Prop:=∀ t v,tm.get t=some v→∃ v',tmps[t]?=some v'∧VRel φ v v'
theorem TRel.mono {φ ψ:Phi} (hle:Le φ ψ) {tm:T AV} {tmps:Array Value} (h:TRel φ tm tmps):TRel ψ tm tmps :=
 fun t v hv=>let ⟨v',h1,h2⟩:=h t v hv;⟨v',h1,h2.mono hle⟩
def FrOk (w:World) (b fz:Nat):Prop:=∀ cs ty lo hi,w.heap[b]?=some (.cells cs ty (lo,hi))→lo=hi∨hi≤fz
theorem FrOk.of_block {w w':World} {b fz:Nat} (h:FrOk w b fz) (hb:w'.heap[b]?=w.heap[b]?):FrOk w' b fz:=fun cs ty lo hi q=>h cs ty lo hi (by rw [← hb];exact q)
theorem FrOk.free {w:World} {b fz:Nat} (h:FrOk w b fz) (j:Nat) (hj:fz≤j):w.frozen? ⟨b,j,none⟩=false:=by
 unfold World.frozen?
 simp only
 split
 ·next cs ty lo hi hb =>
  have:=h cs ty lo hi hb
  simp;omega
 ·rfl
theorem FrOk.new {w:World} {b:Nat} {cs:Array Value} {ty:TypeId} (hb:w.heap[b]?=some (.cells cs ty)) (fz:Nat):FrOk w b fz:=fun cs' ty' lo hi q=>by
 rw [hb] at q;cases q;exact .inl rfl
inductive ORel (φ:Phi) (w:World):Obj→Loc→Prop
 | cells {c:List AV} {fz b o N:Nat} (hN:o+c.length≤N) (hc:CRel φ w b o c)
   (hf:∀ j,fz≤j→o+j<N→w.frozen? ⟨b,o+j,none⟩=false):ORel φ w (.cells c fz) (.cells b o N)
 | tc {t:Nat} {c:List AV} {fz b N:Nat} (hs:w.shape? b=some (t,N)) (hN:c.length≤N) (hc:CRel φ w b 0 c)
   (hf:FrOk w b fz):ORel φ w (.tc t c fz) (.cells b 0 N)
 | ro {c:List AV} {b o N:Nat} (hN:o+c.length≤N) (hc:CRel φ w b o c):ORel φ w (.ro c) (.cells b o N)
 | map {es:List (AV×AV)} {clk b:Nat} {ens:Array MapEntry} (hb:w.heap[b]?=some (.map ens clk)) (hm:MRel φ es ens.toList clk) :
   ORel φ w (.map es clk) (.obj b)
 | sIter {s:ByteArray} {pos b:Nat} (hb:w.heap[b]?=some (.stringIter s pos)):ORel φ w (.sIter (bytesOf s) pos) (.obj b)
 | mIter {m clk st b bm:Nat} (hm:φ m=some (.obj bm)) (hb:w.heap[b]?=some (.mapIter (some bm) clk (match st with|0=>#[]|_=>#[0]) clk)) :
   ORel φ w (.mIter m clk st) (.obj b)
 | loop {r:Loop} {tm:T AV} {df b bd:Nat} (hb:w.heap[b]?=some (.loop r)) (ht:TRel φ tm r.tmps) (hd:φ df=some (.obj bd)) (he:r.defers=bd) :
   ORel φ w (.loop r.state r.pending tm r.tmps.size r.params.toList r.assign r.body df) (.obj b)
 | dfr {b:Nat} (hb:w.heap[b]?=some (.deferred (some []))):ORel φ w .dfr (.obj b)
 | any (b:Nat):ORel φ w .any (.obj b)
theorem EFor.mono {φ ψ:Phi} (hle:Le φ ψ) {es:List (AV×AV)} {r:List MapEntry} (h:EFor φ es r):EFor ψ es r:=by
 induction h with
 | nil=>exact .nil
 | cons hk hv _ ih=>exact .cons (hk.mono hle) (hv.mono hle) ih
theorem MRel.mono {φ ψ:Phi} (hle:Le φ ψ) {es:List (AV×AV)} {ens:List MapEntry} {clk:Nat} (h:MRel φ es ens clk):MRel ψ es ens clk :=
 ⟨let ⟨r,h1,h2⟩:=h.perm;⟨r,h1.mono hle,h2⟩,h.born,h.nodup,h.keys⟩
theorem cell?_of_block' {w w':World} {b i:Nat} (h:w'.heap[b]?=w.heap[b]?):w'.cell? ⟨b,i,none⟩=w.cell? ⟨b,i,none⟩:=by
 simp only [World.cell?,h]
theorem frozen?_of_block' {w w':World} {b i:Nat} (h:w'.heap[b]?=w.heap[b]?):w'.frozen? ⟨b,i,none⟩=w.frozen? ⟨b,i,none⟩:=by
 simp only [World.frozen?,h]
theorem CRel.mono {φ ψ:Phi} (hle:Le φ ψ) {w w':World} {b o:Nat} {c:List AV} (h:CRel φ w b o c) (hb:w'.heap[b]?=w.heap[b]?):CRel ψ w' b o c :=
 fun j v hj=>let ⟨v',h1,h2⟩:=h j v hj;⟨v',by rw [cell?_of_block' hb];exact h1,h2.mono hle⟩
theorem ORel.mono {φ ψ:Phi} (hle:Le φ ψ) {w w':World} {ob:Obj} {l:Loc} (h:ORel φ w ob l) (hb:w'.heap[l.block]?=w.heap[l.block]?):ORel ψ w' ob l:=by
 cases h with
 | cells hN hc hf=>exact .cells hN (hc.mono hle hb) fun j h1 h2=>(frozen?_of_block' (w:=w) (w':=w') hb).trans (hf j h1 h2)
 | @tc t c fz b N hs hN hc hf =>
  have hb':w'.heap[b]?=w.heap[b]?:=hb
  exact .tc (by simp only [World.shape?,hb'];exact hs) hN (hc.mono hle hb) (hf.of_block hb')
 | ro hN hc=>exact .ro hN (hc.mono hle hb)
 | map h1 h2=>exact .map (hb.trans h1) (h2.mono hle)
 | sIter h1=>exact .sIter (hb.trans h1)
 | mIter h1 h2=>exact .mIter (hle _ _ h1) (hb.trans h2)
 | loop h1 h2 h3 h4=>exact .loop (hb.trans h1) (h2.mono hle) (hle _ _ h3) h4
 | dfr h1=>exact .dfr (hb.trans h1)
 | any b=>exact .any b
abbrev Hp:=Nat→Option Obj
structure Rel (φ:Phi) (H:Hp) (nx:Nat) (w:World):Prop where
 lt:∀ i l,φ i=some l→i<nx∧l.block<w.heap.size
 shp:∀ i b o N,φ i=some (.cells b o N)→∃ e,w.shape? b=some (e,N)
 dom:∀ i ob,H i=some ob→∃ l,φ i=some l∧ORel φ w ob l
 sep:∀ i j a b l m,H i=some a→H j=some b→i≠j→a.own=true→φ i=some l→φ j=some m→l.block≠m.block
def OwnB (φ:Phi) (H:Hp) (k:Nat):Prop:=∃ i ob l,H i=some ob∧ob.own=true∧φ i=some l∧l.block=k
structure Keeps (φ:Phi) (H:Hp) (w w':World):Prop where
 os:w'.os=w.os
 tape:w'.tape=w.tape
 output:w'.output=w.output
 size:w.heap.size≤w'.heap.size
 shape:∀ r,r<w.heap.size→w'.shape? r=w.shape? r
 block:∀ k,k<w.heap.size→¬ OwnB φ H k→w'.heap[k]?=w.heap[k]?
def LiveB (φ:Phi) (H:Hp) (k:Nat):Prop:=∃ i ob l,H i=some ob∧φ i=some l∧l.block=k
structure Step (φ:Phi) (H:Hp) (nx:Nat) (w:World) (φ':Phi) (H':Hp) (nx':Nat) (w':World):Prop where
 grow:nx≤nx'
 born:∀ i l,φ' i=some l→φ i=some l∨nx≤i
 le:Le φ φ'
 keeps:Keeps φ H w w'
 own:∀ k,k<w.heap.size→OwnB φ' H' k→OwnB φ H k
 live:∀ k,k<w.heap.size→LiveB φ' H' k→LiveB φ H k
theorem Keeps.refl (φ:Phi) (H:Hp) (w:World):Keeps φ H w w:=⟨rfl,rfl,rfl,Nat.le_refl _,fun _ _=>rfl,fun _ _ _=>rfl⟩
theorem Keeps.drew (φ:Phi) (H:Hp) (w:World) (n:Nat):Keeps φ H w { w with drawn:=n }:=⟨rfl,rfl,rfl,Nat.le_refl _,fun _ _=>rfl,fun _ _ _=>rfl⟩
theorem Step.refl (φ:Phi) (H:Hp) (nx:Nat) (w:World):Step φ H nx w φ H nx w:=⟨Nat.le_refl _,fun _ _ h=>.inl h,.refl _,.refl _ _ _,fun _ _ h=>h,fun _ _ h=>h⟩
theorem Step.trans' {φ φ₁ φ₂:Phi} {H H₁ H₂:Hp} {n n₁ m m₂:Nat} {w w₁ w₂:World} (h:Step φ H n w φ₁ H₁ n₁ w₁) (k:Step φ₁ H₁ m w₁ φ₂ H₂ m₂ w₂) (hm:n≤m):Step φ H n w φ₂ H₂ m₂ w₂ where
 grow:=Nat.le_trans hm k.grow
 born:=fun i l hi=>(k.born i l hi).elim (h.born i l) fun q=>.inr (Nat.le_trans hm q)
 le:=h.le.trans k.le
 keeps:=⟨k.keeps.os.trans h.keeps.os,k.keeps.tape.trans h.keeps.tape,k.keeps.output.trans h.keeps.output,Nat.le_trans h.keeps.size k.keeps.size,
  fun r hr=>(k.keeps.shape r (Nat.lt_of_lt_of_le hr h.keeps.size)).trans (h.keeps.shape r hr),
  fun r hr hn=>(k.keeps.block r (Nat.lt_of_lt_of_le hr h.keeps.size) fun ho=>hn (h.own r hr ho)).trans (h.keeps.block r hr hn)⟩
 own:=fun r hr ho=>h.own r hr (k.own r (Nat.lt_of_lt_of_le hr h.keeps.size) ho)
 live:=fun r hr ho=>h.live r hr (k.live r (Nat.lt_of_lt_of_le hr h.keeps.size) ho)
theorem Step.trans {φ φ₁ φ₂:Phi} {H H₁ H₂:Hp} {n n₁ n₂:Nat} {w w₁ w₂:World} (h:Step φ H n w φ₁ H₁ n₁ w₁) (k:Step φ₁ H₁ n₁ w₁ φ₂ H₂ n₂ w₂):Step φ H n w φ₂ H₂ n₂ w₂:=h.trans' k h.grow
theorem Rel.drew {φ:Phi} {H:Hp} {nx:Nat} {w:World} (h:Rel φ H nx w) (n:Nat):Rel φ H nx { w with drawn:=n } where
 lt:=h.lt
 shp:=h.shp
 dom:=fun i ob hi=>let ⟨l,h1,h2⟩:=h.dom i ob hi;⟨l,h1,h2.mono (.refl _) rfl⟩
 sep:=h.sep
theorem Step.drew (φ:Phi) (H:Hp) (nx:Nat) (w:World) (n:Nat):Step φ H nx w φ H nx { w with drawn:=n }:=⟨Nat.le_refl _,fun _ _ h=>.inl h,.refl _,.drew _ _ _ _,fun _ _ h=>h,fun _ _ h=>h⟩
theorem Rel.less {φ:Phi} {H H':Hp} {nx nx':Nat} {w:World} (h:Rel φ H nx w) (hs:∀ i ob,H' i=some ob→H i=some ob) (hn:nx≤nx'):Rel φ H' nx' w where
 lt:=fun i l hi=>⟨Nat.lt_of_lt_of_le (h.lt i l hi).1 hn,(h.lt i l hi).2⟩
 shp:=h.shp
 dom:=fun i ob hi=>h.dom i ob (hs i ob hi)
 sep:=fun i j a b l m hi hj=>h.sep i j a b l m (hs i a hi) (hs j b hj)
def upd {α:Type} (H:Nat→Option α) (i:Nat) (x:α):Nat→Option α:=fun j=>if i=j then some x else H j
theorem upd_same {α:Type} (H:Nat→Option α) (i:Nat) (x:α):upd H i x i=some x:=if_pos rfl
theorem upd_ne {α:Type} (H:Nat→Option α) {i j:Nat} (x:α) (h:i≠j):upd H i x j=H j:=if_neg h
theorem set_get {α:Type} (t:T α) (i:Nat) (x:α):(t.set i x).get=upd t.get i x:=funext fun j=>T.get_set t i j x
theorem Rel.fresh {φ:Phi} {H:Hp} {nx:Nat} {w:World} (h:Rel φ H nx w) {i:Nat} (hi:nx≤i):φ i=none∧H i=none:=by
 constructor
 ·cases hp:φ i with
  | none=>rfl
  | some l=>have:=(h.lt i l hp).1;omega
 ·cases hp:H i with
  | none=>rfl
  | some ob=>obtain⟨l,hl,_⟩:=h.dom i ob hp;have:=(h.lt i l hl).1;omega
theorem le_upd' {φ:Phi} {i:Nat} (hi:φ i=none) (l:Loc):Le φ (upd φ i l):=by
 intro j m hj
 by_cases e:i=j
 ·subst e;rw [hi] at hj;simp at hj
 ·rw [upd_ne _ _ e];exact hj
theorem Rel.le_upd {φ:Phi} {H:Hp} {nx:Nat} {w:World} (h:Rel φ H nx w) {i:Nat} (hi:nx≤i) (l:Loc):Le φ (upd φ i l):=le_upd' (h.fresh hi).1 l
theorem Rel.new' {φ:Phi} {H:Hp} {nx:Nat} {w:World} (h:Rel φ H nx w) {id nx' n0:Nat} (hid:φ id=none) (hn:nx≤nx') (hnx:id<nx') (h0:n0≤id) {ob:Obj} {l:Loc} {o':Go.Obj}
  (hl:l.block=w.heap.size) (hs:∀ b o N,l=.cells b o N→∃ e,(w.alloc o').shape? b=some (e,N))
  (ho:ORel (upd φ id l) (w.alloc o') ob l) :
  Rel (upd φ id l) (upd H id ob) nx' (w.alloc o')∧Step φ H n0 w (upd φ id l) (upd H id ob) nx' (w.alloc o'):=by
 have hle:=le_upd' hid l
 have hblk:∀ k,k<w.heap.size→(w.alloc o').heap[k]?=w.heap[k]?:=fun k hk=>RowKit.Below.heap_alloc w o' k hk
 have hshape:∀ r,r<w.heap.size→(w.alloc o').shape? r=w.shape? r:=fun r hr=>by simp only [World.shape?,hblk r hr]
 refine⟨⟨?_,?_,?_,?_⟩,⟨by omega,fun i m hi=>if e:id=i then .inr (by omega) else .inl (by rw [upd_ne _ _ e] at hi;exact hi),hle,⟨rfl,rfl,rfl,by simp,hshape,fun k hk _=>hblk k hk⟩,?_,?_⟩⟩
 ·intro i m hi
  by_cases e:id=i
  ·subst e;rw [upd_same] at hi;simp at hi;subst hi;exact⟨hnx,by rw [hl];simp⟩
  ·rw [upd_ne _ _ e] at hi;have:=h.lt i m hi;exact⟨Nat.lt_of_lt_of_le this.1 hn,by simp;omega⟩
 ·intro i b o N hi
  by_cases e:id=i
  ·subst e;rw [upd_same] at hi;simp at hi;exact hs b o N hi
  ·rw [upd_ne _ _ e] at hi
   obtain⟨t,ht⟩:=h.shp i b o N hi
   exact⟨t,by rw [hshape b (h.lt i _ hi).2];exact ht⟩
 ·intro i a hi
  by_cases e:id=i
  ·subst e;rw [upd_same] at hi;simp at hi;subst hi;exact⟨l,upd_same _ _ _,ho⟩
  ·rw [upd_ne _ _ e] at hi
   obtain⟨m,h1,h2⟩:=h.dom i a hi
   exact⟨m,hle _ _ h1,h2.mono hle (hblk _ (h.lt i m h1).2)⟩
 ·intro i j a b m n hi hj hne hown hm hn
  by_cases e:id=i
  ·subst e
   rw [upd_same] at hm;simp at hm;subst hm
   rw [upd_ne _ _ hne] at hn
   have:=(h.lt j n hn).2
   omega
  ·rw [upd_ne _ _ e] at hi hm
   by_cases e':id=j
   ·subst e'
    rw [upd_same] at hn;simp at hn;subst hn
    have:=(h.lt i m hm).2
    omega
   ·rw [upd_ne _ _ e'] at hj hn
    exact h.sep i j a b m n hi hj hne hown hm hn
 ·rintro k hk ⟨i,a,m,hi,hown,hm,hb⟩
  by_cases e:id=i
  ·subst e;rw [upd_same] at hm;simp at hm;subst hm;omega
  ·rw [upd_ne _ _ e] at hi hm;exact⟨i,a,m,hi,hown,hm,hb⟩
 ·rintro k hk ⟨i,a,m,hi,hm,hb⟩
  by_cases e:id=i
  ·subst e;rw [upd_same] at hm;simp at hm;subst hm;omega
  ·rw [upd_ne _ _ e] at hi hm;exact⟨i,a,m,hi,hm,hb⟩
theorem Rel.new {φ:Phi} {H:Hp} {nx:Nat} {w:World} (h:Rel φ H nx w) {id nx':Nat} (hid:nx≤id) (hnx:id<nx') {ob:Obj} {l:Loc} {o':Go.Obj}
  (hl:l.block=w.heap.size) (hs:∀ b o N,l=.cells b o N→∃ e,(w.alloc o').shape? b=some (e,N))
  (ho:ORel (upd φ id l) (w.alloc o') ob l) :
  Rel (upd φ id l) (upd H id ob) nx' (w.alloc o')∧Step φ H nx w (upd φ id l) (upd H id ob) nx' (w.alloc o'):=h.new' (h.fresh hid).1 (by omega) hnx hid hl hs ho
theorem Rel.turn {φ:Phi} {H:Hp} {nx:Nat} {w w':World} (h:Rel φ H nx w) {id:Nat} {ob ob':Obj} {l:Loc} (hi:H id=some ob) (hown:ob.own=true) (_hown':ob'.own=true)
  (hl:φ id=some l) (ho:ORel φ w' ob' l) (hos:w'.os=w.os) (htape:w'.tape=w.tape) (hout:w'.output=w.output) (hsize:w'.heap.size=w.heap.size)
  (hshape:∀ r,w'.shape? r=w.shape? r) (hblk:∀ k,k≠l.block→w'.heap[k]?=w.heap[k]?) :
  Rel φ (upd H id ob') nx w'∧Step φ H nx w φ (upd H id ob') nx w':=by
 refine⟨⟨?_,?_,?_,?_⟩,⟨Nat.le_refl _,fun _ _ h=>.inl h,.refl _,⟨hos,htape,hout,by omega,fun r _=>hshape r,fun k _ hn=>hblk k fun e=>hn ⟨id,ob,l,hi,hown,hl,e.symm⟩⟩,?_,?_⟩⟩
 ·intro i m hm;have:=h.lt i m hm;exact⟨this.1,by omega⟩
 ·intro i b o N hm;obtain⟨e,he⟩:=h.shp i b o N hm;exact⟨e,by rw [hshape];exact he⟩
 ·intro i a ha
  by_cases e:id=i
  ·subst e;rw [upd_same] at ha;simp at ha;subst ha;exact⟨l,hl,ho⟩
  ·rw [upd_ne _ _ e] at ha
   obtain⟨m,h1,h2⟩:=h.dom i a ha
   exact⟨m,h1,h2.mono (.refl _) (hblk _ fun e'=>h.sep id i ob a l m hi ha e hown hl h1 e'.symm)⟩
 ·intro i j a b m n ha hb hne ho hm hn
  by_cases e:id=i
  ·subst e
   rw [upd_ne _ _ hne] at hb
   exact h.sep id j ob b m n hi hb hne hown hm hn
  ·rw [upd_ne _ _ e] at ha
   by_cases e':id=j
   ·subst e';exact h.sep i id a ob m n ha hi hne ho hm hn
   ·rw [upd_ne _ _ e'] at hb;exact h.sep i j a b m n ha hb hne ho hm hn
 ·rintro k hk ⟨i,a,m,ha,ho,hm,hb⟩
  by_cases e:id=i
  ·subst e;rw [hl] at hm;simp at hm;subst hm;exact⟨id,ob,l,hi,hown,hl,hb⟩
  ·rw [upd_ne _ _ e] at ha;exact⟨i,a,m,ha,ho,hm,hb⟩
 ·rintro k hk ⟨i,a,m,ha,hm,hb⟩
  by_cases e:id=i
  ·subst e;rw [hl] at hm;simp at hm;subst hm;exact⟨id,ob,l,hi,hl,hb⟩
  ·rw [upd_ne _ _ e] at ha;exact⟨i,a,m,ha,hm,hb⟩
def TK.of:TypeDesc→TK
 | .bool=>.bool
 | .int k=>.int k
 | .string=>.str
 | .pointer e=>.ptr e
 | .slice e=>.sl e
 | .array n e=>.arr n e
 | .map k e=>.map k e
 | .struct fs=>.st (fs.toList.map fun f=>(f.offset,f.type))
 | .func _ _ _=>.fn
 | .interface _=>.ifc
 | _=>.other
structure FlatOk (P:Program) (t:Nat) (ks:List TK):Prop where
 guard:P.eqGuardType P.depth t=false
 stood:P.stoodInHeld t=false
 fields:∃ fs:Array Field,P.underlying t=some (.struct fs)∧fs.size=ks.length ∧
  ∀ (j:Nat) (f:Field),fs[j]?=some f→f.offset=j∧f.name≠ "_"∧∃ d,P.underlying f.type=some d∧some (TK.of d)=ks[j]?
structure TIok (P:Program) (t:Nat) (ti:TI):Prop where
 und:∃ d,P.underlying t=some d∧TK.of d=ti.k
 info:∃ i z,P.info? t=some i∧i.size=ti.size∧i.bytes=ti.bytes∧i.zero=some z ∧
  (if ti.k.agg=true then ∃ cs,z=.agg cs∧ofVs cs.toList=some ti.zero else ∃ a,ofV1 z=some a∧ti.zero=[a])
 zlen:ti.zero.length=ti.size
 flat:∀ ks,ti.fl=some ks→FlatOk P t ks
 flds:∀ fs,ti.k=.st fs→∀ p∈fs,(P.info? p.2).isSome=true
def CtxOk (P:Program) (C:Ctx):Prop:=∀ t ti,C.tt.get t=some ti→TIok P t ti
def GOk (C:Ctx) (φ:Phi):Prop:=∀ g,C.gs g=true→∃ N,φ g=some (.cells g 0 N)
theorem GOk.mono {C:Ctx} {φ ψ:Phi} (h:GOk C φ) (hle:Le φ ψ):GOk C ψ:=fun g hg=>let ⟨N,hN⟩:=h g hg;⟨N,hle _ _ hN⟩
structure BOk (C:Ctx) (φ:Phi) (H:Hp) (w:World):Prop where
 gl:GOk C φ
 base:∀ k o,C.base k=some o→w.heap[k]?=some o∧¬ OwnB φ H k
theorem BOk.step {C:Ctx} {φ φ':Phi} {H H':Hp} {nx nx':Nat} {w w':World} (h:BOk C φ H w) (s:Step φ H nx w φ' H' nx' w'):BOk C φ' H' w' :=
 ⟨h.gl.mono s.le,fun k o hk=>by
  obtain⟨a,b⟩:=h.base k o hk
  have hlt:k<w.heap.size:=(Array.getElem?_eq_some_iff.1 a).1
  exact⟨by rw [s.keeps.block k hlt b];exact a,fun q=>b (s.own k hlt q)⟩⟩
theorem BOk.less {C:Ctx} {φ:Phi} {H H':Hp} {w:World} (h:BOk C φ H w) (hs:∀ i x,H' i=some x→H i=some x):BOk C φ H' w :=
 ⟨h.gl,fun k o hk=>⟨(h.base k o hk).1,fun⟨i,x,l,h1,h2⟩=>(h.base k o hk).2 ⟨i,x,l,hs i x h1,h2⟩⟩⟩
section
variable {P:Program} {C:Ctx} {φ:Phi}
theorem of_ptr {d:TypeDesc} {e:Nat} (h:TK.of d=.ptr e):d=.pointer e:=by cases d<;>simp_all [TK.of]
theorem of_sl {d:TypeDesc} {e:Nat} (h:TK.of d=.sl e):d=.slice e:=by cases d<;>simp_all [TK.of]
theorem of_arr {d:TypeDesc} {n e:Nat} (h:TK.of d=.arr n e):d=.array n e:=by cases d<;>simp_all [TK.of]
theorem of_map {d:TypeDesc} {k e:Nat} (h:TK.of d=.map k e):d=.map k e:=by cases d<;>simp_all [TK.of]
theorem of_str {d:TypeDesc} (h:TK.of d=.str):d=.string:=by cases d<;>simp_all [TK.of]
theorem of_bool {d:TypeDesc} (h:TK.of d=.bool):d=.bool:=by cases d<;>simp_all [TK.of]
theorem of_int {d:TypeDesc} {k:IntKind} (h:TK.of d=.int k):d=.int k:=by cases d<;>simp_all [TK.of]
theorem of_st {d:TypeDesc} {fs:List (Nat×Nat)} (h:TK.of d=.st fs):∃ gs,d=.struct gs∧fs=gs.toList.map fun f=>(f.offset,f.type):=by
 cases d<;>simp_all [TK.of]
theorem of_fn {d:TypeDesc} (h:TK.of d=.fn):∃ a b c,d=.func a b c:=by cases d<;>simp_all [TK.of]
theorem TIok.und' {t:Nat} {ti:TI} (h:TIok P t ti) {k:TK} (hk:ti.k=k):∃ d,P.underlying t=some d∧TK.of d=k:=by
 obtain⟨d,h1,h2⟩:=h.und;exact⟨d,h1,h2.trans hk⟩
theorem TIok.sl {t e:Nat} {ti:TI} (h:TIok P t ti) (hk:ti.k=.sl e):P.underlying t=some (.slice e):=by
 obtain⟨d,h1,h2⟩:=h.und' hk;rw [h1,of_sl h2]
theorem TIok.arr {t n e:Nat} {ti:TI} (h:TIok P t ti) (hk:ti.k=.arr n e):P.underlying t=some (.array n e):=by
 obtain⟨d,h1,h2⟩:=h.und' hk;rw [h1,of_arr h2]
theorem TIok.map {t k e:Nat} {ti:TI} (h:TIok P t ti) (hk:ti.k=.map k e):P.underlying t=some (.map k e):=by
 obtain⟨d,h1,h2⟩:=h.und' hk;rw [h1,of_map h2]
theorem TIok.str {t:Nat} {ti:TI} (h:TIok P t ti) (hk:ti.k=.str):P.underlying t=some .string:=by
 obtain⟨d,h1,h2⟩:=h.und' hk;rw [h1,of_str h2]
theorem TIok.ptr {t e:Nat} {ti:TI} (h:TIok P t ti) (hk:ti.k=.ptr e):P.underlying t=some (.pointer e):=by
 obtain⟨d,h1,h2⟩:=h.und' hk;rw [h1,of_ptr h2]
theorem TIok.bool {t:Nat} {ti:TI} (h:TIok P t ti) (hk:ti.k=.bool):P.underlying t=some .bool:=by
 obtain⟨d,h1,h2⟩:=h.und' hk;rw [h1,of_bool h2]
theorem TIok.int {t:Nat} {k:IntKind} {ti:TI} (h:TIok P t ti) (hk:ti.k=.int k):P.underlying t=some (.int k):=by
 obtain⟨d,h1,h2⟩:=h.und' hk;rw [h1,of_int h2]
theorem TIok.st {t:Nat} {fs:List (Nat×Nat)} {ti:TI} (h:TIok P t ti) (hk:ti.k=.st fs) :
  ∃ gs,P.underlying t=some (.struct gs)∧fs=gs.toList.map fun f=>(f.offset,f.type):=by
 obtain⟨d,h1,h2⟩:=h.und' hk;obtain⟨gs,rfl,hg⟩:=of_st h2;exact⟨gs,h1,hg⟩
theorem TIok.sizeOf {t:Nat} {ti:TI} (h:TIok P t ti) (w:World):(Go.sizeOf t).run P w=.ok ti.size w:=by
 obtain⟨i,z,hi,hs,_⟩:=h.info
 rw [← hs];simp [Go.sizeOf,typeInfo,hi]
theorem TIok.info? {t:Nat} {ti:TI} (h:TIok P t ti):(P.info? t).map (·.size)=some ti.size:=by
 obtain⟨i,z,hi,hs,_⟩:=h.info
 simp [hi,hs]
theorem TIok.zeroValue {t:Nat} {ti:TI} (h:TIok P t ti) (w:World) (φ:Phi):∃ z,(Go.zeroValue t).run P w=.ok z w∧VRels φ ti.zero z.cells.toList ∧
  VRel φ (if ti.k.agg=true then .agg ti.zero else ti.zero.headD (.bool false)) z:=by
 obtain⟨i,z,hi,_,_,hz,hc⟩:=h.info
 refine⟨z,by simp [Go.zeroValue,typeInfo,hi,hz],?_⟩
 split at hc
 ·next ha =>
  obtain⟨cs,rfl,hcs⟩:=hc
  rw [if_pos ha]
  exact⟨ofVs_rel hcs,.agg (ofVs_rel hcs)⟩
 ·next ha =>
  obtain⟨a,hz',he⟩:=hc
  rw [if_neg ha,he]
  have hv:VRel φ a z:=ofV1_rel hz'
  have hk:a.cellOk=true:=by
   unfold ofV1 at hz'
   split at hz'<;>first|(simp at hz';subst hz';rfl)|(simp at hz')
  exact⟨by rw [hv.of_one hk];exact .cons hv .nil,hv⟩
theorem TIok.isAgg {t:Nat} {ti:TI} (h:TIok P t ti) (w:World):(Go.isAgg t).run P w=.ok ti.k.agg w:=by
 obtain⟨d,hd,hk⟩:=h.und
 simp only [Go.isAgg,Sem.run_bind,run_underlying hd,Result.andThen_ok]
 rw [← hk]
 cases d<;>rfl
theorem ev_rel {tm:T AV} {a:Act} (hg:GOk C φ) (ht:TRel φ tm a.tmps) {x:Operand} {v:AV} (h:ev C tm x=some v):VRel φ v (a.eval x):=by
 cases x with
 | tmp t =>
  obtain⟨v',h1,h2⟩:=ht t v h
  simpa [Act.eval,h1] using h2
 | const u=>exact ofV_rel h
 | global g =>
  simp only [ev] at h
  split at h
  ·next hgs =>
   simp at h;subst h
   obtain⟨N,hN⟩:=hg g hgs
   simpa [Act.eval] using VRel.ptr (off:=0) hN
  ·simp at h
 | func f=>simp [ev] at h;subst h;exact .fn _ .nil .nil
theorem evs_rel {tm:T AV} {a:Act} (hg:GOk C φ) (ht:TRel φ tm a.tmps):∀ {l:List Operand} {v:List AV},evs C tm l=some v→VRels φ v (l.map a.eval)
 | [],v,h=>by simp [evs] at h;subst h;exact .nil
 | x::l,v,h=>by
  simp only [evs] at h
  split at h
  ·next p q hp hq=>simp at h;subst h;exact .cons (ev_rel hg ht hp) (evs_rel hg ht hq)
  ·simp at h
theorem CRel.range {w:World} {b o:Nat} {c:List AV} (h:CRel φ w b o c):∃ cs,VRels φ c cs∧w.rangeAt b o cs∧cs.length=c.length:=by
 induction c generalizing o with
 | nil=>exact⟨[],.nil,fun j v hj=>by simp at hj,rfl⟩
 | cons x l ih =>
  obtain⟨v',h1,h2⟩:=h 0 x rfl
  obtain⟨cs,h3,h4,h5⟩:=ih (o:=o+1) fun j v hj=>by
   have:=h (j+1) v (by simpa using hj)
   rwa [show o+(j+1)=o+1+j by omega] at this
  refine⟨v'::cs,.cons h2 h3,?_,by simp [h5]⟩
  intro j v hj
  cases j with
  | zero=>simp at hj;subst hj;simpa using h1
  | succ j=>simp at hj;have:=h4 j v hj;rwa [show o+(j+1)=o+1+j by omega]
theorem CRel.drop {w:World} {b o:Nat} {c:List AV} (h:CRel φ w b o c) (n:Nat):CRel φ w b (o+n) (c.drop n):=by
 intro j v hj
 rw [List.getElem?_drop] at hj
 have:=h (n+j) v hj
 rwa [show o+(n+j)=o+n+j by omega] at this
theorem CRel.take {w:World} {b o:Nat} {c:List AV} (h:CRel φ w b o c) (n:Nat):CRel φ w b o (c.take n):=by
 intro j v hj
 rw [List.getElem?_take] at hj
 split at hj
 ·exact h j v hj
 ·simp at hj
theorem ORel.read {w:World} {ob:Obj} {l:Loc} {c:List AV} (h:ORel φ w ob l) (hc:ob.read=some c):∃ b o N,l=.cells b o N∧o+c.length≤N∧CRel φ w b o c:=by
 cases h<;>simp [Obj.read] at hc
 ·next c' fz b o N h1 h2 h3=>subst hc;exact⟨b,o,N,rfl,h1,h2⟩
 ·next c' fz b N hs h1 h2 h3=>subst hc;exact⟨b,0,N,rfl,by omega,h2⟩
 ·next c' b o N h1 h2=>subst hc;exact⟨b,o,N,rfl,h1,h2⟩
theorem rd_ok {hp:T Obj} {nx:Nat} {w:World} (hr:Rel φ hp.get nx w) {id off n:Nat} {l:List AV} (h:rdH hp id off n=some l) :
  ∃ b o N cs,φ id=some (.cells b o N)∧VRels φ l cs∧w.rangeAt b (o+off) cs∧cs.length=n∧l.length=n∧(0<n→o+off+n≤N):=by
 unfold rdH at h
 split at h
 ·next ob hob =>
  split at h
  ·next c hc =>
   obtain⟨rfl,hl⟩:=takeN_eq h
   obtain⟨lc,hφ,ho⟩:=hr.dom id ob hob
   obtain⟨b,o,N,rfl,hN,hcr⟩:=ho.read hc
   obtain⟨cs,h1,h2,h3⟩:=((hcr.drop off).take n).range
   simp at hl h3
   have Hn:(List.take n (List.drop off c)).length=n:=by simp;omega
   exact⟨b,o,N,cs,hφ,h1,h2,by omega,Hn,by omega⟩
  ·simp at h
 ·simp at h
theorem load_ok {hp:T Obj} {nx:Nat} {w:World} (hr:Rel φ hp.get nx w) {t:Nat} {ti:TI} (ht:TIok P t ti) {v r:AV} {v':Value} (hv:VRel φ v v')
  (h:loadT ti hp v=some r):∃ r',VRel φ r r'∧(Instr.loadAt t v').run P w=.ok r' w:=by
 unfold loadT at h
 split at h
 ·next id off =>
  split at h
  ·next ha =>
   split at h
   ·next l hl =>
    simp at h;subst h
    obtain⟨b,o,N,cs,hφ,h1,h2,h3,_⟩:=rd_ok hr hl
    obtain⟨d,hd,hk⟩:=ht.und
    cases hv with
    | ptr h' =>
     rw [hφ] at h';cases h'
     refine⟨.agg cs.toArray,.agg (by simpa using h1),run_loadAt_mid w b (o+off) t cs d h2 hd ?_ (by rw [ht.info?,h3])⟩
     rw [← hk] at ha
     cases d<;>first|rfl|simp [TK.of,TK.agg] at ha
   ·simp at h
  ·next ha =>
   split at h
   ·next u hl =>
    simp at h;subst h
    obtain⟨b,o,N,cs,hφ,h1,h2,h3,_⟩:=rd_ok hr hl
    cases hv with
    | ptr h' =>
     rw [hφ] at h';cases h'
     cases h1 with
     | @cons _ m _ _ hu _ =>
      refine⟨_,hu,?_⟩
      have hcell:=h2 0 m rfl
      simp at hcell
      simp [Instr.loadAt,Instr.sureAddr,loadVar,ht.isAgg,ha,hcell]
   ·simp at h
 ·simp at h
theorem shape_setCell (w:World) (a:Addr) (v:Value) (r:Nat):(w.setCell a v).shape? r=w.shape? r:=by
 simp only [World.shape?,World.setCell,Array.getElem?_modify]
 by_cases e:a.block=r
 ·subst e
  rw [if_pos rfl]
  cases hb:w.heap[a.block]? with
  | none=>rfl
  | some ob=>cases ob<;>simp<;>(try split)<;>simp
 ·rw [if_neg e]
theorem shape_setCells (b:Nat):∀ (vs:List Value) (o:Nat) (w:World) (r:Nat),(w.setCells b o vs).shape? r=w.shape? r
 | [],_,_,_=>rfl
 | v::l,o,w,r=>by rw [World.setCells,shape_setCells b l,shape_setCell]
theorem tape_setCells (b:Nat):∀ (vs:List Value) (o:Nat) (w:World),(w.setCells b o vs).tape=w.tape
 | [],_,_=>rfl
 | v::l,o,w=>by rw [World.setCells,tape_setCells b l];rfl
theorem size_setCells (b:Nat):∀ (vs:List Value) (o:Nat) (w:World),(w.setCells b o vs).heap.size=w.heap.size
 | [],_,_=>rfl
 | v::l,o,w=>by rw [World.setCells,size_setCells b l,World.size_setCell]
theorem heap_setCells (b:Nat):∀ (vs:List Value) (o:Nat) (w:World) (k:Nat),k≠b→(w.setCells b o vs).heap[k]?=w.heap[k]?
 | [],_,_,_,_=>rfl
 | v::l,o,w,k,h=>by rw [World.setCells,heap_setCells b l _ _ k h];exact RowKit.Below.heap_setCell w ⟨b,o,none⟩ v k h
theorem shape_cell {w:World} {b N i:Nat} {e:TypeId} (h:w.shape? b=some (e,N)) (hi:i<N):∃ u,w.cell? ⟨b,i,none⟩=some u:=by
 simp only [World.shape?] at h
 split at h
 ·next c el fz hb =>
  simp at h
  obtain⟨rfl,rfl⟩:=h
  exact⟨c[i],by simp [World.cell?,hb,hi]⟩
 ·simp at h
theorem FrOk.setCells {w:World} {b fz:Nat} (h:FrOk w b fz) (o:Nat) (vs:List Value):FrOk (w.setCells b o vs) b fz:=by
 induction vs generalizing w o with
 | nil=>exact h
 | cons v vs ih =>
  refine ih (w:=w.setCell ⟨b,o,none⟩ v) ?_ (o+1)
  intro cs ty lo hi q
  simp only [World.setCell,Array.getElem?_modify,if_true] at q
  cases hb:w.heap[b]? with
  | none=>rw [hb] at q;simp at q
  | some ob =>
   rw [hb] at q
   cases ob with
   | cells c ty' fr=>simp at q;obtain⟨_,_,rfl⟩:=q;exact h _ _ _ _ hb
   | _=>simp at q
theorem wr_ok {hp hp':T Obj} {nx:Nat} {w:World} (hr:Rel φ hp.get nx w) {id off:Nat} {vs:List AV} {vs':List Value} (hv:VRels φ vs vs')
  (h:wrH hp id off vs=some hp'):∃ b o N,φ id=some (.cells b o N)∧(∀ i,(storeCells ⟨b,o+off,none⟩ vs').run P w=.ok i (w.setCells b (o+off) vs')) ∧
   (∀ j,j<vs'.length→(w.cell? ⟨b,o+off+j,none⟩).isSome=true∧w.frozen? ⟨b,o+off+j,none⟩=false)∧(∀ v∈vs',v.oneCell'=true) ∧
   Rel φ hp'.get nx (w.setCells b (o+off) vs')∧Step φ hp.get nx w φ hp'.get nx (w.setCells b (o+off) vs'):=by
 unfold wrH at h
 split at h
 ·next c fz hob =>
  split at h
  ·next hok hfz =>
   split at h
   ·next c' hc' =>
    simp at h;subst h
    obtain⟨lc,hφ,ho⟩:=hr.dom id _ hob
    cases ho with
    | cells hN hc hf =>
     next b o N =>
     have Hn:=hv.length
     obtain⟨_,hle⟩:=wrN_eq hc'
     have hle':=Nat.le_of_ble_eq_true hfz
     obtain⟨e,hsh⟩:=hr.shp id b o N hφ
     have hcells:∀ j,j<vs'.length→(w.cell? ⟨b,o+off+j,none⟩).isSome=true:=fun j hj=>by
      obtain⟨u,hu⟩:=shape_cell hsh (i:=o+off+j) (by omega)
      simp [hu]
     have hfrz:∀ j,j<vs'.length→w.frozen? ⟨b,o+off+j,none⟩=false:=fun j hj=>by
      have:=hf (off+j) (by omega) (by omega)
      rwa [show o+(off+j)=o+off+j by omega] at this
     have hone:∀ v∈vs',v.oneCell'=true:=fun v hm=>by
      obtain⟨j,hj⟩:=List.mem_iff_getElem?.1 hm
      obtain⟨x,hx,hxv⟩:=hv.getV j v hj
      exact hxv.oneCell (allOk_mem hok x (List.mem_of_getElem? hx))
     have hrun:=run_storeCells_cells (P:=P) b (o+off) vs' 0 w (by simpa using hcells) (by simpa using hfrz) hone
     rw [set_get]
     refine⟨b,o,N,hφ,fun i=>by cases i;simpa using hrun,fun j hj=>⟨hcells j hj,hfrz j hj⟩,hone,?_⟩
     refine hr.turn hob rfl rfl hφ ?_ (World.os_setCells _ _ _ _) (tape_setCells _ _ _ _) (World.output_setCells _ _ _ _) (size_setCells _ _ _ _) (shape_setCells _ _ _ _) fun k hk=>heap_setCells _ _ _ _ k hk
     refine .cells (by rw [wrN_len hc'];exact hN) ?_ fun j h1 h2=>by rw [World.frozen?_setCells];exact hf j h1 h2
     intro j v hj
     rw [wrN_get hc'] at hj
     split at hj
     ·next hin =>
      obtain⟨x',hx',hxr⟩:=hv.get (j - off) v hj
      refine⟨x',?_,hxr⟩
      have hlt:j - off<vs'.length:=by omega
      have:=World.cell?_setCells_in b vs' (o+off) w hcells (j - off) hlt
      rw [show o+j=o+off+(j - off) by omega,this]
      rw [List.getElem?_eq_getElem hlt] at hx'
      exact hx'
     ·next hin =>
      obtain⟨x',hx',hxr⟩:=hc j v hj
      refine⟨x',?_,hxr⟩
      rw [World.cell?_setCells_out b vs' (o+off) w _ fun _ _=>by simp;omega]
      exact hx'
   ·simp at h
  ·simp at h
 ·next ty c fz hob =>
  split at h
  ·next hok hfz =>
   split at h
   ·next c' hc' =>
    simp at h;subst h
    obtain⟨lc,hφ,ho⟩:=hr.dom id _ hob
    cases ho with
    | tc hs hN hc hf =>
     next b N =>
     have hN:0+c.length≤N:=by omega
     have hf0:=hf
     have hf:∀ j,fz≤j→0+j<N→w.frozen? ⟨b,0+j,none⟩=false:=fun j h1 h2=>by rw [Nat.zero_add];exact hf0.free j h1
     have Hn:=hv.length
     obtain⟨_,hle⟩:=wrN_eq hc'
     have hle':=Nat.le_of_ble_eq_true hfz
     obtain⟨e,hsh⟩:=hr.shp id b 0 N hφ
     have hcells:∀ j,j<vs'.length→(w.cell? ⟨b,0+off+j,none⟩).isSome=true:=fun j hj=>by
      obtain⟨u,hu⟩:=shape_cell hsh (i:=0+off+j) (by omega)
      rw [hu];rfl
     have hfrz:∀ j,j<vs'.length→w.frozen? ⟨b,0+off+j,none⟩=false:=fun j hj=>by
      have:=hf (off+j) (by omega) (by omega)
      rwa [show 0+(off+j)=0+off+j by omega] at this
     have hone:∀ v∈vs',v.oneCell'=true:=fun v hm=>by
      obtain⟨j,hj⟩:=List.mem_iff_getElem?.1 hm
      obtain⟨x,hx,hxv⟩:=hv.getV j v hj
      exact hxv.oneCell (allOk_mem hok x (List.mem_of_getElem? hx))
     have hrun:=run_storeCells_cells (P:=P) b (0+off) vs' 0 w (by simpa using hcells) (by simpa using hfrz) hone
     rw [set_get]
     refine⟨b,0,N,hφ,fun i=>by cases i;simpa using hrun,fun j hj=>⟨hcells j hj,hfrz j hj⟩,hone,?_⟩
     refine hr.turn hob rfl rfl hφ ?_ (World.os_setCells _ _ _ _) (tape_setCells _ _ _ _) (World.output_setCells _ _ _ _) (size_setCells _ _ _ _) (shape_setCells _ _ _ _) fun k hk=>heap_setCells _ _ _ _ k hk
     refine .tc (by rw [shape_setCells];exact hs) (by rw [wrN_len hc'];omega) ?_ (hf0.setCells _ _)
     intro j v hj
     rw [wrN_get hc'] at hj
     split at hj
     ·next hin =>
      obtain⟨x',hx',hxr⟩:=hv.get (j - off) v hj
      refine⟨x',?_,hxr⟩
      have hlt:j - off<vs'.length:=by omega
      have:=World.cell?_setCells_in b vs' (0+off) w hcells (j - off) hlt
      rw [show 0+j=0+off+(j - off) by omega,this]
      rw [List.getElem?_eq_getElem hlt] at hx'
      exact hx'
     ·next hin =>
      obtain⟨x',hx',hxr⟩:=hc j v hj
      refine⟨x',?_,hxr⟩
      rw [World.cell?_setCells_out b vs' (0+off) w _ fun _ _=>by simp;omega]
      exact hx'
   ·simp at h
  ·simp at h
 ·simp at h
end
theorem kindEq_iff {a b:IntKind}:kindEq a b=true↔a=b:=by cases a<;>cases b<;>simp [kindEq]
theorem intEq_iff (a b:Int):intEq a b=(a==b):=by
 cases a with
 | ofNat a=>cases b with
  | ofNat b=>rw [Bool.eq_iff_iff];simp [intEq];omega
  | negSucc b=>rw [Bool.eq_iff_iff];simp [intEq]
 | negSucc a=>cases b with
  | ofNat b=>rw [Bool.eq_iff_iff];simp [intEq]
  | negSucc b=>rw [Bool.eq_iff_iff];simp [intEq]
theorem intLt_iff (a b:Int):intLt a b=decide (a<b):=by
 cases a with
 | ofNat a=>cases b with
  | ofNat b=>rw [Bool.eq_iff_iff];simp [intLt,Nat.blt_eq]
  | negSucc b=>rw [Bool.eq_iff_iff];simp [intLt];omega
 | negSucc a=>cases b with
  | ofNat b=>rw [Bool.eq_iff_iff];simp [intLt];omega
  | negSucc b=>rw [Bool.eq_iff_iff];simp [intLt,Nat.blt_eq];omega
theorem wrap_id {n:Int} (h0 : -9223372036854775808≤n) (h1:n<9223372036854775808):IntKind.i64.wrap n=n:=by
 rw [IntKind.wrap_i64];omega
theorem wrapF_eq (k:IntKind) (n:Int):wrapF k n=k.wrap n:=by
 unfold wrapF
 split
 ·split
  ·split
   ·next h=>rw [Nat.blt_eq] at h;simp only [Int.ofNat_eq_natCast];rw [wrap_id (by omega) (by omega)]
   ·rfl
  ·split
   ·next h=>rw [Nat.blt_eq] at h;rw [wrap_id (by omega) (by omega)]
   ·rfl
 ·rfl
theorem bytesEq_iff:∀ (a b:List Nat),bytesEq a b=true↔a=b
 | [],[]=>by simp [bytesEq]
 | [],b::y=>by simp [bytesEq]
 | a::x,[]=>by simp [bytesEq]
 | a::x,b::y=>by
  simp only [bytesEq]
  by_cases h:a=b
  ·subst h
   rw [show Nat.beq a a=true by simp]
   simp [bytesEq_iff x y]
  ·rw [show Nat.beq a b=false by cases e:Nat.beq a b with|false=>rfl|true=>exact absurd (Nat.eq_of_beq_eq_true e) h]
   simp [h]
theorem map_toNat_inj:∀ {a b:List UInt8},a.map UInt8.toNat=b.map UInt8.toNat→a=b
 | [],[],_=>rfl
 | [],b::y,h=>by simp at h
 | a::x,[],h=>by simp at h
 | a::x,b::y,h=>by
  simp at h
  rw [UInt8.toNat_inj.1 h.1,map_toNat_inj h.2]
theorem bytesOf_eq (b:ByteArray):bytesOf b=b.toList.map UInt8.toNat:=by unfold bytesOf;rw [ByteArray.toList_eq]
theorem bytesOf_inj {a b:ByteArray} (h:bytesOf a=bytesOf b):a=b:=by
 have:=map_toNat_inj h
 obtain⟨⟨x⟩⟩:=a
 obtain⟨⟨y⟩⟩:=b
 simp at this;subst this;rfl
theorem bytesOf_len (b:ByteArray):(bytesOf b).length=b.size:=by unfold bytesOf;rw [List.length_map];rfl
theorem bytesEq_of (a b:ByteArray):bytesEq (bytesOf a) (bytesOf b)=(a.toList==b.toList):=by
 rw [Bool.eq_iff_iff,bytesEq_iff]
 rw [beq_iff_eq]
 exact⟨fun h=>by rw [bytesOf_inj h],fun h=>by rw [bytesOf_eq,bytesOf_eq,h]⟩
theorem bytesLt_of:∀ (a b:List UInt8),bytesLt (a.map UInt8.toNat) (b.map UInt8.toNat)=Op.bytesLess a b
 | a,[]=>by cases a<;>rfl
 | [],b::y=>rfl
 | a::x,b::y=>by
  simp only [List.map_cons,bytesLt,Op.bytesLess]
  by_cases h:a.toNat<b.toNat
  ·rw [show Nat.blt a.toNat b.toNat=true by simpa [Nat.blt_eq] using h]
   have:a<b:=UInt8.lt_iff_toNat_lt.2 h
   simp [this]
  ·rw [show Nat.blt a.toNat b.toNat=false by rw [← Bool.not_eq_true,Nat.blt_eq];exact h]
   have h1:¬ a<b:=fun e=>h (UInt8.lt_iff_toNat_lt.1 e)
   by_cases e:a=b
   ·subst e
    rw [show Nat.beq a.toNat a.toNat=true by simp]
    simp [bytesLt_of x y]
   ·rw [show Nat.beq a.toNat b.toNat=false by
     cases q:Nat.beq a.toNat b.toNat with
     | false=>rfl
     | true=>exact absurd (UInt8.toNat_inj.1 (Nat.eq_of_beq_eq_true q)) e]
    simp [h1,e]
theorem bytesLt_ba (a b:ByteArray):bytesLt (bytesOf a) (bytesOf b)=Op.bytesLess a.toList b.toList:=by
 rw [bytesOf_eq,bytesOf_eq,bytesLt_of]
theorem bytesOf_append (a b:ByteArray):bytesOf (a++b)=bytesOf a++bytesOf b:=by
 simp [bytesOf]
section
variable {P:Program} {C:Ctx} {φ:Phi}
theorem intOp_ok {op:BinOp} {k:IntKind} {a b:Int} {r:AV} (h:intOp op k a b=some r) (t:TypeId) (w:World) (Ho:op≠.shl∧op≠.shr) :
  ∃ r',VRel φ r r'∧(binOp op t (.int k a) (.int k b)).run P w=.ok r' w:=by
 have key:∀ (x:Sem Value),binOp op t (.int k a) (.int k b)=x→(∃ r',VRel φ r r'∧x.run P w=.ok r' w)→∃ r',VRel φ r r'∧(binOp op t (.int k a) (.int k b)).run P w=.ok r' w:=fun x e h=>e▸h
 cases op<;>simp only [intOp] at h<;>try (simp at Ho;done)
 all_goals try (simp at h;done)
 all_goals first
  | (simp only [Option.some.injEq] at h;subst h
     refine⟨_,by constructor,?_⟩
     simp [binOp,Op.intArith,Op.intBits,Op.intCmp,wrapF_eq,intEq_iff,intLt_iff]
     done)
  | (simp only [Option.some.injEq] at h;subst h
     refine⟨.bool _,.bool _,?_⟩
     simp [binOp,Op.intCmp,intEq_iff,intLt_iff]
     try (rw [Bool.eq_iff_iff];simp)
     done)
  | (split at h
     ·simp at h
     ·next hb =>
      simp only [Option.some.injEq] at h;subst h
      have hb':b≠0:=by rw [intEq_iff] at hb;simpa using hb
      refine⟨_,.int _ _,?_⟩
      simp [binOp,Op.intDiv,hb',wrapF_eq])
theorem strOp_ok {op:BinOp} {a b:ByteArray} {r:AV} (h:strOp op (bytesOf a) (bytesOf b)=some r) (t:TypeId) (w:World) :
  ∃ r',VRel φ r r'∧(binOp op t (.string a) (.string b)).run P w=.ok r' w:=by
 cases op<;>simp only [strOp] at h<;>try (simp at h;done)
 all_goals first
  | (simp only [Option.some.injEq] at h;subst h
     refine⟨.bool _,.bool _,?_⟩
     simp [binOp,Op.stringOp,bytesEq_of,bytesLt_ba]
     done)
  | (split at h
     ·next hl =>
      simp only [Option.some.injEq] at h;subst h
      have hl':=Nat.le_of_ble_eq_true hl
      rw [bytesOf_len,bytesOf_len] at hl'
      refine⟨.string (a++b),by rw [← bytesOf_append];exact .str _,?_⟩
      simp only [binOp]
      exact run_string_add_sum _ a b hl'
     ·simp at h)
end
section
variable {P:Program} {C:Ctx} {φ:Phi}
theorem eq1_ok {a b:AV} {r:Bool} (h:eq1 a b=some r) {a' b':Value} (ha:VRel φ a a') (hb:VRel φ b b') {k:TK} {d:TypeDesc} {t:TypeId}
  (hd:P.underlying t=some d) (hk:TK.of d=k) (hty:typedL [k] [a]=true) (n:Nat) (w:World) :
  (Op.equalIn (n+1) t a' b').run P w=.ok r w:=by
 subst hk
 cases a<;>cases b<;>simp only [eq1] at h<;>try (simp at h;done)
 ·cases ha;cases hb
  cases d<;>simp [TK.of,typedL] at hty
  rw [run_equalIn_bool' _ _ _ _ _ hd]
  simp only [Option.some.injEq] at h
  rw [← h];congr 1;next x y=>cases x<;>cases y<;>rfl
 ·cases ha;cases hb
  cases d<;>simp [TK.of,typedL] at hty
  split at h
  ·next hkk =>
   have:=kindEq_iff.1 hkk
   subst this
   rw [run_equalIn_int _ _ _ _ _ _ _ hd]
   simp only [Option.some.injEq] at h
   rw [← h,intEq_iff]
  ·simp at h
 ·cases ha;cases hb
  cases d<;>simp [TK.of,typedL] at hty
  rw [run_equalIn_string _ _ _ _ _ hd]
  simp only [Option.some.injEq] at h
  rw [← h,bytesEq_of]
theorem typedL_cons {k:TK} {ks:List TK} {a:AV} {l:List AV} (h:typedL (k::ks) (a::l)=true):typedL [k] [a]=true∧typedL ks l=true∧k.agg=false:=by
 cases k<;>cases a<;>simp only [typedL] at h ⊢<;>try (simp at h;done)
 ·exact⟨trivial,h,rfl⟩
 ·split at h
  ·exact⟨rfl,h,rfl⟩
  ·simp at h
 ·exact⟨trivial,h,rfl⟩
theorem typedL_nil {a:AV} {l:List AV}:typedL [] (a::l)=false:=by cases a<;>rfl
theorem typedL_nil' {k:TK} {l:List TK}:typedL (k::l) []=false:=by cases k<;>rfl
theorem isAgg_of {t:TypeId} {d:TypeDesc} (hd:P.underlying t=some d) (ha:(TK.of d).agg=false) (w:World):(Go.isAgg t).run P w=.ok false w:=by
 simp only [Go.isAgg,Sem.run_bind,run_underlying hd,Result.andThen_ok]
 cases d<;>first|rfl|simp [TK.of,TK.agg] at ha
theorem part_scalar {t:TypeId} {d:TypeDesc} (hd:P.underlying t=some d) (ha:(TK.of d).agg=false) {xs:Array Value} {j:Nat} {v:Value} (hx:xs[j]?=some v) (w:World) :
  (part t xs j).run P w=.ok v w:=by
 simp [part,isAgg_of hd ha,hx]
def FieldsAt (P:Program) (fs:List Field) (ks:List TK) (j:Nat):Prop :=
 ∀ (i:Nat) (f:Field),fs[i]?=some f→f.offset=j+i∧f.name≠ "_"∧∃ d,P.underlying f.type=some d∧some (TK.of d)=ks[i]?
theorem FieldsAt.tail {f:Field} {fs:List Field} {k:TK} {ks:List TK} {j:Nat} (h:FieldsAt P (f::fs) (k::ks) j):FieldsAt P fs ks (j+1):=by
 intro i g hg
 have:=h (i+1) g (by simpa using hg)
 simpa [Nat.add_assoc,Nat.add_comm 1 i] using this
theorem eqFields_ok (n:Nat) (w:World):∀ (fs:List Field) (ks:List TK) (j:Nat) (a b:List AV) (xs ys:Array Value) (r:Bool),FieldsAt P fs ks j→fs.length=ks.length →
  typedL ks a=true→eqL a b=some r→VRels φ a (xs.toList.drop j)→VRels φ b (ys.toList.drop j)→(Op.eqFields (n+1) xs ys fs).run P w=.ok r w
 | [],[],j,a,b,xs,ys,r,_,_,ht,he,_,_=>by
  cases a with
  | nil=>cases b with
   | nil=>simp [eqL] at he;subst he;rfl
   | cons _ _=>simp [eqL] at he
  | cons x l=>simp [typedL_nil] at ht
 | f::fs,[],j,a,b,xs,ys,r,_,hl,_,_,_,_=>by simp at hl
 | [],k::ks,j,a,b,xs,ys,r,_,hl,_,_,_,_=>by simp at hl
 | f::fs,k::ks,j,a,b,xs,ys,r,hf,hl,ht,he,hx,hy=>by
  cases a with
  | nil=>simp [typedL_nil'] at ht
  | cons x a =>
   cases b with
   | nil=>simp [eqL] at he
   | cons y b =>
    obtain⟨h1,h2,h3⟩:=typedL_cons ht
    obtain⟨ho,hn,d,hd,hdk⟩:=hf 0 f rfl
    simp at ho hdk
    obtain⟨x',hx1,hx2⟩:=hx.get 0 x rfl
    obtain⟨y',hy1,hy2⟩:=hy.get 0 y rfl
    simp at hx1 hy1
    have hxj:xs[j]?=some x':=by simpa using hx1
    have hyj:ys[j]?=some y':=by simpa using hy1
    simp only [eqL] at he
    split at he
    ·next p q hp hq =>
     simp only [Option.some.injEq] at he
     simp only [Op.eqFields,ho]
     rw [if_pos hn]
     simp only [Sem.run_bind,part_scalar hd (hdk▸h3) hxj,part_scalar hd (hdk▸h3) hyj,Result.andThen_ok,eq1_ok hp hx2 hy2 hd hdk h1 n w]
     cases p
     ·simp at he;subst he;simp
     ·simp at he;subst he
      simp only [Bool.not_true,Bool.false_eq_true,if_false]
      refine eqFields_ok n w fs ks (j+1) a b xs ys q hf.tail (by simpa using hl) h2 hq ?_ ?_
      ·have:=hx.drop 1;simpa [List.drop_drop,Nat.add_comm] using this
      ·have:=hy.drop 1;simpa [List.drop_drop,Nat.add_comm] using this
    ·simp at he
theorem FlatOk.fieldsAt {t:Nat} {ks:List TK} (h:FlatOk P t ks):P.underlying t=some (.struct (P.fieldsOf t))∧FieldsAt P (P.fieldsOf t).toList ks 0∧(P.fieldsOf t).toList.length=ks.length:=by
 obtain⟨fs,h1,h2,h3⟩:=h.fields
 have e:P.fieldsOf t=fs:=by simp [Program.fieldsOf,h1]
 rw [e]
 exact⟨h1,fun i f hf=>by simpa using h3 i f (by simpa using hf),by simpa using h2⟩
theorem eqAgg_ok {t:Nat} {ks:List TK} (hf:FlatOk P t ks) {a b:List AV} {r:Bool} (ht:typedL ks a=true) (he:eqL a b=some r) {xs ys:Array Value} (hx:VRels φ a xs.toList) (hy:VRels φ b ys.toList) (w:World) (n:Nat) :
  (Op.equalIn (n+2) t (.agg xs) (.agg ys)).run P w=.ok r w:=by
 obtain⟨h1,h2,h3⟩:=hf.fieldsAt
 rw [run_equalIn_agg _ _ _ _ _ h1 hf.stood]
 exact eqFields_ok n w _ ks 0 a b xs ys r h2 h3 ht he (by simpa using hx) (by simpa using hy)
section eqs
variable (w:World) (n:Nat) {t:TypeId}
theorem eqIn_ptr1 {e:TypeId} (h:P.underlying t=some (.pointer e)) (b:Option Addr):(Op.equalIn (n+1) t (.pointer none) (.pointer b)).run P w=.ok b.isNone w:=by
 unfold Op.equalIn;simp only [Sem.run_bind,run_underlying h,Result.andThen_ok];rfl
theorem eqIn_ptr2 {e:TypeId} (h:P.underlying t=some (.pointer e)) (a:Addr):(Op.equalIn (n+1) t (.pointer (some a)) (.pointer none)).run P w=.ok false w:=by
 unfold Op.equalIn;simp only [Sem.run_bind,run_underlying h,Result.andThen_ok];rfl
theorem eqIn_sl1 {e:TypeId} (h:P.underlying t=some (.slice e)) (b:Option Addr) (l c l' c':Nat):(Op.equalIn (n+1) t (.slice none l c) (.slice b l' c')).run P w=.ok b.isNone w:=by
 unfold Op.equalIn;simp only [Sem.run_bind,run_underlying h,Result.andThen_ok];rfl
theorem eqIn_sl2 {e:TypeId} (h:P.underlying t=some (.slice e)) (a:Addr) (l c l' c':Nat):(Op.equalIn (n+1) t (.slice (some a) l c) (.slice none l' c')).run P w=.ok false w:=by
 unfold Op.equalIn;simp only [Sem.run_bind,run_underlying h,Result.andThen_ok];rfl
theorem eqIn_map1 {k e:TypeId} (h:P.underlying t=some (.map k e)) (b:Option Nat):(Op.equalIn (n+1) t (.map none) (.map b)).run P w=.ok b.isNone w:=by
 unfold Op.equalIn;simp only [Sem.run_bind,run_underlying h,Result.andThen_ok];rfl
theorem eqIn_map2 {k e:TypeId} (h:P.underlying t=some (.map k e)) (a:Nat):(Op.equalIn (n+1) t (.map (some a)) (.map none)).run P w=.ok false w:=by
 unfold Op.equalIn;simp only [Sem.run_bind,run_underlying h,Result.andThen_ok];rfl
theorem eqIn_fn0 {a b:Array TypeId} {c:Bool} (h:P.underlying t=some (.func a b c)):(Op.equalIn (n+1) t .nilFunc .nilFunc).run P w=.ok true w:=by
 unfold Op.equalIn;simp only [Sem.run_bind,run_underlying h,Result.andThen_ok];rfl
theorem eqIn_fn1 {a b:Array TypeId} {c:Bool} (h:P.underlying t=some (.func a b c)) (f:Fn) (x y:Array Value):(Op.equalIn (n+1) t .nilFunc (.func f x y)).run P w=.ok false w:=by
 unfold Op.equalIn;simp only [Sem.run_bind,run_underlying h,Result.andThen_ok];rfl
theorem eqIn_fn2 {a b:Array TypeId} {c:Bool} (h:P.underlying t=some (.func a b c)) (f:Fn) (x y:Array Value):(Op.equalIn (n+1) t (.func f x y) .nilFunc).run P w=.ok false w:=by
 unfold Op.equalIn;simp only [Sem.run_bind,run_underlying h,Result.andThen_ok];rfl
end eqs
theorem eqT_ok {t:Nat} {ti:TI} (hti:TIok P t ti) {a b:AV} {r:Bool} (h:eqT ti a b=some r) {a' b':Value} (ha:VRel φ a a') (hb:VRel φ b b') (w:World) :
  (Op.equal t a' b').run P w=.ok r w∧∀ op x y,(eqGuard op t x y a' b').run P w=.ok () w:=by
 have guard:∀ (u v:Value),(∀ x y,u=.agg x→v=.agg y→False)→(u=.nilIface→v=.nilIface→False)→∀ op x y,(eqGuard op t x y u v).run P w=.ok () w:=by
  intro u v h1 h2 op x y
  unfold eqGuard
  cases op<;>simp
  all_goals(cases u<;>cases v<;>first|rfl|(exact(h2 rfl rfl).elim)|exact(h1 _ _ rfl rfl).elim)
 unfold Op.equal Op.maxDepth
 obtain⟨n,hn⟩:∃ n,(10000:Nat)=n+2:=⟨9998,rfl⟩
 rw [hn]
 unfold eqT at h
 split at h
 ·next hk =>
  have hd:=hti.bool hk
  refine⟨eq1_ok h ha hb hd rfl (by rfl) (n+1) w,guard _ _ ?_ ?_⟩<;>(cases ha;simp)
 ·next k k1 n1 k2 n2 hk =>
  split at h
  ·next e1 e2 =>
   have hd:=hti.int hk
   refine⟨eq1_ok h ha hb hd rfl (by simp [TK.of,typedL,e1]) (n+1) w,guard _ _ ?_ ?_⟩<;>(cases ha;simp)
  ·simp at h
 ·next hk =>
  have hd:=hti.str hk
  refine⟨eq1_ok h ha hb hd rfl (by rfl) (n+1) w,guard _ _ ?_ ?_⟩<;>(cases ha;simp)
 ·next hk=>simp at h;subst h;cases ha;cases hb;exact⟨eqIn_ptr1 w _ (hti.ptr hk) _,guard _ _ (by simp) (by simp)⟩
 ·next hk=>simp at h;subst h;cases ha;cases hb<;>exact⟨eqIn_ptr1 w _ (hti.ptr hk) _,guard _ _ (by simp) (by simp)⟩
 ·next hk=>simp at h;subst h;cases hb;cases ha<;>exact⟨eqIn_ptr2 w _ (hti.ptr hk) _,guard _ _ (by simp) (by simp)⟩
 ·next hk=>simp at h;subst h;cases ha;cases hb;exact⟨eqIn_sl1 w _ (hti.sl hk) _ _ _ _ _,guard _ _ (by simp) (by simp)⟩
 ·next hk=>simp at h;subst h;cases ha;cases hb<;>exact⟨eqIn_sl1 w _ (hti.sl hk) _ _ _ _ _,guard _ _ (by simp) (by simp)⟩
 ·next hk=>simp at h;subst h;cases hb;cases ha<;>exact⟨eqIn_sl2 w _ (hti.sl hk) _ _ _ _ _,guard _ _ (by simp) (by simp)⟩
 ·next hk=>simp at h;subst h;cases ha;cases hb;exact⟨eqIn_map1 w _ (hti.map hk) _,guard _ _ (by simp) (by simp)⟩
 ·next hk=>simp at h;subst h;cases ha;cases hb;exact⟨eqIn_map1 w _ (hti.map hk) _,guard _ _ (by simp) (by simp)⟩
 ·next hk=>simp at h;subst h;cases ha;cases hb;exact⟨eqIn_map2 w _ (hti.map hk) _,guard _ _ (by simp) (by simp)⟩
 ·next hk =>
  obtain⟨d,hd,hk'⟩:=hti.und' hk
  obtain⟨_,_,_,rfl⟩:=of_fn hk'
  simp at h;subst h;cases ha;cases hb;exact⟨eqIn_fn0 w _ hd,guard _ _ (by simp) (by simp)⟩
 ·next hk =>
  obtain⟨d,hd,hk'⟩:=hti.und' hk
  obtain⟨_,_,_,rfl⟩:=of_fn hk'
  simp at h;subst h;cases ha;cases hb;exact⟨eqIn_fn1 w _ hd _ _ _,guard _ _ (by simp) (by simp)⟩
 ·next hk =>
  obtain⟨d,hd,hk'⟩:=hti.und' hk
  obtain⟨_,_,_,rfl⟩:=of_fn hk'
  simp at h;subst h;cases ha;cases hb;exact⟨eqIn_fn1 w _ hd _ _ _,guard _ _ (by simp) (by simp)⟩
 ·next hk =>
  obtain⟨d,hd,hk'⟩:=hti.und' hk
  obtain⟨_,_,_,rfl⟩:=of_fn hk'
  simp at h;subst h;cases ha;cases hb;exact⟨eqIn_fn2 w _ hd _ _ _,guard _ _ (by simp) (by simp)⟩
 ·next hk =>
  obtain⟨d,hd,hk'⟩:=hti.und' hk
  obtain⟨_,_,_,rfl⟩:=of_fn hk'
  simp at h;subst h;cases ha;cases hb;exact⟨eqIn_fn2 w _ hd _ _ _,guard _ _ (by simp) (by simp)⟩
 ·next hk =>
  split at h
  ·next ks hfl =>
   split at h
   ·next ht =>
    have hf:=hti.flat ks hfl
    cases ha with
    | agg hx=>cases hb with
     | agg hy=>exact⟨eqAgg_ok hf ht h hx hy w n,fun op x y=>run_eqGuard_agg w op t x y _ _ hf.guard⟩
   ·simp at h
  ·simp at h
 ·simp at h
theorem eqT_val1 {ti:TI} {v:Value} {y:AV}:eqT ti (.val v) y=none:=by
 unfold eqT;split<;>first|rfl|(next h=>cases h)|(next h _=>cases h)|simp_all
theorem eqT_val2 {ti:TI} {v:Value} {x:AV}:eqT ti x (.val v)=none:=by
 unfold eqT;split<;>first|rfl|(next h=>cases h)|(next _ h=>cases h)|simp_all
theorem binA_ok {t:Nat} {ti:TI} (hti:TIok P t ti) {op:BinOp} {a b r:AV} (h:binA ti op a b=some r) {a' b':Value} (ha:VRel φ a a') (hb:VRel φ b b') (w:World) (x y:Operand) :
  ∃ r',VRel φ r r'∧((do eqGuard op t x y a' b';binOp op t a' b'):Sem Value).run P w=.ok r' w:=by
 unfold binA at h
 split at h
 ·next k n k' m =>
  cases ha;cases hb
  have hg:(eqGuard op t x y (.int k n) (.int k' m)).run P w=.ok () w:=by unfold eqGuard;cases op<;>simp
  split at h
  ·split at h
   ·next q =>
    simp only [Option.some.injEq] at h;subst h
    refine⟨_,.int _ _,?_⟩
    simp only [Sem.run_bind,hg,Result.andThen_ok,binOp,Op.shift]
    rw [if_neg (by simp)]
    simp [wrapF_eq]
   ·simp at h
  ·split at h
   ·next q =>
    simp only [Option.some.injEq] at h;subst h
    refine⟨_,.int _ _,?_⟩
    simp only [Sem.run_bind,hg,Result.andThen_ok,binOp,Op.shift]
    rw [if_neg (by simp)]
    simp
   ·simp at h
  ·next hn1 hn2 =>
   split at h
   ·next hk =>
    have:=kindEq_iff.1 hk
    subst this
    obtain⟨r',h1,h2⟩:=intOp_ok (P:=P) (φ:=φ) h t w ⟨fun e=>hn1 e,fun e=>hn2 e⟩
    exact⟨r',h1,by simp only [Sem.run_bind,hg,Result.andThen_ok,h2]⟩
   ·simp at h
 ·cases ha with
  | str s=>cases hb with
   | str u =>
    obtain⟨r',h1,h2⟩:=strOp_ok (P:=P) (φ:=φ) h t w
    have hg:(eqGuard op t x y (.string s) (.string u)).run P w=.ok () w:=by unfold eqGuard;cases op<;>simp
    exact⟨r',h1,by simp only [Sem.run_bind,hg,Result.andThen_ok,h2]⟩
 ·next hni hns =>
  have hne:∀ {bb:Bool},eqT ti a b=some bb→(binOp .eql t a' b').run P w=((Op.equal t a' b').run P w).andThen (fun b w=>.ok (.bool b) w)∧(binOp .neq t a' b').run P w=((Op.equal t a' b').run P w).andThen (fun b w=>.ok (.bool (!b)) w):=by
   intro bb hbb
   cases ha<;>cases hb<;>first|(rw [eqT_val1] at hbb;cases hbb)|(rw [eqT_val2] at hbb;cases hbb)|(exact(hni _ _ _ _ rfl rfl).elim)|(exact(hns _ _ rfl rfl).elim)|(simp [binOp])
  split at h
  ·split at h
   ·next bb hbb =>
    simp only [Option.some.injEq] at h;subst h
    obtain⟨h1,h2⟩:=eqT_ok hti hbb ha hb w
    exact⟨.bool bb,.bool bb,by simp only [Sem.run_bind,h2,Result.andThen_ok,(hne hbb).1,h1]⟩
   ·simp at h
  ·split at h
   ·next bb hbb =>
    simp only [Option.some.injEq] at h;subst h
    obtain⟨h1,h2⟩:=eqT_ok hti hbb ha hb w
    exact⟨.bool (!bb),.bool (!bb),by simp only [Sem.run_bind,h2,Result.andThen_ok,(hne hbb).2,h1]⟩
   ·simp at h
  ·simp at h
theorem unA_ok {op:UnOp} {a r:AV} (h:unA op a=some r) {a':Value} (ha:VRel φ a a') (w:World):∃ r',VRel φ r r'∧(Op.unary op a').run P w=.ok r' w:=by
 unfold unA at h
 split at h
 ·cases ha;simp at h;subst h;exact⟨_,.bool _,by simp [Op.unary]⟩
 ·cases ha;simp only [Option.some.injEq] at h;subst h;exact⟨_,.int _ _,by simp [Op.unary,Op.intArith,wrapF_eq]⟩
 ·simp at h
end
section
variable {P:Program} {C:Ctx} {φ:Phi}
theorem natOf_rel {v:AV} {n:Nat} (h:natOf v=some n) {v':Value} (hv:VRel φ v v'):∃ k,v'=.int k (n:Int):=by
 unfold natOf at h
 split at h
 ·simp at h;subst h;cases hv;exact⟨_,rfl⟩
 ·simp at h
inductive ORelV (φ:Phi):Option AV→Option Value→Prop
 | none:ORelV φ none none
 | some {a:AV} {v:Value} (h:VRel φ a v):ORelV φ (some a) (some v)
theorem sliceBound_ok {n y:Nat} (k:IntKind) (h:n≤y) (code:BoundsCode) (w:World):(Instr.sliceBound (.int k (n:Int)) y code).run P w=.ok n w:=by
 rw [run_sliceBound_if,if_pos (by omega)];simp
theorem optNat_rel {d n:Nat} {o:Option AV} (h:optNat d o=some n) {o':Option Value} (ho:ORelV φ o o'):(o'=none∧n=d)∨∃ k,o'=some (.int k (n:Int)):=by
 cases ho with
 | none=>simp [optNat] at h;exact .inl ⟨rfl,h.symm⟩
 | some hv =>
  simp [optNat] at h
  obtain⟨k,rfl⟩:=natOf_rel h hv
  exact .inr ⟨k,rfl⟩
theorem bounds_ok {len cap c:Nat} {ex:Bool} (hc:cap≤c) (hx:ex=true→c=cap) {lo hi mx:Option AV} {bd:Bnd} (h:bounds len cap ex lo hi mx=some bd)
  {lo' hi' mx':Option Value} (hlo:ORelV φ lo lo') (hhi:ORelV φ hi hi') (hmx:ORelV φ mx mx') (isS:Bool) (w:World) :
  ∃ m,(Instr.sliceBounds isS len c lo' hi' mx').run P w=.ok (bd.l,bd.h,m) w∧bd.m≤m∧(bd.ex=true→m=bd.m)∧bd.l≤bd.h∧bd.h≤bd.m∧m≤c∧bd.m≤cap:=by
 unfold bounds at h
 split at h
 ·cases hmx
  split at h
  ·next hh ll h1 h2 =>
   split at h
   ·next e1 e2 =>
    simp only [Option.some.injEq] at h;subst h
    have l1:=Nat.le_of_ble_eq_true e1
    have l2:=Nat.le_of_ble_eq_true e2
    refine⟨c,?_,hc,hx,l1,l2,Nat.le_refl _,Nat.le_refl _⟩
    rcases optNat_rel h1 hhi with⟨rfl,rfl⟩|⟨k,rfl⟩<;>rcases optNat_rel h2 hlo with⟨rfl,rfl⟩|⟨k',rfl⟩ <;>
     simp [Instr.sliceBounds,sliceBound_ok _ l1,sliceBound_ok _ (Nat.le_trans l2 hc)]
   ·simp at h
  ·simp at h
 ·cases hmx with
  | some hv =>
  split at h
  ·next m hv2 ll h1 h2 =>
   cases hhi with
   | some hvh =>
   split at h
   ·next hh h3 =>
    split at h
    ·next e1 e2 e3 =>
     simp only [Option.some.injEq] at h;subst h
     have l1:=Nat.le_of_ble_eq_true e1
     have l2:=Nat.le_of_ble_eq_true e2
     have l3:=Nat.le_of_ble_eq_true e3
     obtain⟨k1,rfl⟩:=natOf_rel h1 hv
     obtain⟨k2,rfl⟩:=natOf_rel h3 hvh
     refine⟨m,?_,Nat.le_refl _,fun _=>rfl,l1,l2,Nat.le_trans l3 hc,l3⟩
     rcases optNat_rel h2 hlo with⟨rfl,rfl⟩|⟨k',rfl⟩ <;>
      simp [Instr.sliceBounds,sliceBound_ok _ l1,sliceBound_ok _ l2,sliceBound_ok _ (Nat.le_trans l3 hc)]
    ·simp at h
   ·simp at h
  ·simp at h
theorem sl_slice {id off len cap sz:Nat} {ex:Bool} {v':Value} (hv:VRel φ (.sl id off len cap ex sz) v') {t e:TypeId} (ht:P.underlying t=some (.slice e))
  {te:TI} (hte:TIok P e te) (hsz:te.size=sz) {lo hi mx:Option AV} {bd:Bnd} (h:bounds len cap ex lo hi mx=some bd)
  {lo' hi' mx':Option Value} (hlo:ORelV φ lo lo') (hhi:ORelV φ hi hi') (hmx:ORelV φ mx mx') (w:World) :
  ∃ r',VRel φ (.sl id (match bd.ex,Nat.beq bd.m bd.l with|true,true=>off|_,_=>off+bd.l*sz) (bd.h - bd.l) (bd.m - bd.l) bd.ex sz) r' ∧
   (Instr.sliceAt t v' lo' hi' mx').run P w=.ok r' w:=by
 have key:∀ (a:Option Addr) (c:Nat),(Instr.sliceAt t (.slice a len c) lo' hi' mx').run P w=((Instr.sliceBounds true len c lo' hi' mx').run P w).andThen fun r w=>.ok (.slice (if r.2.2=r.1 then a else a.map (·.add (r.1*sz))) (r.2.1 - r.1) (r.2.2 - r.1)) w:=by
  intro a c
  simp only [Instr.sliceAt,Sem.run_bind,run_underlying ht,Result.andThen_ok,Instr.slice]
  cases (Instr.sliceBounds true len c lo' hi' mx').run P w with
  | ok r w1=>simp [hte.sizeOf,hsz]
  | halt x w1=>rfl
 cases hv with
 | sl h1 hc hx hl hN =>
  next b o N c =>
  obtain⟨m,h2,h3,h4,h5,h6,h7,h8⟩:=bounds_ok (P:=P) hc hx h hlo hhi hmx true w
  refine⟨_,?_,by rw [key,h2];rfl⟩
  simp only
  have hlc:bd.l≤c:=by omega
  have hmul:bd.l*sz+(c - bd.l)*sz=c*sz:=by rw [← Nat.add_mul];congr 1;omega
  have hmul2:(m - bd.l)*sz≤(c - bd.l)*sz:=Nat.mul_le_mul_right _ (by omega)
  by_cases e:m=bd.l
  ·rw [if_pos e]
   have hm:bd.m=bd.l:=by omega
   have hhl:bd.h - bd.l=0:=by omega
   rw [hhl,hm,e]
   cases hbx:bd.ex
   ·simp only [Nat.sub_self]
    exact .sl0 h1
   ·have:Nat.beq bd.l bd.l=true:=by simp
    simp only [this,Nat.sub_self]
    exact .sl h1 (Nat.le_refl _) (fun _=>rfl) (Nat.le_refl _) (by simp;omega)
  ·rw [if_neg e]
   have hoff:(match bd.ex,Nat.beq bd.m bd.l with|true,true=>off|_,_=>off+bd.l*sz)=off+bd.l*sz:=by
    split
    ·next q1 q2=>exact absurd (h4 q1▸Nat.eq_of_beq_eq_true q2) e
    ·rfl
   rw [hoff]
   simp only [Option.map_some,Addr.add_mid]
   rw [Nat.add_assoc]
   exact .sl h1 (by omega) (fun q=>by rw [h4 q]) (by omega) (by omega)
 | sl0 h1 =>
  obtain⟨m,h2,h3,h4,h5,h6,h7,h8⟩:=bounds_ok (P:=P) (c:=0) (Nat.le_refl _) (fun _=>rfl) h hlo hhi hmx true w
  refine⟨_,?_,by rw [key,h2];rfl⟩
  simp only
  have e1:bd.l=0:=by omega
  have e2:bd.h=0:=by omega
  have e3:bd.m=0:=by omega
  have e4:m=0:=by omega
  rw [e1,e2,e3,e4]
  exact .sl0 h1
theorem arr_slice {id off n e:Nat} {v':Value} (hv:VRel φ (.ptr id off) v') {t:TypeId} (ht:P.underlying t=some (.array n e)) {te:TI} (hte:TIok P e te)
  {lo hi mx:Option AV} {bd:Bnd} (h:bounds n n true lo hi mx=some bd) {lo' hi' mx':Option Value} (hlo:ORelV φ lo lo') (hhi:ORelV φ hi hi') (hmx:ORelV φ mx mx') (w:World)
  (hin:∀ b o N,φ id=some (.cells b o N)→o+off+n*te.size≤N) :
  ∃ r',VRel φ (.sl id (match Nat.beq bd.m bd.l with|true=>off|false=>off+bd.l*te.size) (bd.h - bd.l) (bd.m - bd.l) true te.size) r' ∧
   (Instr.sliceAt t v' lo' hi' mx').run P w=.ok r' w:=by
 cases hv with
 | ptr h1 =>
  next b o N =>
  obtain⟨m,h2,h3,h4,h5,h6,h7,h8⟩:=bounds_ok (P:=P) (c:=n) (Nat.le_refl _) (fun _=>rfl) h hlo hhi hmx false w
  have hN:=hin b o N h1
  refine⟨.slice (some (if m=bd.l then⟨b,o+off,none⟩ else(⟨b,o+off,none⟩:Addr).add (bd.l*te.size))) (bd.h - bd.l) (m - bd.l),?_,by
   simp only [Instr.sliceAt,Sem.run_bind,run_underlying ht,Result.andThen_ok,Instr.sureAddr,Sem.run_pure,h2,hte.sizeOf]⟩
  have hmul:bd.l*te.size+(n - bd.l)*te.size=n*te.size:=by rw [← Nat.add_mul];congr 1;omega
  have hmul2:(m - bd.l)*te.size≤(n - bd.l)*te.size:=Nat.mul_le_mul_right _ (by omega)
  have hmx':m=bd.m:=by
   have:bd.ex=true:=by
    unfold bounds at h
    split at h
    ·split at h<;>try (simp at h;done)
     split at h<;>try (simp at h;done)
     simp only [Option.some.injEq] at h;rw [← h]
    ·split at h<;>try (simp at h;done)
     split at h<;>try (simp at h;done)
     split at h<;>try (simp at h;done)
     simp only [Option.some.injEq] at h;rw [← h]
   exact h4 this
  subst hmx'
  by_cases e:bd.m=bd.l
  ·rw [if_pos e,show Nat.beq bd.m bd.l=true by rw [e];simp]
   have hhl:bd.h - bd.l=0:=by omega
   rw [hhl,e,Nat.sub_self]
   exact .sl h1 (Nat.le_refl _) (fun _=>rfl) (Nat.le_refl _) (by simp;omega)
  ·rw [if_neg e,show Nat.beq bd.m bd.l=false by cases q:Nat.beq bd.m bd.l with|false=>rfl|true=>exact absurd (Nat.eq_of_beq_eq_true q) e]
   simp only [Addr.add_mid]
   rw [Nat.add_assoc]
   exact .sl h1 (Nat.le_refl _) (fun _=>rfl) (by omega) (by omega)
theorem partOf_ok {t:TypeId} {ti:TI} (ht:TIok P t ti) {cs:List AV} {off:Nat} {r:AV} (h:partOf ti cs off=some r) {xs:Array Value} (hx:VRels φ cs xs.toList) (w:World) :
  ∃ r',VRel φ r r'∧(part t xs off).run P w=.ok r' w:=by
 unfold partOf at h
 split at h
 ·next ha =>
  split at h
  ·next l hl =>
   simp only [Option.some.injEq] at h;subst h
   obtain⟨rfl,Hn⟩:=takeN_eq hl
   refine⟨.agg (xs.extract off (off+ti.size)),.agg ?_,by simp [part,ht.isAgg,ha,ht.sizeOf]⟩
   have:=(hx.drop off).take ti.size
   rw [Array.toList_extract,List.extract_eq_take_drop]
   simpa [Nat.add_sub_cancel_left] using this
  ·simp at h
 ·next ha =>
  split at h
  ·next v hl =>
   simp only [Option.some.injEq] at h;subst h
   obtain⟨hl',Hn⟩:=takeN_eq hl
   have hv:cs[off]?=some v:=by
    have:=congrArg (fun l:List AV=>l[0]?) hl'
    simpa [List.getElem?_take,List.getElem?_drop] using this.symm
   obtain⟨v',h1,h2⟩:=hx.get off v hv
   have h1':xs[off]?=some v':=by simpa using h1
   exact⟨v',h2,by simp [part,ht.isAgg,ha,h1']⟩
  ·simp at h
theorem foldl_set (off:Nat):∀ (vs:List Value) (k:Nat) (cs:Array Value),off+k+vs.length≤cs.size →
  ((vs.zipIdx k).foldl (fun(cs:Array Value) (p:Value×Nat)=>cs.setIfInBounds (off+p.2) p.1) cs).toList=cs.toList.take (off+k)++(vs++cs.toList.drop (off+k+vs.length))
 | [],k,cs,h=>by simp
 | v::vs,k,cs,h=>by
  simp only [List.zipIdx_cons,List.foldl_cons]
  simp only [List.length_cons] at h
  rw [foldl_set off vs (k+1) _ (by simp;omega)]
  have hlt:off+k<cs.toList.length:=by simp;omega
  rw [Array.toList_setIfInBounds,List.set_eq_take_append_cons_drop,if_pos hlt]
  have hl:(cs.toList.take (off+k)).length=off+k:=by simp;omega
  rw [List.take_append,List.drop_append,hl,List.take_of_length_le (l:=cs.toList.take (off+k)) (by omega),List.drop_of_length_le (l:=cs.toList.take (off+k)) (by omega)]
  rw [show off+(k+1) - (off+k)=1 by omega,show off+(k+1)+vs.length - (off+k)=vs.length+1 by omega]
  simp only [List.take_succ_cons,List.take_zero,List.drop_succ_cons,List.drop_drop,List.nil_append,List.append_assoc,List.cons_append,List.length_cons]
  rw [show off+k+1+vs.length=off+k+(vs.length+1) by omega]
theorem fill_ok {tm:T AV} {a:Act} (hg:GOk C φ) (ht:TRel φ tm a.tmps) {place place':Nat→Option (Nat×Nat)} (hpl:∀ i r,place i=some r→place' i=some r) :
  ∀ (ps:List (Nat×Operand)) (cs r:List AV) (xs:Array Value),fillA C tm place cs ps=some r→VRels φ cs xs.toList →
   ∃ ys,Instr.fill place' xs (ps.map fun p=>(p.1,a.eval p.2))=some ys∧VRels φ r ys.toList
 | [],cs,r,xs,h,hx=>by simp [fillA] at h;subst h;exact⟨xs,rfl,hx⟩
 | p::ps,cs,r,xs,h,hx=>by
  simp only [fillA] at h
  split at h
  ·next off size v hp hv =>
   split at h
   ·next he =>
    split at h
    ·next cs' hcs' =>
     have hev:=ev_rel hg ht hv
     have hcells:=hev.cells
     have Hn:=hcells.length
     have he':=Nat.eq_of_beq_eq_true he
     obtain⟨heq,hle⟩:=wrN_eq hcs'
     have hxl:=hx.length
     simp only [List.map_cons,Instr.fill,hpl _ _ hp]
     have hsz:(a.eval p.2).cells.size=size:=by rw [← Array.length_toList,← Hn];exact he'
     have hc1:((a.eval p.2).cells.size≠size||decide (off+(a.eval p.2).cells.size>xs.size))=false:=by
      rw [← Array.length_toList (xs:=xs),← hxl]
      simp [hsz];omega
     simp only [hc1,Bool.false_eq_true,if_false]
     have hfold:((a.eval p.2).cells.zipIdx.foldl (fun(cs:Array Value) (p:Value×Nat)=>cs.setIfInBounds (off+p.2) p.1) xs).toList =
       xs.toList.take off++((a.eval p.2).cells.toList++xs.toList.drop (off+(a.eval p.2).cells.toList.length)):=by
      rw [← Array.foldl_toList,Array.toList_zipIdx,foldl_set off _ 0 xs (by simp;rw [← Array.length_toList (xs:=xs),← hxl];omega)]
      simp
     refine fill_ok hg ht hpl ps cs' r _ h ?_
     show VRels φ cs' ((a.eval p.2).cells.zipIdx.foldl (fun(cs:Array Value) (p:Value×Nat)=>cs.setIfInBounds (off+p.2) p.1) xs).toList
     rw [hfold,heq,← Hn]
     exact(hx.take off).append (hcells.append (hx.drop _))
    ·simp at h
   ·simp at h
  ·simp at h
end
end Ev
