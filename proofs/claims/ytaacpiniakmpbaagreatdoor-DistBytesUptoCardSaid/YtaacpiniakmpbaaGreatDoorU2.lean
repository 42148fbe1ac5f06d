/- How terms are read. -/
import Derived.Test.YtaacpiniakmpbaaGreatDoorU1
import Derived.Test.YtaacpiniakmpbaaGreatDoorL
namespace Go.Proofs.YtaacpiniakmpbaaGreatDoor
open Go Ev Tryz
set_option linter.unusedSimpArgs false
set_option linter.unusedVariables false
set_option maxHeartbeats 4000000
set_option maxRecDepth 10000
def TsAt (B:Base):List Tm→List Value→Prop
 | [],v=>v=[]
 | t::l,v=>∃ cs r,v=cs++r∧TmAt B t cs∧TsAt B l r
theorem TmAt.len {B:Base} {t:Tm} {cs:List Value} (h:TmAt B t cs):cs.length=4:=by
 obtain⟨k,n,s,l⟩:=t
 obtain⟨a,m,c,rfl,_⟩:=h.out
 rfl
theorem TsAt.mono {B B':Base} (hm:∀ k o,B k=some o→B' k=some o):∀ {l:List Tm} {v:List Value},TsAt B l v→TsAt B' l v
 | [],_,h=>h
 | _::_,_,⟨cs,r,h1,h2,h3⟩=>⟨cs,r,h1,h2.mono hm,TsAt.mono hm h3⟩
theorem TsAt.len {B:Base}:∀ {l:List Tm} {v:List Value},TsAt B l v→v.length=l.length*4
 | [],_,h=>by subst h;rfl
 | _::_,_,⟨cs,r,h1,h2,h3⟩=>by rw [h1,List.length_append,h2.len,h3.len,List.length_cons];omega
theorem TsAt.snoc {B:Base} {t:Tm} {cs:List Value} (ht:TmAt B t cs):∀ {l:List Tm} {v:List Value},TsAt B l v→TsAt B (l++[t]) (v++cs)
 | [],_,h=>by subst h;exact⟨cs,[],by simp,ht,rfl⟩
 | _::_,_,⟨c1,r,h1,h2,h3⟩=>⟨c1,r++cs,by rw [h1,List.append_assoc],h2,TsAt.snoc ht h3⟩
theorem TsAt.el {B:Base} {b:Nat}:∀ {l:List Tm} {v:List Value} {off:Nat},TsAt B l v→CellsB B ⟨b,off,none⟩ v→ElAt B b off l
 | [],_,_,_,_=>by unfold ElAt;trivial
 | t::l,v,off,⟨cs,r,h1,h2,h3⟩,hc=>by
  obtain⟨_,arr,e,fz,hb,hcs⟩:=hc
  unfold ElAt
  have hl:=h2.len
  refine⟨⟨cs,⟨rfl,arr,e,fz,hb,fun j x hj=>hcs j x ?_⟩,h2⟩,h3.el ⟨rfl,arr,e,fz,hb,fun j x hj=>?_⟩⟩
  ·rw [h1,List.getElem?_append_left (List.getElem?_eq_some_iff.1 hj).1];exact hj
  ·have:=hcs (4+j) x (by rw [h1,List.getElem?_append_right (by omega),hl,show 4+j - 4=j by omega];exact hj)
   simpa [Nat.add_assoc] using this
theorem str_eq (u:ByteArray):strB (bytesOf u)=u:=by
 have:=bytes_lt u
 exact bytesOf_inj (strB_bytes this)
section
variable {P:Program} {C:Ctx}
theorem _root_.Ev.OpS.new (hC:CtxOk P C) {o:Oper} {tm:T AV} {hp:T Ev.Obj} {nx:Nat} {B:Base} {ob:Ev.Obj} {v:AV} {K:Base→AV→T Ev.Obj→Nat→Prop} {N:AV→T Ev.Obj→Nat→Prop} (hCB:CtxOk P (C.at B)) (h:newA (C.at B) tm hp nx o=some (ob,v)) (hK:K B v (hp.set nx ob) (nx+1)):OpS P C o tm hp nx B K N:=by
 refine OpS.op ?_ hK
 rw [set_get]
 exact OpOK.new hCB (Nat.le_refl _) (Nat.lt_succ_self _) h
end
def Termed (B:Base) (W:Option (Tm×List Nat×Nat)) (B':Base) (v:AV) (hp:T Ev.Obj) (n:Nat):Prop :=
 ∃ t nd' cs s',W=some (t,bytesOf s',nd')∧(∀ k o,B k=some o→B' k=some o)∧TmAt B' t cs∧v=.agg (cs.map .val)∧n=2∧hp=mkT [(0,.ro calcAVs),(1,.cells [.val (.string s'),.val (.int .i64 (Int.ofNat nd'))] 0)]
def G39 (d:Nat) (tm0:T AV) (hp0:T Ev.Obj) (own:Bool) (B0:Base) (W:Option (Tm×List Nat×Nat)) (vs:List Value) (i:Nat) (h3:AV→Ev.Obj):Nat→St→Base→Prop
 | 0,s,B=>s=⟨tm0,hp0,5,[]⟩∧B=B0
 | 1,s,B=>∃ k n u l a m c s2 nd2,(W=some (.mk k n u l,bytesOf s2,nd2)∧(∀ k o,B0 k=some o→B k=some o)∧TmAt B (.mk k n u l) [.int .i64 k,.int .i64 n,.string u,.slice a m c]) ∧
   s=⟨tm0.set 84 (.agg [.val (.int .i64 k),.val (.int .i64 n),.val (.string u),.val (.slice a m c)]),hp0.set 1 (.cells [.val (.string s2),.val (.int .i64 (Int.ofNat nd2))] 0),5,[]⟩
 | 2,s,B=>∃ k n u l a m c s2 nd2,(W=some (.mk k n u l,bytesOf s2,nd2)∧(∀ k o,B0 k=some o→B k=some o)∧TmAt B (.mk k n u l) [.int .i64 k,.int .i64 n,.string u,.slice a m c]) ∧
   s=⟨(tm0.set 84 (.agg [.val (.int .i64 k),.val (.int .i64 n),.val (.string u),.val (.slice a m c)])).set 85 (.sl 5 0 1 1 true 4),
    (hp0.set 1 (.cells [.val (.string s2),.val (.int .i64 (Int.ofNat nd2))] 0)).set 5 (.cells [.val (.int .i64 k),.val (.int .i64 n),.val (.string u),.val (.slice a m c)] 0),6,[]⟩
 | 3,s,B=>∃ k n u l a m c s2 nd2 dd j,(W=some (.mk k n u l,bytesOf s2,nd2)∧(∀ k o,B0 k=some o→B k=some o)∧TmAt B (.mk k n u l) [.int .i64 k,.int .i64 n,.string u,.slice a m c])∧Vs dd (vs++[.int .i64 k,.int .i64 n,.string u,.slice a m c])∧j=i+1 ∧
   s=⟨((tm0.set 84 (.agg [.val (.int .i64 k),.val (.int .i64 n),.val (.string u),.val (.slice a m c)])).set 85 (.sl 5 0 1 1 true 4)).set 86 (.sl 6 0 j j false 4),
    (match own with
     | true=>((hp0.set 1 (.cells [.val (.string s2),.val (.int .i64 (Int.ofNat nd2))] 0)).set 5 (.cells [.val (.int .i64 k),.val (.int .i64 n),.val (.string u),.val (.slice a m c)] 0)).del 4
     | false=>(hp0.set 1 (.cells [.val (.string s2),.val (.int .i64 (Int.ofNat nd2))] 0)).set 5 (.cells [.val (.int .i64 k),.val (.int .i64 n),.val (.string u),.val (.slice a m c)] 0)).set 6 (.cells dd 0),7,[]⟩
 | _,s,B=>∃ k n u l a m c s2 nd2 dd j,(W=some (.mk k n u l,bytesOf s2,nd2)∧(∀ k o,B0 k=some o→B k=some o)∧TmAt B (.mk k n u l) [.int .i64 k,.int .i64 n,.string u,.slice a m c])∧Vs dd (vs++[.int .i64 k,.int .i64 n,.string u,.slice a m c])∧j=i+1 ∧
   s=⟨((tm0.set 84 (.agg [.val (.int .i64 k),.val (.int .i64 n),.val (.string u),.val (.slice a m c)])).set 85 (.sl 5 0 1 1 true 4)).set 86 (.sl 6 0 j j false 4),
    ((match own with
      | true=>((hp0.set 1 (.cells [.val (.string s2),.val (.int .i64 (Int.ofNat nd2))] 0)).set 5 (.cells [.val (.int .i64 k),.val (.int .i64 n),.val (.string u),.val (.slice a m c)] 0)).del 4
      | false=>(hp0.set 1 (.cells [.val (.string s2),.val (.int .i64 (Int.ofNat nd2))] 0)).set 5 (.cells [.val (.int .i64 k),.val (.int .i64 n),.val (.string u),.val (.slice a m c)] 0)).set 6 (.cells dd 0)).set 3 (h3 (.sl 6 0 j j false 4)),7,[]⟩
end Go.Proofs.YtaacpiniakmpbaaGreatDoor
