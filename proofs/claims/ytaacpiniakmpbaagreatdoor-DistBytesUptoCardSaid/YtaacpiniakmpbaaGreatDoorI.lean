/- Objects numbered anew; calls that change what is told of the caller's objects, that leave blocks which stay, or that panic. -/
import Derived.Test.YtaacpiniakmpbaaGreatDoorH
namespace Ev
open Go
set_option linter.unusedSimpArgs false
set_option linter.unusedVariables false
abbrev Base:=Nat→Option Go.Obj
def Ctx.at(C:Ctx) (B:Base):Ctx:={ C with base:=B }
mutual
def AV.ren (ρ:Nat→Nat):AV→AV
 | .ptr a o=>.ptr (ρ a) o
 | .it a=>.it (ρ a)
 | .sl a o n c x s=>.sl (ρ a) o n c x s
 | .map a=>.map (ρ a)
 | .yld a=>.yld (ρ a)
 | .fn f x y=>.fn f (AV.rens ρ x) (AV.rens ρ y)
 | .iface t v=>.iface t (AV.ren ρ v)
 | .agg l=>.agg (AV.rens ρ l)
 | .tup l=>.tup (AV.rens ρ l)
 | .bool b=>.bool b
 | .int k n=>.int k n
 | .str s=>.str s
 | .nptr=>.nptr
 | .nsl=>.nsl
 | .nmap=>.nmap
 | .nfn=>.nfn
 | .nif=>.nif
 | .val v=>.val v
def AV.rens (ρ:Nat→Nat):List AV→List AV
 | []=>[]
 | a::l=>AV.ren ρ a::AV.rens ρ l
end
theorem rens_get (ρ:Nat→Nat):∀ (l:List AV) (j:Nat),(AV.rens ρ l)[j]?=(l[j]?).map (AV.ren ρ)
 | [],j=>by simp [AV.rens]
 | x::l,0=>by simp [AV.rens]
 | x::l,j+1=>by simpa [AV.rens] using rens_get ρ l j
theorem rens_length (ρ:Nat→Nat):∀ (l:List AV),(AV.rens ρ l).length=l.length
 | []=>rfl
 | _::l=>by simp [AV.rens,rens_length ρ l]
def Obj.ren (ρ:Nat→Nat):Obj→Obj
 | .cells c z=>.cells (AV.rens ρ c) z
 | .tc t c z=>.tc t (AV.rens ρ c) z
 | .ro c=>.ro (AV.rens ρ c)
 | o=>o
def Obj.easy:Obj→Bool
 | .cells ..=>true
 | .tc ..=>true
 | .ro ..=>true
 | _=>false
theorem Obj.ren_own (ρ:Nat→Nat) (o:Obj):(o.ren ρ).own=o.own:=by cases o<;>rfl
section
variable {φ ψ:Phi} {ρ:Nat→Nat}
mutual
theorem VRel.ren (h:∀ i l,φ i=some l→ψ (ρ i)=some l):∀ {a:AV} {v:Value},VRel φ a v→VRel ψ (a.ren ρ) v
 | _,_,.bool b=>.bool b
 | _,_,.int k n=>.int k n
 | _,_,.str s=>.str s
 | _,_,.ptr q=>.ptr (h _ _ q)
 | _,_,.it q=>.it (h _ _ q)
 | _,_,.nptr=>.nptr
 | _,_,.sl q a b c d=>.sl (h _ _ q) a b c d
 | _,_,.sl0 q=>.sl0 (h _ _ q)
 | _,_,.nsl=>.nsl
 | _,_,.map q=>.map (h _ _ q)
 | _,_,.nmap=>.nmap
 | _,_,.fn f hx hy=>.fn f (VRels.ren h hx) (VRels.ren h hy)
 | _,_,.nfn=>.nfn
 | _,_,.yld q=>.yld (h _ _ q)
 | _,_,.iface t q=>.iface t (VRel.ren h q)
 | _,_,.nif=>.nif
 | _,_,.agg q=>.agg (VRels.ren h q)
 | _,_,.tup q=>.tup (VRels.ren h q)
 | _,_,.val v q=>.val v q
theorem VRels.ren (h:∀ i l,φ i=some l→ψ (ρ i)=some l):∀ {a:List AV} {v:List Value},VRels φ a v→VRels ψ (AV.rens ρ a) v
 | _,_,.nil=>.nil
 | _,_,.cons q t=>.cons (VRel.ren h q) (VRels.ren h t)
end
mutual
theorem VRel.unren {n:Nat} (h:∀ i,i<n→φ i=ψ (ρ i)):∀ {a:AV} {v:Value},a.ltId n=true→VRel ψ (a.ren ρ) v→VRel φ a v
 | .bool _,_,_,q=>by cases q;exact .bool _
 | .int _ _,_,_,q=>by cases q;exact .int _ _
 | .str _,_,_,q=>by cases q;exact .str _
 | .ptr a o,_,hb,q=>by cases q with|ptr q=>exact .ptr (by rw [h a (blt_lt hb)];exact q)
 | .it a,_,hb,q=>by cases q with|it q=>exact .it (by rw [h a (blt_lt hb)];exact q)
 | .nptr,_,_,q=>by cases q;exact .nptr
 | .sl a _ _ _ _ _,_,hb,q=>by
  have:=h a (blt_lt hb)
  cases q with
  | sl q x y z u=>exact .sl (by rw [this];exact q) x y z u
  | sl0 q=>exact .sl0 (by rw [this];exact q)
 | .nsl,_,_,q=>by cases q;exact .nsl
 | .map a,_,hb,q=>by cases q with|map q=>exact .map (by rw [h a (blt_lt hb)];exact q)
 | .nmap,_,_,q=>by cases q;exact .nmap
 | .fn f x y,_,hb,q=>by
  unfold AV.ltId at hb
  split at hb
  ·next h1=>cases q with|fn _ hx hy=>exact .fn f (VRels.unren h h1 hx) (VRels.unren h hb hy)
  ·simp at hb
 | .nfn,_,_,q=>by cases q;exact .nfn
 | .yld a,_,hb,q=>by cases q with|yld q=>exact .yld (by rw [h a (blt_lt hb)];exact q)
 | .iface t v,_,hb,q=>by cases q with|iface _ q=>exact .iface t (VRel.unren h (by simpa [AV.ltId] using hb) q)
 | .nif,_,_,q=>by cases q;exact .nif
 | .agg l,_,hb,q=>by cases q with|agg q=>exact .agg (VRels.unren h (by simpa [AV.ltId] using hb) q)
 | .tup l,_,hb,q=>by cases q with|tup q=>exact .tup (VRels.unren h (by simpa [AV.ltId] using hb) q)
 | .val v,_,_,q=>by cases q with|val _ q=>exact .val _ q
theorem VRels.unren {n:Nat} (h:∀ i,i<n→φ i=ψ (ρ i)):∀ {a:List AV} {v:List Value},AV.ltIds n a=true→VRels ψ (AV.rens ρ a) v→VRels φ a v
 | [],_,_,q=>by cases q;exact .nil
 | a::l,_,hb,q=>by
  unfold AV.ltIds at hb
  split at hb
  ·next h1=>cases q with|cons q t=>exact .cons (VRel.unren h h1 q) (VRels.unren h hb t)
  ·simp at hb
end
theorem CRel.ren (h:∀ i l,φ i=some l→ψ (ρ i)=some l) {w:World} {b o:Nat} {c:List AV} (q:CRel φ w b o c):CRel ψ w b o (AV.rens ρ c):=by
 intro j v hj
 rw [rens_get] at hj
 cases hc:c[j]? with
 | none=>rw [hc] at hj;simp at hj
 | some u =>
  rw [hc] at hj
  simp only [Option.map_some,Option.some.injEq] at hj
  subst hj
  obtain⟨v',h1,h2⟩:=q j u hc
  exact⟨v',h1,h2.ren h⟩
theorem CRel.unren {n:Nat} (h:∀ i,i<n→φ i=ψ (ρ i)) {w:World} {b o:Nat} {c:List AV} (hb:AV.ltIds n c=true) (q:CRel ψ w b o (AV.rens ρ c)):CRel φ w b o c:=by
 intro j v hj
 obtain⟨v',h1,h2⟩:=q j (v.ren ρ) (by rw [rens_get,hj];rfl)
 exact⟨v',h1,h2.unren h (ltIds_get hb j v hj)⟩
theorem ORel.ren (h:∀ i l,φ i=some l→ψ (ρ i)=some l) {w:World} {o:Obj} {l:Loc} (he:o.easy=true) (q:ORel φ w o l):ORel ψ w (o.ren ρ) l:=by
 cases q with
 | cells hN hc hf=>exact .cells (by rw [rens_length];exact hN) (hc.ren h) hf
 | tc hs hN hc hf=>exact .tc hs (by rw [rens_length];exact hN) (hc.ren h) hf
 | ro hN hc=>exact .ro (by rw [rens_length];exact hN) (hc.ren h)
 | _=>simp [Obj.easy] at he
theorem ORel.unren {n:Nat} (h:∀ i,i<n→φ i=ψ (ρ i)) {w:World} {o:Obj} {l:Loc} (he:o.easy=true) (hb:o.ltB n=true) (q:ORel ψ w (o.ren ρ) l):ORel φ w o l:=by
 cases o with
 | cells c z=>cases q with|cells hN hc hf=>exact .cells (by rw [rens_length] at hN;exact hN) (hc.unren h hb) hf
 | tc t c z=>cases q with|tc hs hN hc hf=>exact .tc hs (by rw [rens_length] at hN;exact hN) (hc.unren h hb) hf
 | ro c=>cases q with|ro hN hc=>exact .ro (by rw [rens_length] at hN;exact hN) (hc.unren h hb)
 | _=>simp [Obj.easy] at he
end
structure HSub (τ:Nat→Nat) (n:Nat) (H G:Hp):Prop where
 get:∀ i o,G i=some o→i<n∧o.ltB n=true∧o.easy=true∧∃ y,H (τ i)=some y∧OW y (o.ren τ)
 inj:∀ i j a b,G i=some a→G j=some b→τ i=τ j→i=j
def pull (φ:Phi) (τ:Nat→Nat) (n:Nat):Phi:=fun i=>if i<n then φ (τ i) else none
theorem pull_lt {φ:Phi} {τ:Nat→Nat} {n i:Nat} (h:i<n):pull φ τ n i=φ (τ i):=if_pos h
theorem pull_some {φ:Phi} {τ:Nat→Nat} {n i:Nat} {l:Loc} (h:pull φ τ n i=some l):i<n∧φ (τ i)=some l:=by
 unfold pull at h
 split at h
 ·next q=>exact⟨q,h⟩
 ·cases h
section
variable {φ:Phi} {τ:Nat→Nat} {n:Nat} {H G:Hp} {w:World}
theorem HSub.rel (hs:HSub τ n H G) {nx:Nat} (hr:Rel φ H nx w):Rel (pull φ τ n) G n w where
 lt i l h:=⟨(pull_some h).1,(hr.lt _ l (pull_some h).2).2⟩
 shp i b o N h:=hr.shp _ b o N (pull_some h).2
 dom i o h:=by
  obtain⟨h1,h2,h3,y,h4,h5⟩:=hs.get i o h
  obtain⟨l,h6,h7⟩:=hr.dom _ y h4
  exact⟨l,by rw [pull_lt h1];exact h6,(h5.rel h7).unren (fun i hi=>pull_lt hi) h3 h2⟩
 sep i j a b l m hi hj hne ho hl hm:=by
  obtain⟨_,_,_,y,h4,h5⟩:=hs.get i a hi
  obtain⟨_,_,_,z,h6,h7⟩:=hs.get j b hj
  exact hr.sep _ _ y z l m h4 h6 (fun q=>hne (hs.inj i j a b hi hj q)) (by rw [h5.own,Obj.ren_own];exact ho) (pull_some hl).2 (pull_some hm).2
theorem HSub.own (hs:HSub τ n H G) {k:Nat} (h:OwnB (pull φ τ n) G k):OwnB φ H k:=by
 obtain⟨i,o,l,h1,h2,h3,h4⟩:=h
 obtain⟨_,_,_,y,h5,h6⟩:=hs.get i o h1
 exact⟨_,y,l,h5,by rw [h6.own,Obj.ren_own];exact h2,(pull_some h3).2,h4⟩
theorem HSub.live (hs:HSub τ n H G) {k:Nat} (h:LiveB (pull φ τ n) G k):LiveB φ H k:=by
 obtain⟨i,o,l,h1,h3,h4⟩:=h
 obtain⟨_,_,_,y,h5,_⟩:=hs.get i o h1
 exact⟨_,y,l,h5,(pull_some h3).2,h4⟩
theorem HSub.base {C:Ctx} (hs:HSub τ n H G) (hb:BOk C φ H w) (hg:∀ g,C.gs g=true→τ g=g∧g<n):BOk C (pull φ τ n) G w :=
 ⟨fun g h=>by obtain⟨N,h1⟩:=hb.gl g h;exact⟨N,by rw [pull_lt (hg g h).2,(hg g h).1];exact h1⟩,fun k o h=>⟨(hb.base k o h).1,fun q=>(hb.base k o h).2 (hs.own q)⟩⟩
theorem HSub.step {φ0:Phi} {H0:Hp} {n0 nx:Nat} {w0:World} (hs:HSub τ n H G) (h:Step φ0 H0 n0 w0 φ H nx w) (h0:∀ i l,φ0 i=some l→i<n0) (hτ:∀ i,i<n0→τ i=i) (hn:n0≤n):Step φ0 H0 n0 w0 (pull φ τ n) G n w where
 grow:=hn
 born i l hi:=by
  obtain⟨h1,h2⟩:=pull_some hi
  rcases Nat.lt_or_ge i n0 with q|q
  ·rw [hτ i q] at h2;exact h.born i l h2
  ·exact .inr q
 le i l hi:=by
  have:=h0 i l hi
  rw [pull_lt (Nat.lt_of_lt_of_le this hn),hτ i this]
  exact h.le i l hi
 keeps:=h.keeps
 own k hk q:=h.own k hk (hs.own q)
 live k hk q:=h.live k hk (hs.live q)
end
structure Grows (n:Nat) (B B':Base):Prop where
 le:∀ k o,B k=some o→B' k=some o
 new:∀ k o,B' k=some o→B k=some o∨n≤k
theorem Grows.refl (n:Nat) (B:Base):Grows n B B:=⟨fun _ _ h=>h,fun _ _ h=>.inl h⟩
theorem Grows.trans {n m:Nat} {B B' B'':Base} (h:Grows n B B') (k:Grows m B' B'') (hm:n≤m):Grows n B B'' :=
 ⟨fun i o q=>k.le i o (h.le i o q),fun i o q=>(k.new i o q).elim (h.new i o) fun r=>.inr (Nat.le_trans hm r)⟩
def CallG (P:Program) (C:Ctx) (B:Base) (f:FuncId) (args:List AV) (H:Hp) (nx:Nat) (Rt:Base→AV→Hp→Nat→Prop) (Pn:AV→Hp→Nat→Prop):Prop :=
 ∀ (φ:Phi) (w:World) (args':Array Value),Rel φ H nx w→BOk (C.at B) φ H w→VRels φ args args'.toList→Calls P f args' w fun e w'=>∃ φ' v v' H' nx',VRel φ' v v'∧Rel φ' H' nx' w'∧Step φ H nx w φ' H' nx' w' ∧
  ((e=.returned v'∧∃ B',Rt B' v H' nx'∧BOk (C.at B') φ' H' w'∧Grows w.heap.size B B')∨(e=.panicked [{ v:=v',recovered:=false }]∧Pn v H' nx'))
structure Back (τ τ':Nat→Nat) (n n' nx nx':Nat) (H H' G G':Hp):Prop where
 old:∀ i,i<n→τ' i=τ i
 lt:∀ i,i<n→τ i<nx
 new:∀ i,n≤i→i<n'→τ' i=nx+(i - n)
 nx:nx'=nx+(n' - n)
 le:n≤n'
 inj:∀ i j a b,H i=some a→H j=some b→τ i=τ j→i=j
 get:∀ j o,G' j=some o→(∃ i x,i<n'∧τ' i=j∧H' i=some x∧x.easy=true∧OW (x.ren τ') o)∨(G j=some o∧∀ i x,H i=some x→τ i≠j)
def push (φ φ1:Phi) (n nx:Nat):Phi:=fun j=>if j<nx then φ j else φ1 (j - nx+n)
theorem push_lt {φ φ1:Phi} {n nx j:Nat} (h:j<nx):push φ φ1 n nx j=φ j:=if_pos h
theorem push_ge {φ φ1:Phi} {n nx j:Nat} (h:nx≤j):push φ φ1 n nx j=φ1 (j - nx+n):=if_neg (by omega)
theorem Back.rel {τ τ':Nat→Nat} {n n' nx nx':Nat} {H H' G G':Hp} (hb:Back τ τ' n n' nx nx' H H' G G') (hs:HSub τ n G H) {φ φ1:Phi} {w w':World} (hr:Rel φ G nx w) (hr1:Rel φ1 H' n' w') (st:Step (pull φ τ n) H n w φ1 H' n' w') :
  ∃ φ',(∀ i l,φ1 i=some l→φ' (τ' i)=some l)∧Rel φ' G' nx' w'∧Step φ G nx w φ' G' nx' w'∧∀ k,w.heap.size≤k→OwnB φ' G' k→OwnB φ1 H' k:=by
 have hfw:∀ i l,φ1 i=some l→push φ φ1 n nx (τ' i)=some l:=by
  intro i l hi
  have hlt:=(hr1.lt i l hi).1
  rcases Nat.lt_or_ge i n with q|q
  ·rw [hb.old i q,push_lt (hb.lt i q)]
   rcases st.born i l hi with h|h
   ·exact(pull_some h).2
   ·omega
  ·rw [hb.new i q hlt,push_ge (by omega)]
   rw [show nx+(i - n) - nx+n=i by omega];exact hi
 have hle:Le φ (push φ φ1 n nx):=fun i l hi=>by rw [push_lt (hr.lt i l hi).1];exact hi
 have hblk:∀ j o l,G j=some o→(∀ i x,H i=some x→τ i≠j)→φ j=some l→w'.heap[l.block]?=w.heap[l.block]?:=by
  intro j o l hj hno hl
  refine st.keeps.block l.block (hr.lt j l hl).2 ?_
  rintro⟨i,x,m,h1,h2,h3,h4⟩
  obtain⟨_,_,_,y,h5,h6⟩:=hs.get i x h1
  exact hr.sep (τ i) j y o m l h5 hj (hno i x h1) (by rw [h6.own,Obj.ren_own];exact h2) (pull_some h3).2 hl h4
 have hold:∀ i l,φ1 i=some l→l.block<w.heap.size→(∃ x,H' i=some x)→∃ i0 x0 l0,H i0=some x0∧φ (τ i0)=some l0∧l0.block=l.block:=by
  intro i l hi hlt ⟨x,hx⟩
  obtain⟨i0,x0,l0,h1,h2,h3⟩:=st.live l.block hlt ⟨i,x,l,hx,hi,rfl⟩
  exact⟨i0,x0,l0,h1,(pull_some h2).2,h3⟩
 have hown:∀ i x l,φ1 i=some l→l.block<w.heap.size→H' i=some x→x.own=true→∃ i0 x0 l0,H i0=some x0∧x0.own=true∧φ (τ i0)=some l0∧l0.block=l.block:=by
  intro i x l hi hlt hx hxo
  obtain⟨i0,x0,l0,h1,h2,h3,h4⟩:=st.own l.block hlt ⟨i,x,l,hx,hxo,hi,rfl⟩
  exact⟨i0,x0,l0,h1,h2,(pull_some h3).2,h4⟩
 have hdom:∀ j o,G' j=some o→∃ l,push φ φ1 n nx j=some l∧((∃ i x,i<n'∧τ' i=j∧H' i=some x∧φ1 i=some l∧x.own=o.own∧OW (x.ren τ') o∧x.easy=true)∨(G j=some o∧φ j=some l∧∀ i x,H i=some x→τ i≠j)):=by
  intro j o hj
  rcases hb.get j o hj with⟨i,x,h1,rfl,h3,h4,h5⟩|⟨h1,h2⟩
  ·obtain⟨l,h6,h7⟩:=hr1.dom i x h3
   exact⟨l,hfw i l h6,.inl ⟨i,x,h1,rfl,h3,h6,by rw [← Obj.ren_own τ' x];exact h5.own,h5,h4⟩⟩
  ·obtain⟨l,h6,h7⟩:=hr.dom j o h1
   exact⟨l,hle j l h6,.inr ⟨h1,h6,h2⟩⟩
 refine⟨push φ φ1 n nx,hfw,⟨?_,?_,?_,?_⟩,⟨?_,?_,hle,⟨st.keeps.os,st.keeps.tape,st.keeps.output,st.keeps.size,st.keeps.shape,?_⟩,?_,?_⟩,?_⟩
 ·intro j l hj
  have h1:=st.keeps.size;have h2:=hb.nx;have h3:=hb.le
  rcases Nat.lt_or_ge j nx with q|q
  ·rw [push_lt q] at hj;have:=hr.lt j l hj;exact⟨by omega,by omega⟩
  ·rw [push_ge q] at hj;have:=hr1.lt _ l hj;exact⟨by omega,this.2⟩
 ·intro j b o N hj
  rcases Nat.lt_or_ge j nx with q|q
  ·rw [push_lt q] at hj;obtain⟨e,he⟩:=hr.shp j b o N hj;exact⟨e,by rw [st.keeps.shape b (hr.lt j _ hj).2];exact he⟩
  ·rw [push_ge q] at hj;exact hr1.shp _ b o N hj
 ·intro j o hj
  obtain⟨l,h1,h2⟩:=hdom j o hj
  refine⟨l,h1,?_⟩
  rcases h2 with⟨i,x,h3,rfl,h5,h6,_,h7,h8⟩|⟨h3,h4,h5⟩
  ·obtain⟨l',h9,h10⟩:=hr1.dom i x h5
   rw [h6] at h9;cases h9
   exact h7.rel (h10.ren hfw h8)
  ·obtain⟨l',h9,h10⟩:=hr.dom j o h3
   rw [h4] at h9;cases h9
   exact h10.mono hle (hblk j o l h3 h5 h4)
 ·intro j k a b l m hj hk hne hao hl hm
  obtain⟨l',h1,h2⟩:=hdom j a hj
  obtain⟨m',h3,h4⟩:=hdom k b hk
  have e1:l'=l:=by rw [h1] at hl;exact Option.some.inj hl
  have e2:m'=m:=by rw [h3] at hm;exact Option.some.inj hm
  subst e1 e2
  rcases h2 with⟨i,x,_,rfl,h5,h6,h7,_⟩|⟨h5,h6,h7⟩<;>rcases h4 with⟨i',x',_,rfl,h5',h6',h7',_⟩|⟨h5',h6',h7'⟩
  ·exact hr1.sep i i' x x' l' m' h5 h5' (fun q=>hne (by rw [q])) (by rw [h7];exact hao) h6 h6'
  ·intro e
   have hlt:l'.block<w.heap.size:=by rw [e];exact(hr.lt k m' h6').2
   obtain⟨i0,x0,l0,g1,g2,g3,g4⟩:=hown i x l' h6 hlt h5 (by rw [h7];exact hao)
   obtain⟨_,_,_,y,g5,g6⟩:=hs.get i0 x0 g1
   exact hr.sep (τ i0) k y b l0 m' g5 h5' (h7' i0 x0 g1) (by rw [g6.own,Obj.ren_own];exact g2) g3 h6' (g4.trans e)
  ·intro e
   have hlt:m'.block<w.heap.size:=by rw [← e];exact(hr.lt j l' h6).2
   obtain⟨i0,x0,l0,g1,g3,g4⟩:=hold i' m' h6' hlt ⟨x',h5'⟩
   obtain⟨_,_,_,y,g5,g6⟩:=hs.get i0 x0 g1
   exact hr.sep j (τ i0) a y l' l0 h5 g5 (fun q=>h7 i0 x0 g1 q.symm) hao h6 g3 (e.trans g4.symm)
  ·intro e
   exact hr.sep j k a b l' m' h5 h5' hne hao h6 h6' e
 ·have:=hb.nx;omega
 ·intro j l hj
  rcases Nat.lt_or_ge j nx with q|q
  ·rw [push_lt q] at hj;exact .inl hj
  ·exact .inr q
 ·intro k hk hno
  refine st.keeps.block k hk ?_
  rintro⟨i,x,l,h1,h2,h3,h4⟩
  obtain⟨_,_,_,y,h5,h6⟩:=hs.get i x h1
  exact hno ⟨τ i,y,l,h5,by rw [h6.own,Obj.ren_own];exact h2,(pull_some h3).2,h4⟩
 ·rintro k hk ⟨j,o,l,h1,h2,h3,h4⟩
  obtain⟨l',h5,h6⟩:=hdom j o h1
  have e1:l'=l:=by rw [h5] at h3;exact Option.some.inj h3
  subst e1
  rcases h6 with⟨i,x,_,rfl,h7,h8,h9,_⟩|⟨h7,h8,_⟩
  ·obtain⟨i0,x0,l0,g1,g2,g3,g4⟩:=hown i x l' h8 (by rw [h4];exact hk) h7 (by rw [h9];exact h2)
   obtain⟨_,_,_,y,g5,g6⟩:=hs.get i0 x0 g1
   exact⟨τ i0,y,l0,g5,by rw [g6.own,Obj.ren_own];exact g2,g3,g4.trans h4⟩
  ·exact⟨j,o,l',h7,h2,h8,h4⟩
 ·rintro k hk ⟨j,o,l,h1,h3,h4⟩
  obtain⟨l',h5,h6⟩:=hdom j o h1
  have e1:l'=l:=by rw [h5] at h3;exact Option.some.inj h3
  subst e1
  rcases h6 with⟨i,x,_,rfl,h7,h8,h9,_⟩|⟨h7,h8,_⟩
  ·obtain⟨i0,x0,l0,g1,g3,g4⟩:=hold i l' h8 (by rw [h4];exact hk) ⟨x,h7⟩
   obtain⟨_,_,_,y,g5,g6⟩:=hs.get i0 x0 g1
   exact⟨τ i0,y,l0,g5,g3,g4.trans h4⟩
  ·exact⟨j,o,l',h7,h8,h4⟩
 ·rintro k hk ⟨j,o,l,h1,h2,h3,h4⟩
  obtain⟨l',h5,h6⟩:=hdom j o h1
  have e1:l'=l:=by rw [h5] at h3;exact Option.some.inj h3
  subst e1
  rcases h6 with⟨i,x,_,rfl,h7,h8,h9,_⟩|⟨h7,h8,_⟩
  ·exact⟨i,x,l',h7,by rw [h9];exact h2,h8,h4⟩
  ·have:=(hr.lt j l' h8).2;omega
def ext (τ:Nat→Nat) (n nx:Nat):Nat→Nat:=fun i=>if i<n then τ i else nx+(i - n)
theorem ext_lt {τ:Nat→Nat} {n nx i:Nat} (h:i<n):ext τ n nx i=τ i:=if_pos h
theorem ext_ge {τ:Nat→Nat} {n nx i:Nat} (h:n≤i):ext τ n nx i=nx+(i - n):=if_neg (by omega)
def Behind (τ:Nat→Nat) (n n' nx:Nat) (H H' G G':Hp):Prop :=
 ∀ j o,G' j=some o→(∃ i x,i<n'∧ext τ n nx i=j∧H' i=some x∧x.easy=true∧OW (x.ren (ext τ n nx)) o)∨(G j=some o∧∀ i x,H i=some x→τ i≠j)
theorem CallG.embed {P:Program} {C:Ctx} {B:Base} {f:FuncId} {args:List AV} {H G:Hp} {n nx:Nat} {Rt Rt':Base→AV→Hp→Nat→Prop} {Pn Pn':AV→Hp→Nat→Prop} (h:CallG P C B f args H n Rt Pn) {τ:Nat→Nat}
  (hs:HSub τ n G H) (hlt:∀ i,i<n→τ i<nx) (hgs:∀ g,C.gs g=true→τ g=g∧g<n) (ha:AV.ltIds n args=true)
  (hR:∀ B' v H' n',Rt B' v H' n'→n≤n'→∃ G',Behind τ n n' nx H H' G G'∧Rt' B' (v.ren (ext τ n nx)) G' (nx+(n' - n)))
  (hP:∀ v H' n',Pn v H' n'→n≤n'→∃ G',Behind τ n n' nx H H' G G'∧Pn' (v.ren (ext τ n nx)) G' (nx+(n' - n))):CallG P C B f (AV.rens τ args) G nx Rt' Pn':=by
 intro φ w args' hr hg hargs
 refine(h (pull φ τ n) w args' (hs.rel hr) (hs.base hg hgs) (hargs.unren (fun i hi=>pull_lt hi) ha)).mono ?_
 rintro e w' ⟨φ1,v,v',H',n',h1,h2,h3,h4⟩
 have fin:∀ G',Behind τ n n' nx H H' G G'→∃ φ',VRel φ' (v.ren (ext τ n nx)) v'∧Rel φ' G' (nx+(n' - n)) w'∧Step φ G nx w φ' G' (nx+(n' - n)) w'∧∀ k,w.heap.size≤k→OwnB φ' G' k→OwnB φ1 H' k:=by
  intro G' hG
  obtain⟨φ',h5,h6,h7,h8⟩:=Back.rel ⟨fun i hi=>ext_lt hi,hlt,fun i hi _=>ext_ge hi,rfl,h3.grow,hs.inj,hG⟩ hs hr h2 h3
  exact⟨φ',h1.ren h5,h6,h7,h8⟩
 rcases h4 with⟨rfl,B',h5,h6,h7⟩|⟨rfl,h5⟩
 ·obtain⟨G',h8,h9⟩:=hR B' v H' n' h5 h3.grow
  obtain⟨φ',g1,g2,g3,g4⟩:=fin G' h8
  refine⟨φ',_,v',G',_,g1,g2,g3,.inl ⟨rfl,B',h9,⟨hg.gl.mono g3.le,fun k o hk=>?_⟩,h7⟩⟩
  rcases h7.new k o hk with q|q
  ·exact(hg.step g3).base k o q
  ·obtain⟨a,b⟩:=h6.base k o hk
   exact⟨a,fun r=>b (g4 k q r)⟩
 ·obtain⟨G',h8,h9⟩:=hP v H' n' h5 h3.grow
  obtain⟨φ',g1,g2,g3,_⟩:=fin G' h8
  exact⟨φ',_,v',G',_,g1,g2,g3,.inr ⟨rfl,h9⟩⟩
structure SubR (τ:Nat→Nat) (s t:St):Prop where
 tm:∀ x v,t.tm.get x=some v→v.ltId t.nx=true∧∃ u,s.tm.get x=some u∧VW u (v.ren τ)
 hp:HSub τ t.nx s.hp.get t.hp.get
 df:s.df=[]∧t.df=[]
theorem SubR.lies {C:Ctx} {nt:Nat} {τ:Nat→Nat} {s t:St} (h:SubR τ s t) (hg:∀ g,C.gs g=true→τ g=g∧g<t.nx) {φ:Phi} {a:Act} {w:World} (hl:Lies C nt φ s a w):Lies C nt (pull φ τ t.nx) t a w:=by
 refine⟨h.hp.rel hl.rel,h.hp.base hl.glob hg,fun x v hx=>?_,hl.size,?_⟩
 ·obtain⟨h1,u,h2,h3⟩:=h.tm x v hx
  obtain⟨v',h4,h5⟩:=hl.tmps x u h2
  exact⟨v',h4,(h3.rel h5).unren (fun i hi=>pull_lt hi) h1⟩
 ·have:=hl.defers
  rw [h.df.1] at this
  rw [h.df.2]
  generalize a.defers=q at this
  cases this;exact .nil
structure From where
 φ:Phi
 H:Hp
 n:Nat
 w:World
 B:Base
structure From.Ok (F:From):Prop where
 lt:∀ i l,F.φ i=some l→i<F.n
structure On (F:From) (C:Ctx) (nt:Nat) (s:St) (B:Base) (φ:Phi) (a:Act) (w:World):Prop where
 lies:Lies (C.at B) nt φ s a w
 step:Step F.φ F.H F.n F.w φ s.hp.get s.nx w
 grow:Grows F.w.heap.size F.B B
structure Off (F:From) (s:St) (φ:Phi) (a:Act) (w:World):Prop where
 rel:Rel φ s.hp.get s.nx w
 step:Step F.φ F.H F.n F.w φ s.hp.get s.nx w
 df:DRels φ s.df a.defers
 tmps:TRel φ s.tm a.tmps
def CodeF (P:Program) (C:Ctx) (F:From) (nt:Nat) (c:Code) (st:St) (B:Base) (Q:Ex→St→Base→Prop) (N:AV→St→Prop):Prop :=
 ∀ (φ:Phi) (a:Act) (w:World),On F C nt st B φ a w→∀ (n:Nat) (R:Exit→Act→World→Prop),
  (∀ e s B' φ' a' w',Q e s B'→On F C nt s B' φ' a' w'→R e.to a' w') →
  (∀ v v' s φ' a' w',N v s→VRel φ' v v'→Off F s φ' a' w'→R (.panic [{ v:=v',recovered:=false }]) a' w')→c.wpIn (Fw none) n P R a w
section
variable {P:Program} {C:Ctx} {F:From} {nt:Nat}
theorem On.next {s t:St} {B:Base} {φ φ':Phi} {a a':Act} {w w':World} (h:On F C nt s B φ a w) (hl:Lies (C.at B) nt φ' t a' w') (hs:Step φ s.hp.get s.nx w φ' t.hp.get t.nx w'):On F C nt t B φ' a' w':=⟨hl,h.step.trans hs,h.grow⟩
theorem CodeF.ofP {c:Code} {st:St} {B:Base} {Q:Ex→St→Base→Prop} {N:AV→St→Prop} (h:CodeP P (C.at B) nt none c st fun e s=>Q e s B):CodeF P C F nt c st B Q N:=by
 obtain⟨e,s,h1,h2⟩:=h
 intro φ a w ho n R hR _
 exact h1 φ a w ho.lies none n rfl R fun φ' a' w' hl hs=>hR e s B φ' a' w' h2 (ho.next hl hs)
theorem CodeF.mono {c:Code} {st:St} {B:Base} {Q Q':Ex→St→Base→Prop} {N N':AV→St→Prop} (h:CodeF P C F nt c st B Q N) (k:∀ e s B,Q e s B→Q' e s B) (l:∀ v s,N v s→N' v s):CodeF P C F nt c st B Q' N' :=
 fun φ a w ho n R hR hN=>h φ a w ho n R (fun e s B' φ' a' w' q=>hR e s B' φ' a' w' (k e s B' q)) fun v v' s φ' a' w' q=>hN v v' s φ' a' w' (l v s q)
theorem CodeF.skip {st:St} {B:Base} {Q:Ex→St→Base→Prop} {N:AV→St→Prop} (h:Q .normal st B):CodeF P C F nt .skip st B Q N:=.ofP (.skip h)
theorem CodeF.exit {id:Nat} {st:St} {B:Base} {Q:Ex→St→Base→Prop} {N:AV→St→Prop} (h:Q (.exit id) st B):CodeF P C F nt (.exit id) st B Q N:=.ofP (.exit h)
theorem CodeF.ret {st:St} {B:Base} {Q:Ex→St→Base→Prop} {N:AV→St→Prop} (h:Q .ret st B):CodeF P C F nt .ret st B Q N:=.ofP (.ret h)
def nextF (k:St→Base→Prop) (Q:Ex→St→Base→Prop):Ex→St→Base→Prop
 | .normal,s,B=>k s B
 | e,s,B=>Q e s B
theorem CodeF.seq {a b:Code} {st:St} {B:Base} {Q:Ex→St→Base→Prop} {N:AV→St→Prop} (h:CodeF P C F nt a st B (nextF (fun s B=>CodeF P C F nt b s B Q N) Q) N):CodeF P C F nt (.seq a b) st B Q N:=by
 intro φ ac w ho n R hR hN
 refine wpIn_seq (h φ ac w ho n _ ?_ ?_)
 ·intro e s B' φ' a' w' q ho'
  cases e with
  | normal=>exact q φ' a' w' ho' n R hR hN
  | _=>exact hR _ s B' φ' a' w' q ho'
 ·intro v v' s φ' a' w' q hv hf
  exact hN v v' s φ' a' w' q hv hf
theorem CodeF.cond {c:Operand} {x y:Code} {st:St} {B:Base} {t:Bool} {Q:Ex→St→Base→Prop} {N:AV→St→Prop} (hc:ev (C.at B) st.tm c=some (.bool t)) (h1:t=true→CodeF P C F nt x st B Q N) (h2:t=false→CodeF P C F nt y st B Q N) :
  CodeF P C F nt (.cond c x y) st B Q N:=by
 intro φ a w ho n R hR hN
 have hb:=ev_rel ho.lies.glob.gl ho.lies.tmps hc
 have hb':a.eval c=.bool t:=by generalize hq:a.eval c=q at hb;cases hb;rfl
 refine wpIn_cond hb' ?_
 cases t
 ·exact h2 rfl φ a w ho n R hR hN
 ·exact h1 rfl φ a w ho n R hR hN
def outF (id:Nat) (Q:Ex→St→Base→Prop):Ex→St→Base→Prop
 | .exit i,s,B=>if i=id then Q .normal s B else Q (.exit i) s B
 | e,s,B=>Q e s B
theorem CodeF.block {id:Nat} {c:Code} {st:St} {B:Base} {Q:Ex→St→Base→Prop} {N:AV→St→Prop} (h:CodeF P C F nt c st B (outF id Q) N):CodeF P C F nt (.block id c) st B Q N:=by
 intro φ a w ho n R hR hN
 refine wpIn_block (h φ a w ho n _ ?_ ?_)
 ·intro e s B' φ' a' w' q ho'
  cases e with
  | exit i =>
   simp only [outF] at q
   simp only [Ex.to,Exit.inBlock]
   split at q
   ·next hi=>rw [if_pos hi];exact hR _ s B' φ' a' w' q ho'
   ·next hi=>rw [if_neg hi];exact hR _ s B' φ' a' w' q ho'
  | _=>exact hR _ s B' φ' a' w' q ho'
 ·intro v v' s φ' a' w' q hv hf
  exact hN v v' s φ' a' w' q hv hf
theorem On.sub (hF:F.Ok) {s t:St} {τ:Nat→Nat} (h:SubR τ s t) (hτ:∀ i,i<F.n→τ i=i) (hn:F.n≤t.nx) (hg:∀ g,C.gs g=true→g<F.n) {B:Base} {φ:Phi} {a:Act} {w:World} (ho:On F C nt s B φ a w):On F C nt t B (pull φ τ t.nx) a w :=
 ⟨h.lies (C:=C.at B) (fun g hgs=>⟨hτ g (hg g hgs),Nat.lt_of_lt_of_le (hg g hgs) hn⟩) ho.lies,h.hp.step ho.step hF.lt hτ hn,ho.grow⟩
theorem CodeF.sub (hF:F.Ok) {c:Code} {s t:St} {B:Base} {Q:Ex→St→Base→Prop} {N:AV→St→Prop} {τ:Nat→Nat} (hs:SubR τ s t) (hτ:∀ i,i<F.n→τ i=i) (hn:F.n≤t.nx) (hg:∀ g,C.gs g=true→g<F.n) (h:CodeF P C F nt c t B Q N):CodeF P C F nt c s B Q N :=
 fun _ a w ho n R hR hN=>h _ a w (ho.sub hF hs hτ hn hg) n R hR hN
theorem CodeF.loop {X:Type} (hF:F.Ok) (hg:∀ g,C.gs g=true→g<F.n) {c:Code} {st:St} {B:Base} {Q:Ex→St→Base→Prop} {N:AV→St→Prop} (S:X→St) (μ:X→Nat) (I:X→Base→Prop) (x0:X) (h0:I x0 B) (hS:∀ x,F.n≤(S x).nx)
  {τ:Nat→Nat} (hs:SubR τ st (S x0)) (hτ:∀ i,i<F.n→τ i=i)
  (h:∀ x B,I x B→CodeF P C F nt c (S x) B (nextF (fun s B'=>∃ x' σ,μ x'<μ x∧I x' B'∧SubR σ s (S x')∧∀ i,i<F.n→σ i=i) Q) N):CodeF P C F nt (.loop c) st B Q N:=by
 intro φ a w ho n R hR hN
 refine wpIn_loop (fun a w=>∃ m x B φ,m=μ x∧I x B∧On F C nt (S x) B φ a w) (fun a w=>few fun m=>∃ x B φ,m=μ x∧I x B∧On F C nt (S x) B φ a w) ⟨_,x0,B,_,rfl,h0,ho.sub hF hs hτ (hS x0) hg⟩ ?_
 intro a1 w1 hex
 obtain⟨⟨x,B1,φ1,hm,hI,ho1⟩,hmin⟩:=few_spec hex
 refine h x B1 hI φ1 a1 w1 ho1 n _ ?_ ?_
 ·intro e s B' φ' a' w' q ho'
  cases e with
  | normal =>
   obtain⟨x',σ,h1,h2,h3,h4⟩:=q
   have ho2:=ho'.sub hF h3 h4 (hS x') hg
   refine⟨⟨_,x',B',_,rfl,h2,ho2⟩,?_⟩
   have:=(few_spec (p:=fun m=>∃ x B φ,m=μ x∧I x B∧On F C nt (S x) B φ a' w') ⟨_,x',B',_,rfl,h2,ho2⟩).2 _ ⟨x',B',_,rfl,h2,ho2⟩
   omega
  | _=>exact hR _ s B' φ' a' w' q ho'
 ·intro v v' s φ' a' w' q hv hf
  exact hN v v' s φ' a' w' q hv hf
end
section
variable {P:Program} {C:Ctx} {F:From} {nt:Nat}
def OpF (P:Program) (C:Ctx) (F:From) (nt:Nat) (o:Oper) (st:St) (B:Base) (K:St→Base→Prop) (N:AV→St→Prop):Prop :=
 ∀ (φ:Phi) (a:Act) (w:World),On F C nt st B φ a w→∀ (n:Nat) (next:Act→World→Prop) (R:Exit→Act→World→Prop),
  (∀ s B' φ' a' w',K s B'→On F C nt s B' φ' a' w'→next a' w') →
  (∀ v v' s φ' a' w',N v s→VRel φ' v v'→Off F s φ' a' w'→R (.panic [{ v:=v',recovered:=false }]) a' w')→o.wpIn (Fw none) n P a w next R
theorem OpF.mono {o:Oper} {st:St} {B:Base} {K K':St→Base→Prop} {N:AV→St→Prop} (h:OpF P C F nt o st B K N) (k:∀ s B,K s B→K' s B):OpF P C F nt o st B K' N :=
 fun φ a w ho n next R hK hN=>h φ a w ho n next R (fun s B' φ' a' w' q=>hK s B' φ' a' w' (k s B' q)) hN
theorem OpF.op {o:Oper} {st:St} {B:Base} {K:St→Base→Prop} {N:AV→St→Prop} (hd:dstOk nt o.dst) {v:AV} {hp:T Obj} {nx:Nat} (h:OpOK P (C.at B) o st.tm st.hp.get st.nx v hp.get nx) (hK:K ⟨putT st.tm o.dst v,hp,nx,st.df⟩ B):OpF P C F nt o st B K N:=by
 intro φ a w ho n next R hn _
 refine h φ w a ho.lies.rel ho.lies.glob ho.lies.tmps none n next R fun φ' v' w' h1 h2 h3=>?_
 exact hn _ B φ' _ w' hK (ho.next (t:=⟨putT st.tm o.dst v,hp,nx,st.df⟩) ⟨h2,ho.lies.glob.step h3,(ho.lies.tmps.mono h3.le).put ho.lies.size hd h1,by rw [put_size];exact ho.lies.size,by rw [put_defers];exact ho.lies.defers.mono h3.le⟩ h3)
theorem OpF.panic {o:Oper} {x:Operand} {st:St} {B:Base} {K:St→Base→Prop} {N:AV→St→Prop} (ho:o.op=.panic x) {t:Nat} {u:AV} (hx:ev (C.at B) st.tm x=some (.iface t u)) (hN:N (.iface t u) st):OpF P C F nt o st B K N:=by
 intro φ a w hon n next R _ hp
 have hv:=ev_rel hon.lies.glob.gl hon.lies.tmps hx
 refine wpIn_fw (fun c q=>by rw [ho] at q;cases q) ?_
 generalize hq:a.eval x=q at hv
 cases hv with
 | @iface _ _ u' hu =>
  have hrun:(execOp a.eval o).run P w=.halt (.panic (.iface t u')) w:=by
   simp only [execOp,ho,hq];rfl
  rw [hrun,Oper.uponIn_panic]
  exact hp _ _ st φ a w hN (.iface t hu) ⟨hon.lies.rel,hon.step,hon.lies.defers,hon.lies.tmps⟩
def CallZ (P:Program) (C:Ctx) (B:Base) (f:FuncId) (args:List AV) (hp:T Obj) (nx:Nat) (K:Base→AV→T Obj→Nat→Prop) (N:AV→T Obj→Nat→Prop):Prop :=
 Enters P f∧CallG P C B f args hp.get nx (fun B' v H n=>∃ hp':T Obj,H=hp'.get∧K B' v hp' n) (fun v H n=>∃ hp':T Obj,H=hp'.get∧N v hp' n)
theorem OpF.call {o:Oper} {c:Call} {x:Operand} {f:FuncId} {first cap args:List AV} {st:St} {B:Base} {K:St→Base→Prop} {N:AV→St→Prop} (hd:dstOk nt o.dst) (ho:o.op=.call c) (hc:c.callee=.value x)
  (hx:ev (C.at B) st.tm x=some (.fn (.func f) first cap)) (hargs:evs (C.at B) st.tm c.args.toList=some args)
  (h:CallZ P C B f (first++args++cap) st.hp st.nx (fun B' v hp nx=>K ⟨putT st.tm o.dst v,hp,nx,st.df⟩ B') (fun v hp nx=>N v ⟨st.tm,hp,nx,st.df⟩)):OpF P C F nt o st B K N:=by
 intro φ a w hon n next R hn hp
 have hb:=ev_rel hon.lies.glob.gl hon.lies.tmps hx
 have hl:=evs_rel hon.lies.glob.gl hon.lies.tmps hargs
 refine wpIn_fw (fun c hc=>by rw [ho] at hc;cases hc) ?_
 generalize hq:a.eval x=q at hb
 cases hb with
 | @fn _ _ _ x' y' hx' hy' =>
  have hrun:(execOp a.eval o).run P w=.ok (.enter f (x'++c.args.map a.eval++y')) w:=by
   simp only [execOp,ho,Sem.run_bind,resolve,hc,Deferred.ofValue,hq,Sem.run_pure,Result.andThen_ok,invoke]
   exact h.1 _ _
  rw [hrun,Oper.uponIn_enter]
  refine⟨fun q=>by simp [Fw,Fence.wide] at q,callsIn_fw ((h.2 φ w (x'++c.args.map a.eval++y') hon.lies.rel hon.lies.glob ?_).mono ?_)⟩
  ·simp only [Array.toList_append,Array.toList_map]
   exact(hx'.append hl).append hy'
  ·rintro e w' ⟨φ',v,v',H',nx',h1,h2,h3,h4⟩
   rcases h4 with⟨rfl,B',⟨hp',rfl,hK⟩,hB,hG⟩|⟨rfl,hp',rfl,hN⟩
   ·refine hn _ B' φ' _ w' hK ⟨⟨h2,hB,(hon.lies.tmps.mono h3.le).put hon.lies.size hd h1,by rw [put_size];exact hon.lies.size,by rw [put_defers];exact hon.lies.defers.mono h3.le⟩,hon.step.trans h3,hon.grow.trans hG hon.step.keeps.size⟩
   ·exact hp v v' _ φ' a w' hN h1 ⟨h2,hon.step.trans h3,hon.lies.defers.mono h3.le,hon.lies.tmps.mono h3.le⟩
theorem OpF.off {o:Oper} {c:Call} {x:Operand} {f:FuncId} {first cap args:List AV} {st:St} {B:Base} {K:St→Base→Prop} {N:AV→St→Prop} (hd:dstOk nt o.dst) (ho:o.op=.defer c) (hc:c.callee=.value x)
  (hx:ev (C.at B) st.tm x=some (.fn (.func f) first cap)) (hargs:evs (C.at B) st.tm c.args.toList=some args)
  (hK:K { st with tm:=putT st.tm o.dst undefA,df:=.call f (first++args) cap::st.df } B):OpF P C F nt o st B K N:=by
 intro φ a w hon n next R hn _
 obtain⟨d,h1,h2⟩:=defer_ok (P:=P) (w:=w) ho hc hon.lies.glob.gl hon.lies.tmps hx hargs
 refine⟨fun _ _=>trivial,?_⟩
 have hsem:(o.semAt (Fw none).round a.eval).run P w=.ok (.defer d) w:=h1
 rw [hsem,Oper.uponIn_defer]
 refine hn _ B φ _ w hK ⟨⟨hon.lies.rel,hon.lies.glob,?_,by rw [put_size];exact hon.lies.size,by rw [put_defers];exact .cons h2 hon.lies.defers⟩,hon.step,hon.grow⟩
 exact TRel.put (a:={ a with defers:=d::a.defers }) hon.lies.tmps hon.lies.size hd undef_rel
def OpsF (P:Program) (C:Ctx) (F:From) (nt:Nat) (N:AV→St→Prop) (ops:List Oper):List Oper→St→Base→(St→Base→Prop)→Prop
 | [],st,B,K=>K st B
 | o::l,st,B,K=>dstOk nt o.dst∧((wantedA ops st.tm o=some false∧OpsF P C F nt N ops l { st with tm:=putT st.tm o.dst undefA } B K)∨(wantedA ops st.tm o=some true∧OpF P C F nt o st B (fun s B'=>OpsF P C F nt N ops l s B' K) N))
theorem opsF_sound {N:AV→St→Prop} {ops:Array Oper}:∀ {l:List Oper} {st:St} {B:Base} {K:St→Base→Prop},OpsF P C F nt N ops.toList l st B K→∀ (i:Nat),ops.toList.drop i=l→∀ (φ:Phi) (a:Act) (w:World),On F C nt st B φ a w →
  ∀ (n:Nat) (R:Exit→Act→World→Prop),(∀ s B' φ' a' w',K s B'→On F C nt s B' φ' a' w'→R .normal a' w') →
  (∀ v v' s φ' a' w',N v s→VRel φ' v v'→Off F s φ' a' w'→R (.panic [{ v:=v',recovered:=false }]) a' w')→wpOpsIn (Fw none) n P ops R (List.range' i l.length) a w:=by
 intro l
 induction l with
 | nil=>intro st B K h i hi φ a w hon n R hn _;exact hn st B φ a w h hon
 | cons o l ih =>
  intro st B K h i hi φ a w hon n R hn hp
  have ho:ops[i]?=some o:=by
   rw [← Array.getElem?_toList]
   have:=congrArg (fun l:List Oper=>l[0]?) hi
   simpa [List.getElem?_drop] using this
  have hi':ops.toList.drop (i+1)=l:=by
   have:=congrArg (fun l:List Oper=>l.drop 1) hi
   simpa [List.drop_drop,Nat.add_comm] using this
  rw [List.length_cons,List.range'_succ,wpOpsIn_cons]
  obtain⟨hd,⟨hw,h⟩|⟨hw,h⟩⟩:=h
  ·simp only [wpOpIn,ho,wanted_ok hon.lies.tmps hw,Bool.false_eq_true,if_false]
   refine⟨fun _ _=>trivial,ih h (i+1) hi' φ (a.put o.dst undef) w ⟨⟨hon.lies.rel,hon.lies.glob,hon.lies.tmps.put hon.lies.size hd undef_rel,by rw [put_size];exact hon.lies.size,by rw [put_defers];exact hon.lies.defers⟩,hon.step,hon.grow⟩ n R hn hp⟩
  ·simp only [wpOpIn,ho,wanted_ok hon.lies.tmps hw,if_true]
   exact h φ a w hon n _ R (fun s B' φ' a' w' q hon'=>ih q (i+1) hi' φ' a' w' hon' n R hn hp) hp
theorem CodeF.region {id:Nat} {ops:Array Oper} {st:St} {B:Base} {Q:Ex→St→Base→Prop} {N:AV→St→Prop} (h:OpsF P C F nt N ops.toList ops.toList st B fun s B'=>Q .normal s B'):CodeF P C F nt (.region id ops false) st B Q N:=by
 intro φ a w ho n R hR hN
 refine wpIn_region ?_
 have:=opsF_sound h 0 rfl φ a w ho n R (fun s B' φ' a' w' q ho'=>hR .normal s B' φ' a' w' q ho') hN
 rw [Array.length_toList] at this
 rwa [List.range_eq_range']
end
structure Sf where
 sy:Base→Sy
 call:Base→FuncId→List AV→T Obj→Nat→(Base→AV→T Obj→Nat→Prop)→(AV→T Obj→Nat→Prop)→Prop
 code:Base→Code→St→(Ex→St→Base→Prop)→Prop
section
variable (G:Sf) (C:Ctx) (nt:Nat) (N:AV→St→Prop)
noncomputable def fOp (B:Base) (o:Oper) (st:St) (K:St→Base→Prop):Prop :=
 match o.op with
 | .panic x=>match ev (C.at B) st.tm x with
  | some (.iface t v)=>N (.iface t v) st
  | _=>False
 | .call c=>match c.callee with
  | .value x=>match ev (C.at B) st.tm x,evs (C.at B) st.tm c.args.toList with
   | some (.fn (.func f) first cap),some args=>G.call B f (first++args++cap) st.hp st.nx (fun B' v hp nx=>K ⟨putT st.tm o.dst v,hp,nx,st.df⟩ B') (fun v hp nx=>N v ⟨st.tm,hp,nx,st.df⟩)
   | _,_=>wpOp (G.sy B) (C.at B) o st fun v hp nx=>K ⟨putT st.tm o.dst v,hp,nx,st.df⟩ B
  | _=>wpOp (G.sy B) (C.at B) o st fun v hp nx=>K ⟨putT st.tm o.dst v,hp,nx,st.df⟩ B
 | .defer c=>match c.callee with
  | .value x=>match ev (C.at B) st.tm x,evs (C.at B) st.tm c.args.toList with
   | some (.fn (.func f) first cap),some args=>K { st with tm:=putT st.tm o.dst undefA,df:=.call f (first++args) cap::st.df } B
   | _,_=>False
  | _=>False
 | .convert _ _ x=>match ev (C.at B) st.tm x with
  | some (.sl ..)=>(G.sy B).op o st fun v hp nx=>K ⟨putT st.tm o.dst v,hp,nx,st.df⟩ B
  | _=>wpOp (G.sy B) (C.at B) o st fun v hp nx=>K ⟨putT st.tm o.dst v,hp,nx,st.df⟩ B
 | _=>wpOp (G.sy B) (C.at B) o st fun v hp nx=>K ⟨putT st.tm o.dst v,hp,nx,st.df⟩ B
noncomputable def fOps (ops:List Oper):List Oper→St→Base→(St→Base→Prop)→Prop
 | [],st,B,K=>K st B
 | o::l,st,B,K=>match dstB nt o.dst with
  | false=>False
  | true=>match wantedA ops st.tm o with
   | some true=>fOp G C N B o st fun s B'=>fOps ops l s B' K
   | some false=>fOps ops l { st with tm:=putT st.tm o.dst undefA } B K
   | none=>False
def hasCall:List Oper→Bool
 | []=>false
 | o::l=>match o.op with
  | .call c=>match c.callee with
   | .value _=>true
   | _=>hasCall l
  | _=>hasCall l
noncomputable def fC:Code→St→Base→(Ex→St→Base→Prop)→Prop
 | .skip,st,B,Q=>Q .normal st B
 | .exit id,st,B,Q=>Q (.exit id) st B
 | .ret,st,B,Q=>Q .ret st B
 | .region id ops draw,st,B,Q=>match draw with
  | false=>fOps G C nt N ops.toList ops.toList st B fun st B=>Q .normal st B
  | true=>match hasCall ops.toList with
   | true=>G.code B (.region id ops true) st Q
   | false=>wpDraw (G.sy B) (C.at B) nt ops.toList st fun st=>Q .normal st B
 | .seq a b,st,B,Q=>fC a st B fun e s B=>match e with
  | .normal=>fC b s B Q
  | .exit i=>Q (.exit i) s B
  | .goto i=>Q (.goto i) s B
  | .ret=>Q .ret s B
 | .cond c a b,st,B,Q=>match ev (C.at B) st.tm c with
  | some (.bool t)=>match t with
   | true=>fC a st B Q
   | false=>fC b st B Q
  | _=>False
 | .block id c,st,B,Q=>fC c st B fun e s B=>match e with
  | .exit i=>match Nat.beq i id with
   | true=>Q .normal s B
   | false=>Q (.exit i) s B
  | .normal=>Q .normal s B
  | .goto i=>Q (.goto i) s B
  | .ret=>Q .ret s B
 | c,st,B,Q=>G.code B c st Q
end
section
variable {P:Program} {C:Ctx} {F:From} {nt:Nat} {N:AV→St→Prop} {G:Sf}
structure SfR (P:Program) (C:Ctx) (F:From) (nt:Nat) (N:AV→St→Prop) (G:Sf):Prop where
 sy:∀ B,SyR P (C.at B) nt none (G.sy B)
 call:∀ B f args hp nx K N,G.call B f args hp nx K N→CallZ P C B f args hp nx K N
 code:∀ B c st Q,G.code B c st Q→CodeF P C F nt c st B Q N
theorem At.ok (hP:ProgOk P C) (B:Base):ProgOk P (C.at B):=⟨fun t ti h=>hP.ctx t ti h,hP.mixed,fun f fn h=>hP.ft f fn h⟩
theorem fOp_ok (hP:ProgOk P C) (hG:SfR P C F nt N G) {B:Base} {o:Oper} {st:St} {K:St→Base→Prop} (hd:dstOk nt o.dst) (h:fOp G C N B o st K):OpF P C F nt o st B K N:=by
 have hw:wpOp (G.sy B) (C.at B) o st (fun v hp nx=>K ⟨putT st.tm o.dst v,hp,nx,st.df⟩ B)→OpF P C F nt o st B K N:=fun q =>
  let ⟨_,_,_,h1,h2⟩:=wpOp_ok (At.ok hP B).ctx (hG.sy B) q
  .op hd h1 h2
 unfold fOp at h
 split at h
 ·next x ho =>
  split at h
  ·next t v hx=>exact .panic ho hx h
  ·exact h.elim
 ·next c ho =>
  split at h
  ·next x hc =>
   split at h
   ·next f first cap args hx ha=>exact .call hd ho hc hx ha (hG.call _ _ _ _ _ _ _ h)
   ·exact hw h
  ·exact hw h
 ·next c ho =>
  split at h
  ·next x hc =>
   split at h
   ·next f first cap args hx ha=>exact .off hd ho hc hx ha h
   ·exact h.elim
  ·exact h.elim
 ·next x ho =>
  split at h
  ·obtain⟨_,_,_,h1,h2⟩:=(hG.sy B).op _ _ _ h
   exact .op hd h1 h2
  ·exact hw h
 ·exact hw h
theorem fOps_ok (hP:ProgOk P C) (hG:SfR P C F nt N G) {ops:List Oper}:∀ {l:List Oper} {st:St} {B:Base} {K:St→Base→Prop},fOps G C nt N ops l st B K→OpsF P C F nt N ops l st B K:=by
 intro l
 induction l with
 | nil=>intro st B K h;exact h
 | cons o l ih =>
  intro st B K h
  unfold fOps at h
  split at h
  ·exact h.elim
  ·next hd =>
   refine⟨dstB_ok hd,?_⟩
   split at h
   ·next hw=>exact .inr ⟨hw,(fOp_ok hP hG (dstB_ok hd) h).mono fun s B q=>ih q⟩
   ·next hw=>exact .inl ⟨hw,ih h⟩
   ·exact h.elim
theorem fC_ok (hP:ProgOk P C) (hG:SfR P C F nt N G):∀ {c:Code} {st:St} {B:Base} {Q:Ex→St→Base→Prop},fC G C nt N c st B Q→CodeF P C F nt c st B Q N:=by
 intro c
 induction c with
 | skip=>intro st B Q h;exact .skip h
 | exit id=>intro st B Q h;exact .exit h
 | ret=>intro st B Q h;exact .ret h
 | region id ops draw =>
  intro st B Q h
  cases draw with
  | false=>exact .region (fOps_ok hP hG h)
  | true =>
   unfold fC at h
   simp only at h
   split at h
   ·exact hG.code _ _ _ _ h
   ·obtain⟨st',h1,h2⟩:=wpDraw_ok (At.ok hP B) (hG.sy B) h
    exact .ofP ⟨_,_,h1 id,h2⟩
 | seq a b iha ihb =>
  intro st B Q h
  refine .seq ((iha h).mono (fun e s B q=>?_) fun _ _ q=>q)
  cases e with
  | normal=>exact ihb q
  | _=>exact q
 | cond c a b iha ihb =>
  intro st B Q h
  unfold fC at h
  split at h
  ·next t ht =>
   refine .cond ht (fun e=>?_) (fun e=>?_)
   ·subst e;exact iha h
   ·subst e;exact ihb h
  ·exact h.elim
 | block id c ih =>
  intro st B Q h
  refine .block ((ih h).mono (fun e s B q=>?_) fun _ _ q=>q)
  cases e with
  | exit i =>
   simp only [outF]
   simp only at q
   split at q
   ·next hi=>rw [if_pos (Nat.eq_of_beq_eq_true hi)];exact q
   ·next hi=>rw [if_neg (fun e=>by rw [e] at hi;simp at hi)];exact q
  | _=>exact q
 | _=>intros;exact hG.code _ _ _ _ (by assumption)
end
def Vs (c:List AV) (l:List Value):Prop:=c=l.map .val∧oneAll l=true
theorem Vs.length {c:List AV} {l:List Value} (h:Vs c l):c.length=l.length:=by rw [h.1];simp
theorem Vs.lt {c:List AV} {l:List Value} (h:Vs c l) (n:Nat):AV.ltIds n c=true:=by
 rw [h.1];clear h
 induction l with
 | nil=>rfl
 | cons x l ih=>simp only [List.map_cons,AV.ltIds,AV.ltId,ih]
theorem Vs.rens {c:List AV} {l:List Value} (h:Vs c l) (τ:Nat→Nat):AV.rens τ c=c:=by
 rw [h.1];clear h
 induction l with
 | nil=>rfl
 | cons x l ih=>simp only [List.map_cons,AV.rens,AV.ren,ih]
theorem Vs.ltB {c:List AV} {l:List Value} (h:Vs c l) (n z:Nat):Obj.ltB n (.cells c z)=true:=h.lt n
theorem Vs.ow {c:List AV} {l:List Value} (h:Vs c l) (τ:Nat→Nat) (z:Nat):OW (.cells c z) ((Obj.cells c z).ren τ):=by
 rw [Obj.ren,h.rens];exact .refl _
theorem Vs.of {l:List Value} (h:oneAll l=true):∃ c,Vs c l:=⟨_,rfl,h⟩
theorem Vs.append {c d:List AV} {l m:List Value} (h:Vs c l) (k:Vs d m):Vs (c++d) (l++m):=by
 refine⟨by rw [h.1,k.1];simp,?_⟩
 have h1:=h.2;have h2:=k.2
 clear h k
 induction l with
 | nil=>exact h2
 | cons x l ih =>
  simp only [oneAll] at h1
  split at h1
  ·next q=>simp only [List.cons_append,oneAll,q];exact ih h1
  ·simp at h1
def tauF:List (Nat×Nat)→Nat→Nat
 | [],i=>i
 | e::l,i=>match Nat.beq e.1 i with|true=>e.2|false=>tauF l i
def tauB (n:Nat):List (Nat×Nat)→Bool
 | []=>true
 | e::l=>match Nat.ble n e.1 with|true=>tauB n l|false=>false
theorem tauF_lt {n i:Nat}:∀ {l:List (Nat×Nat)},tauB n l=true→i<n→tauF l i=i
 | [],_,_=>rfl
 | e::l,h,hi=>by
  unfold tauB at h
  split at h
  ·next q =>
   have:=Nat.le_of_ble_eq_true q
   unfold tauF
   split
   ·next q2=>have:=Nat.eq_of_beq_eq_true q2;omega
   ·exact tauF_lt h hi
  ·simp at h
def tmL (τ:Nat→Nat) (n:Nat) (s:T AV):List (Nat×AV)→Prop
 | []=>True
 | e::l=>(AV.ltId n e.2=true∧∃ u,s.get e.1=some u∧VW u (e.2.ren τ))∧tmL τ n s l
def hpL (τ:Nat→Nat) (n:Nat) (H:T Obj):List (Nat×Obj)→Prop
 | []=>True
 | e::l=>(Nat.blt e.1 n=true∧e.2.ltB n=true∧e.2.easy=true∧∃ y,H.get (τ e.1)=some y∧OW y (e.2.ren τ))∧hpL τ n H l
def freshB (τ:Nat→Nat) (i:Nat):List (Nat×Obj)→Bool
 | []=>true
 | e::l=>match Nat.beq (τ e.1) (τ i) with|true=>false|false=>freshB τ i l
def injB (τ:Nat→Nat):List (Nat×Obj)→Bool
 | []=>true
 | e::l=>match freshB τ e.1 l with|true=>injB τ l|false=>false
theorem tmL_mem {τ:Nat→Nat} {n:Nat} {s:T AV}:∀ {l:List (Nat×AV)},tmL τ n s l→∀ e∈l,AV.ltId n e.2=true∧∃ u,s.get e.1=some u∧VW u (e.2.ren τ)
 | [],_,e,he=>by cases he
 | x::l,h,e,he=>by
  rcases List.mem_cons.1 he with rfl|he
  ·exact h.1
  ·exact tmL_mem h.2 e he
theorem hpL_mem {τ:Nat→Nat} {n:Nat} {s:T Obj}:∀ {l:List (Nat×Obj)},hpL τ n s l→∀ e∈l,Nat.blt e.1 n=true∧e.2.ltB n=true∧e.2.easy=true∧∃ y,s.get (τ e.1)=some y∧OW y (e.2.ren τ)
 | [],_,e,he=>by cases he
 | x::l,h,e,he=>by
  rcases List.mem_cons.1 he with rfl|he
  ·exact h.1
  ·exact hpL_mem h.2 e he
theorem freshB_mem {τ:Nat→Nat} {i:Nat}:∀ {l:List (Nat×Obj)},freshB τ i l=true→∀ e∈l,τ e.1≠τ i
 | [],_,e,he=>by cases he
 | x::l,h,e,he=>by
  unfold freshB at h
  split at h
  ·simp at h
  ·next q =>
   rcases List.mem_cons.1 he with rfl|he
   ·intro e2;rw [e2] at q;simp at q
   ·exact freshB_mem h e he
theorem injB_mem {τ:Nat→Nat}:∀ {l:List (Nat×Obj)},injB τ l=true→∀ e∈l,∀ f∈l,τ e.1=τ f.1→e=f
 | [],_,e,he=>by cases he
 | x::l,h,e,he=>by
  unfold injB at h
  split at h
  ·next q =>
   intro f hf heq
   rcases List.mem_cons.1 he with rfl|he2<;>rcases List.mem_cons.1 hf with rfl|hf2
   ·rfl
   ·exact(freshB_mem q f hf2 heq.symm).elim
   ·exact(freshB_mem q e he2 heq).elim
   ·exact injB_mem h e he2 f hf2 heq
  ·simp at h
theorem hsub_mk {τ:Nat→Nat} {n:Nat} {H:T Obj} {hl:List (Nat×Obj)} (h:hpL τ n H hl) (hi:injB τ hl=true):HSub τ n H.get (mkT hl).get where
 get i o hio:=by
  obtain⟨h1,h2,h3,h4⟩:=hpL_mem h _ (mkT_get hio)
  exact⟨blt_lt h1,h2,h3,h4⟩
 inj i j a b hi' hj' e:=by
  have:=injB_mem hi _ (mkT_get hi') _ (mkT_get hj') e
  simp only [Prod.mk.injEq] at this
  exact this.1
theorem subr_mk {τ:Nat→Nat} {s:St} {tl:List (Nat×AV)} {hl:List (Nat×Obj)} {n:Nat} (h1:tmL τ n s.tm tl) (h2:hpL τ n s.hp hl) (hi:injB τ hl=true) (hd:s.df=[]):SubR τ s (mkS tl hl n) :=
 ⟨fun x _ h=>tmL_mem h1 (x,_) (mkT_get h),hsub_mk h2 hi,hd,rfl⟩
theorem rtl {P:Prop} (h:P:=by repeat'(first|exact trivial|refine⟨⟨rfl,_,rfl,?_⟩,?_⟩|exact .refl _|exact .val _ rfl rfl|exact .agg (by repeat'(first|exact .nil|refine .cons ?_ ?_|exact .refl _|exact .val _ rfl rfl)))):P:=h
theorem hpl {P:Prop} (h:P:=by repeat'(first|exact trivial|refine⟨⟨rfl,rfl,rfl,_,rfl,?_⟩,?_⟩|refine⟨⟨rfl,Vs.ltB (by assumption) _ _,rfl,_,rfl,Vs.ow (by assumption) _ _⟩,?_⟩|exact .refl _|exact .cells (by repeat'(first|exact .nil|refine .cons ?_ ?_|exact .refl _|exact .val _ rfl rfl)))):P:=h
section
variable {P:Program} {C:Ctx}
def ExitR (C:Ctx) (F:From) (B:Base) (v:AV) (hp:T Obj) (nx:Nat) (Rt:Base→AV→T Obj→Nat→Prop):Prop :=
 ∀ (φ:Phi) (w:World) (v':Value),Rel φ hp.get nx w→BOk (C.at B) φ hp.get w→Step F.φ F.H F.n F.w φ hp.get nx w→Grows F.w.heap.size F.B B→VRel φ v v' →
  ∃ φ2 v2 hp2 n2 B2,VRel φ2 v2 v'∧Rel φ2 (T.get hp2) n2 w∧Step F.φ F.H F.n F.w φ2 (T.get hp2) n2 w∧BOk (C.at B2) φ2 (T.get hp2) w∧Grows F.w.heap.size F.B B2∧Rt B2 v2 hp2 n2
theorem ExitR.done {F:From} {B:Base} {v:AV} {hp:T Obj} {nx:Nat} {Rt:Base→AV→T Obj→Nat→Prop} (h:Rt B v hp nx):ExitR C F B v hp nx Rt :=
 fun φ _ _ hr hb hs hg hv=>⟨φ,v,hp,nx,B,hv,hr,hs,hb,hg,h⟩
theorem ExitR.sub {F:From} (hF:F.Ok) {B:Base} {v v2:AV} {hp:T Obj} {nx n2:Nat} {hl:List (Nat×Obj)} {Rt:Base→AV→T Obj→Nat→Prop} {τ:Nat→Nat} (hs:HSub τ n2 hp.get (mkT hl).get) (hτ:∀ i,i<F.n→τ i=i) (hn:F.n≤n2)
  (hg:∀ g,C.gs g=true→g<F.n) (hlt:v2.ltId n2=true) (hv:VW v (v2.ren τ)) (h:ExitR C F B v2 (mkT hl) n2 Rt):ExitR C F B v hp nx Rt:=by
 intro φ w v' hr hb hst hgr hvv
 exact h (pull φ τ n2) w v' (hs.rel hr) (hs.base (C:=C.at B) hb fun g hgs=>⟨hτ g (hg g hgs),Nat.lt_of_lt_of_le (hg g hgs) hn⟩) (hs.step hst hF.lt hτ hn) hgr ((hv.rel hvv).unren (fun i hi=>pull_lt hi) hlt)
def Base.plus (B:Base) (b:Nat) (o:Go.Obj):Base:=fun k=>if k=b then some o else B k
theorem crel_vals {φ:Phi} {w:World} {b o:Nat} {c:List AV} {l:List Value} (hc:Vs c l) (h:CRel φ w b o c):∀ (j:Nat) (v:Value),l[j]?=some v→w.cell? ⟨b,o+j,none⟩=some v:=by
 intro j v hj
 obtain⟨v',h1,h2⟩:=h j (.val v) (by rw [hc.1];simp [hj])
 rw [h1,val_inv h2]
theorem ExitR.freeze {F:From} {B:Base} {xs:List AV} {id len cap sz fz:Nat} {ex:Bool} {c:List AV} {l:List Value} {hp:T Obj} {nx:Nat} {Rt:Base→AV→T Obj→Nat→Prop} (hid:hp.get id=some (.cells c fz)) (hc:Vs c l) (hl:l≠[]) (Hn:len≠0)
  (hfr:∀ i o,F.H i=some o→o.own=true→i≠id∧∃ y,hp.get i=some y)
  (k:∀ (B2:Base) (b o cp:Nat),(∀ k x,B k=some x→B2 k=some x)→CellsB B2 ⟨b,o,none⟩ l→ExitR C F B2 (.agg (xs++[.val (.slice (some ⟨b,o,none⟩) len cp)])) (hp.del id) nx Rt) :
  ExitR C F B (.agg (xs++[.sl id 0 len cap ex sz])) hp nx Rt:=by
 intro φ w v' hr hb hst hgr hv
 obtain⟨lc,h1,h2⟩:=hr.dom id _ hid
 cases h2 with
 | @cells _ _ b o N hN hcr hf =>
  obtain⟨v0,hv0⟩:∃ v0,l[0]?=some v0:=by cases l with|nil=>exact(hl rfl).elim|cons x l=>exact⟨x,rfl⟩
  have hcell:=crel_vals hc hcr
  obtain⟨arr,e,fz',hblk⟩:∃ arr e fz',w.heap[b]?=some (.cells arr e fz'):=by
   have:=hcell 0 v0 hv0
   simp only [World.cell?] at this
   split at this
   ·next arr e fz' hb=>exact⟨arr,e,fz',hb⟩
   ·simp at this
  have hown:OwnB φ hp.get b:=⟨id,_,_,hid,rfl,h1,rfl⟩
  have hbB:∀ x,B b≠some x:=fun x hx=>(hb.base b x hx).2 hown
  have hnew:F.w.heap.size≤b:=by
   rcases Nat.lt_or_ge b F.w.heap.size with q|q
   ·exfalso
    obtain⟨i,x,m,g1,g2,g3,g4⟩:=hst.own b q hown
    obtain⟨g5,y,g6⟩:=hfr i x g1 g2
    exact hr.sep id i _ y _ m hid g6 (Ne.symm g5) rfl h1 (hst.le _ _ g3) g4.symm
   ·exact q
  have hdel:∀ i x,(hp.del id).get i=some x→i≠id∧hp.get i=some x:=by
   intro i x hi
   rw [T.get_del] at hi
   split at hi
   ·cases hi
   ·next q=>exact⟨Ne.symm q,hi⟩
  have hle:∀ k x,B k=some x→(B.plus b (.cells arr e fz')) k=some x:=by
   intro k x hk
   unfold Base.plus
   split
   ·next q=>subst q;exact(hbB _ hk).elim
   ·exact hk
  have hvv:∃ xs' cp,v'=.agg xs'∧VRels φ (xs++[.val (.slice (some ⟨b,o,none⟩) len cp)]) xs'.toList:=by
   cases hv with
   | @agg _ x' hx =>
    obtain⟨ys,z,q1,q2,q3⟩:∃ ys z,x'.toList=ys++[z]∧VRels φ xs ys∧VRel φ (.sl id 0 len cap ex sz) z:=by
     generalize x'.toList=q at hx
     clear k hc hcr hcell
     induction xs generalizing q with
     | nil =>
      cases hx with
      | cons h t=>cases t;exact⟨[],_,rfl,.nil,h⟩
     | cons a xs ih =>
      cases hx with
      | cons h t =>
       obtain⟨ys,z,g1,g2,g3⟩:=ih _ t
       exact⟨_::ys,z,by rw [g1];rfl,.cons h g2,g3⟩
    cases q3 with
    | @sl _ _ _ _ _ b2 o2 N2 cp _ g1 g2 g3 g4 g5 =>
     rw [h1] at g1;cases g1
     exact⟨x',cp,rfl,by rw [q1];exact q2.append (.cons (.val _ rfl) .nil)⟩
    | sl0=>exact(Hn rfl).elim
  obtain⟨xs',cp,rfl,hxs⟩:=hvv
  refine k (B.plus b (.cells arr e fz')) b o cp hle ⟨rfl,arr,e,fz',if_pos rfl,fun j v hj=>?_⟩ φ w _ ?_ ?_ ?_ ?_ (.agg hxs)
  ·have:=hcell j v hj
   simp only [World.cell?,hblk] at this
   simpa using this
  ·exact⟨hr.lt,hr.shp,fun i x hi=>hr.dom i x (hdel i x hi).2,fun i j a b l m hi hj hne ho hl hm=>hr.sep i j a b l m (hdel i a hi).2 (hdel j b hj).2 hne ho hl hm⟩
  ·refine⟨hb.gl,fun k x hk=>?_⟩
   unfold Ctx.at Base.plus at hk
   simp only at hk
   split at hk
   ·next q =>
    subst q;cases hk
    refine⟨hblk,?_⟩
    rintro⟨i,x,m,g1,g2,g3,g4⟩
    obtain⟨g5,g6⟩:=hdel i x g1
    exact hr.sep i id x _ m _ g6 hid g5 g2 g3 h1 g4
   ·obtain⟨g1,g2⟩:=hb.base k x hk
    exact⟨g1,fun⟨i,x,m,q1,q2,q3,q4⟩=>g2 ⟨i,x,m,(hdel i x q1).2,q2,q3,q4⟩⟩
  ·exact⟨hst.grow,hst.born,hst.le,hst.keeps,fun k hk ⟨i,x,m,q1,q2,q3,q4⟩=>hst.own k hk ⟨i,x,m,(hdel i x q1).2,q2,q3,q4⟩,fun k hk ⟨i,x,m,q1,q3,q4⟩=>hst.live k hk ⟨i,x,m,(hdel i x q1).2,q3,q4⟩⟩
  ·refine⟨fun k x hk=>hle k x (hgr.le k x hk),fun k x hk=>?_⟩
   unfold Base.plus at hk
   split at hk
   ·next q=>subst q;exact .inr hnew
   ·exact hgr.new k x hk
def PanicR (F:From) (v:AV) (hp:T Obj) (nx:Nat) (Pn:AV→T Obj→Nat→Prop):Prop :=
 ∀ (φ:Phi) (w:World) (v':Value),Rel φ hp.get nx w→Step F.φ F.H F.n F.w φ hp.get nx w→VRel φ v v' →
  ∃ φ2 v2 hp2 n2,VRel φ2 v2 v'∧Rel φ2 (T.get hp2) n2 w∧Step F.φ F.H F.n F.w φ2 (T.get hp2) n2 w∧Pn v2 hp2 n2
theorem PanicR.sub {F:From} (hF:F.Ok) {v v2:AV} {hp:T Obj} {nx n2:Nat} {hl:List (Nat×Obj)} {Pn:AV→T Obj→Nat→Prop} {τ:Nat→Nat} (hs:HSub τ n2 hp.get (mkT hl).get) (hτ:∀ i,i<F.n→τ i=i) (hn:F.n≤n2)
  (hlt:v2.ltId n2=true) (hv:VW v (v2.ren τ)) (h:Pn v2 (mkT hl) n2):PanicR F v hp nx Pn :=
 fun φ _ _ hr hst hvv=>⟨pull φ τ n2,v2,_,n2,(hv.rel hvv).unren (fun i hi=>pull_lt hi) hlt,hs.rel hr,hs.step hst hF.lt hτ hn,h⟩
theorem CallG.body (hP:ProgOk P C) {f:FuncId} {fn:Func} {body:Code} (hft:P.funcs[f]?=some fn) (hb:fn.body=some body) {args:List AV} {H:T Obj} {nx:Nat} {B:Base} {Rt:Base→AV→T Obj→Nat→Prop} {Pn:AV→T Obj→Nat→Prop}
  (h:∀ F:From,F.Ok→F.n=nx→F.H=H.get→F.B=B→∀ (Q:Ex→St→Base→Prop) (N:AV→St→Prop),
   (∀ e st B',exEnd e=true→st.df=[]→(∃ vs,resA (C.at B') st fn.results.toList=some vs∧ExitR C F B' (retA vs) st.hp st.nx Rt)→Q e st B') →
   (∀ v st,st.df=[]→PanicR F v st.hp st.nx Pn→N v st)→CodeF P C F (maxA args.length fn.ntmps) body ⟨argA args 0 .leaf,H,nx,[]⟩ B Q N) :
  CallG P C B f args H.get nx (fun B' v H' n=>∃ hp,H'=T.get hp∧Rt B' v hp n) (fun v H' n=>∃ hp,H'=T.get hp∧Pn v hp n):=by
 intro φ w args' hrel hg ha
 have hF:(⟨φ,H.get,nx,w,B⟩:From).Ok:=⟨fun i l hi=>(hrel.lt i l hi).1⟩
 have hc:=h ⟨φ,H.get,nx,w,B⟩ hF rfl rfl rfl (fun e st B'=>exEnd e=true∧st.df=[]∧∃ vs,resA (C.at B') st fn.results.toList=some vs∧ExitR C ⟨φ,H.get,nx,w,B⟩ B' (retA vs) st.hp st.nx Rt)
  (fun v st=>st.df=[]∧PanicR ⟨φ,H.get,nx,w,B⟩ v st.hp st.nx Pn) (fun e st B' a b c=>⟨a,b,c⟩) (fun v st a b=>⟨a,b⟩)
 refine calls_fw (r:=none) (n:=0) (callsIn_of_wp hft hb trivial ?_)
 refine hc φ _ w ⟨frame0 hrel hg ha fn.ntmps,.refl _ _ _ _,.refl _ _⟩ 0 _ ?_ ?_
 ·rintro e st B' φ' a' w' ⟨h1,h2,vs,h3,h4⟩ ho
  obtain⟨v',h5,h6⟩:=results_ok (nt:=maxA args.length fn.ntmps) (At.ok hP B').ctx ho.lies h3
  have hdf:a'.defers=[]:=by
   have:=ho.lies.defers
   rw [h2] at this
   generalize a'.defers=q at this
   cases this;rfl
  obtain⟨φ2,v2,hp2,n2,B2,g1,g2,g3,g4,g5,g6⟩:=h4 φ' w' v' ho.lies.rel ho.lies.glob ho.step ho.grow h5
  rcases exEnd_ok h1 with rfl|rfl<;>exact⟨hdf,v',h6,φ2,v2,v',T.get hp2,n2,g1,g2,g3,.inl ⟨rfl,B2,⟨hp2,rfl,g6⟩,g4,g5⟩⟩
 ·rintro v v' st φ' a' w' ⟨h1,h2⟩ hv ho
  have hdf:a'.defers=[]:=by
   have:=ho.df
   rw [h1] at this
   generalize a'.defers=q at this
   cases this;rfl
  obtain⟨φ2,v2,hp2,n2,g1,g2,g3,g4⟩:=h2 φ' w' v' ho.rel ho.step hv
  exact⟨hdf,φ2,v2,v',T.get hp2,n2,g1,g2,g3,.inr ⟨rfl,hp2,rfl,g4⟩⟩
noncomputable def layR (ρ:Nat→Nat):List (Nat×Obj)→T Obj→T Obj
 | [],g=>g
 | e::l,g=>(layR ρ l g).set (ρ e.1) (e.2.ren ρ)
noncomputable def delR (ρ:Nat→Nat):List (Nat×Obj)→T Obj→T Obj
 | [],g=>g
 | e::l,g=>(delR ρ l g).del (ρ e.1)
theorem layR_get {ρ:Nat→Nat} {g:T Obj} {j:Nat} {o:Obj}:∀ {l:List (Nat×Obj)},(layR ρ l g).get j=some o→(∃ i x,(mkT l).get i=some x∧ρ i=j∧o=x.ren ρ)∨g.get j=some o
 | [],h=>.inr h
 | e::l,h=>by
  unfold layR at h
  rw [T.get_set] at h
  split at h
  ·next q=>cases h;exact .inl ⟨e.1,e.2,by unfold mkT;rw [T.get_set,if_pos rfl],q,rfl⟩
  ·next q =>
   rcases layR_get h with⟨i,x,h1,h2,h3⟩|h
   ·refine .inl ⟨i,x,?_,h2,h3⟩
    unfold mkT
    rw [T.get_set,if_neg (fun e2=>q (by rw [e2];exact h2))]
    exact h1
   ·exact .inr h
theorem delR_get {ρ:Nat→Nat} {g:T Obj} {j:Nat} {o:Obj}:∀ {l:List (Nat×Obj)},(delR ρ l g).get j=some o→g.get j=some o∧∀ e∈l,ρ e.1≠j
 | [],h=>⟨h,fun e he=>by cases he⟩
 | e::l,h=>by
  unfold delR at h
  rw [T.get_del] at h
  split at h
  ·cases h
  ·next q =>
   obtain⟨h1,h2⟩:=delR_get h
   exact⟨h1,fun f hf=>(List.mem_cons.1 hf).elim (fun e2=>by rw [e2];exact q) (h2 f)⟩
def easyL (n:Nat):List (Nat×Obj)→Bool
 | []=>true
 | e::l=>match Nat.blt e.1 n,e.2.easy with|true,true=>easyL n l|_,_=>false
theorem easyL_mem {n:Nat}:∀ {l:List (Nat×Obj)},easyL n l=true→∀ e∈l,e.1<n∧e.2.easy=true
 | [],_,e,he=>by cases he
 | x::l,h,e,he=>by
  unfold easyL at h
  split at h
  ·next h1 h2 =>
   rcases List.mem_cons.1 he with rfl|he
   ·exact⟨blt_lt h1,h2⟩
   ·exact easyL_mem h e he
  ·simp at h
theorem behind_lay {τ:Nat→Nat} {n n' nx:Nat} {l0 l1:List (Nat×Obj)} {g:T Obj} (h1:easyL n' l1=true) (_:∀ e∈l0,e.1<n) :
  Behind τ n n' nx (mkT l0).get (mkT l1).get g.get (layR (ext τ n nx) l1 (delR τ l0 g)).get:=by
 intro j o hj
 rcases layR_get hj with⟨i,x,h2,h3,h4⟩|h2
 ·obtain⟨h5,h6⟩:=easyL_mem h1 _ (mkT_get h2)
  exact .inl ⟨i,x,h5,h3,h2,h6,by rw [h4];exact .refl _⟩
 ·obtain⟨h3,h4⟩:=delR_get h2
  exact .inr ⟨h3,fun i x hi=>h4 _ (mkT_get hi)⟩
def ltL (n:Nat):List (Nat×Obj)→Bool
 | []=>true
 | e::l=>match Nat.blt e.1 n with|true=>ltL n l|false=>false
theorem ltL_mem {n:Nat}:∀ {l:List (Nat×Obj)},ltL n l=true→∀ e∈l,e.1<n
 | [],_,e,he=>by cases he
 | x::l,h,e,he=>by
  unfold ltL at h
  split at h
  ·next h1 =>
   rcases List.mem_cons.1 he with rfl|he
   ·exact blt_lt h1
   ·exact ltL_mem h e he
  ·simp at h
def tauLt (τ:Nat→Nat) (nx:Nat):Nat→Bool
 | 0=>true
 | n+1=>match Nat.blt (τ n) nx with|true=>tauLt τ nx n|false=>false
theorem tauLt_ok {τ:Nat→Nat} {nx i:Nat}:∀ {n:Nat},tauLt τ nx n=true→i<n→τ i<nx
 | 0,_,h=>by omega
 | n+1,h,hi=>by
  unfold tauLt at h
  split at h
  ·next q =>
   by_cases e:i=n
   ·subst e;exact blt_lt q
   ·exact tauLt_ok h (by omega)
  ·simp at h
theorem CallZ.of {B:Base} {f:FuncId} {args0:List AV} {l0:List (Nat×Obj)} {n nx:Nat} {hp:T Obj} {Rt:Base→AV→T Obj→Nat→Prop} {Pn:AV→T Obj→Nat→Prop} {K:Base→AV→T Obj→Nat→Prop} {N:AV→T Obj→Nat→Prop} (τ:Nat→Nat) (he:Enters P f)
  (h:CallG P C B f args0 (mkT l0).get n (fun B' v H' n'=>∃ hp',H'=T.get hp'∧Rt B' v hp' n') (fun v H' n'=>∃ hp',H'=T.get hp'∧Pn v hp' n'))
  (hs:hpL τ n hp l0) (hi:injB τ l0=true) (h0:ltL n l0=true) (ht:tauLt τ nx n=true) (hgs:∀ g,C.gs g=true→τ g=g∧g<n) {args:List AV} (ha:AV.ltIds n args0=true) (hag:AV.rens τ args0=args)
  (hR:∀ B' v hp' n',Rt B' v hp' n'→n≤n'→∃ l1,hp'=mkT l1∧easyL n' l1=true∧∀ hpX,hpX=layR (ext τ n nx) l1 (delR τ l0 hp)→K B' (v.ren (ext τ n nx)) hpX (nx+(n' - n)))
  (hN:∀ v hp' n',Pn v hp' n'→n≤n'→∃ l1,hp'=mkT l1∧easyL n' l1=true∧∀ hpX,hpX=layR (ext τ n nx) l1 (delR τ l0 hp)→N (v.ren (ext τ n nx)) hpX (nx+(n' - n))):CallZ P C B f args hp nx K N:=by
 refine⟨he,?_⟩
 rw [← hag]
 refine h.embed (hsub_mk hs hi) (fun i hi=>tauLt_ok ht hi) hgs ha ?_ ?_
 ·rintro B' v H' n' ⟨hp',rfl,hr⟩ hle
  obtain⟨l1,rfl,h1,h2⟩:=hR B' v hp' n' hr hle
  exact⟨_,behind_lay h1 (ltL_mem h0),_,rfl,h2 _ rfl⟩
 ·rintro v H' n' ⟨hp',rfl,hr⟩ hle
  obtain⟨l1,rfl,h1,h2⟩:=hN v hp' n' hr hle
  exact⟨_,behind_lay h1 (ltL_mem h0),_,rfl,h2 _ rfl⟩
theorem CallZ.ret {α:Type} (x:α) (V:α→AV) {B:Base} {f:FuncId} {args:List AV} {hp:T Obj} {nx:Nat} {K:Base→AV→T Obj→Nat→Prop} {N:AV→T Obj→Nat→Prop} (he:Enters P f) (ha:okVs args=true) (hv:∀ u,okV (V u)=true)
  (h:∀ w,Ext (C.at B) w→Ret P f (toVs args).toArray w (toV (V x))) (hK:∀ u,u=x→K B (V u) hp nx):CallZ P C B f args hp nx K N:=by
 refine⟨he,fun φ w args' hr hg hargs=>?_⟩
 have e:args'=(toVs args).toArray:=by rw [← okVs_inv ha hargs]
 rw [e]
 refine(h w fun k o hk=>(hg.base k o hk).1).mono ?_
 rintro e w' ⟨rfl,hk⟩
 obtain⟨h1,h2⟩:=hr.kept hk
 exact⟨φ,V x,_,hp.get,nx,okV_rel (hv x),h1,h2,.inl ⟨rfl,B,⟨hp,rfl,hK x rfl⟩,hg.step h2,.refl _ _⟩⟩
theorem CodeF.sy (hP:ProgOk P C) {F:From} {nt:Nat} {c:Code} {st:St} {B:Base} {Q:Ex→St→Base→Prop} {N:AV→St→Prop}
  (h:∀ (cmp:BinOp→Int→Int→(Bool→Prop)→Prop) (scmp:BinOp→SB→SB→(Bool→Prop)→Prop) (ar:BinOp→IntKind→Int→Int→(Int→Prop)→Prop) (wr:IntKind→Int→(Int→Prop)→Prop) (add:Addr→Nat→(Addr→Prop)→Prop)
   (op:Base→Oper→St→(AV→T Obj→Nat→Prop)→Prop) (load:Base→Nat→Addr→(AV→Prop)→Prop) (len:Base→Nat→Value→(AV→Prop)→Prop) (index:Base→Nat→Value→Int→(AV→Prop)→Prop)
   (callv:Base→Value→List AV→T Obj→Nat→(AV→T Obj→Nat→Prop)→Prop) (vop:Base→Oper→T AV→(AV→Prop)→Prop)
   (call:Base→FuncId→List AV→T Obj→Nat→(Base→AV→T Obj→Nat→Prop)→(AV→T Obj→Nat→Prop)→Prop) (code:Base→Code→St→(Ex→St→Base→Prop)→Prop),
   (∀ op a b K,(∀ t,t=cmp0 op a b→K t)→cmp op a b K)→(∀ op a b K,(∀ t,t=scmp0 op a.bytes b.bytes→K t)→scmp op a b K)→(∀ op k a b K,(∀ n,n=ar0 op k a b→K n)→ar op k a b K) →
   (∀ k n K,(∀ m,m=k.wrap n→K m)→wr k n K)→(∀ p n K,(∀ q,q=Addr.add p n→K q)→add p n K) →
   (∀ B o st K,OpR P (C.at B) o st K→op B o st K)→(∀ B t p K,LoadR (C.at B) t p K→load B t p K)→(∀ B t v K,LenR (C.at B) t v K→len B t v K)→(∀ B t v i K,IndexR (C.at B) t v i K→index B t v i K) →
   (∀ B f args hp nx K,CallvR P (C.at B) f args hp nx K→callv B f args hp nx K)→(∀ B o tm K,PureR P (C.at B) o tm K→vop B o tm K) →
   (∀ B f args hp nx K N,CallZ P C B f args hp nx K N→call B f args hp nx K N)→(∀ B c st Q,CodeF P C F nt c st B Q N→code B c st Q) →
   fC ⟨fun B=>⟨cmp,scmp,ar,wr,add,op B,load B,len B,index B,fun _ _ _ _ _=>False,callv B,vop B,fun _ _ _=>False,fun _ _ _=>False⟩,call,code⟩ C nt N c st B Q):CodeF P C F nt c st B Q N :=
 fC_ok hP (G:=⟨fun B=>⟨fun op a b K=>K (cmp0 op a b),fun op a b K=>K (scmp0 op a.bytes b.bytes),fun op k a b K=>K (ar0 op k a b),fun k n K=>K (k.wrap n),fun p n K=>K (Addr.add p n),OpR P (C.at B),LoadR (C.at B),LenR (C.at B),IndexR (C.at B),fun _ _ _ _ _=>False,CallvR P (C.at B),PureR P (C.at B),fun _ _ _=>False,fun _ _ _=>False⟩,
   CallZ P C,fun B c st Q=>CodeF P C F nt c st B Q N⟩)
  ⟨fun B=>⟨fun _ _ _ _ h=>h,fun _ _ _ _ h=>h,fun _ _ _ _ _ h=>h,fun _ _ _ h=>h,fun _ _ _ h=>h,fun _ _ _ h=>h,fun _ _ _ h=>h,fun _ _ _ h=>h,fun _ _ _ _ h=>h,fun _ _ _ _ _ h=>h.elim,fun _ _ _ _ _ h=>h,fun _ _ _ h=>h,fun _ _ _ h=>h.elim,fun _ _ _ h=>h.elim⟩,
   fun _ _ _ _ _ _ _ h=>h,fun _ _ _ _ h=>h⟩
  (h _ _ _ _ _ _ _ _ _ _ _ _ _ (fun _ _ _ _ h=>h _ rfl) (fun _ _ _ _ h=>h _ rfl) (fun _ _ _ _ _ h=>h _ rfl) (fun _ _ _ h=>h _ rfl) (fun _ _ _ h=>h _ rfl) (fun _ _ _ _ h=>h) (fun _ _ _ _ h=>h) (fun _ _ _ _ h=>h) (fun _ _ _ _ _ h=>h) (fun _ _ _ _ _ _ h=>h) (fun _ _ _ _ h=>h) (fun _ _ _ _ _ _ _ h=>h) (fun _ _ _ _ h=>h))
end
section
variable {P:Program} {C:Ctx}
theorem bytes_lt (s:ByteArray):((bytesOf s).all fun n=>Nat.blt n 256)=true:=by
 rw [List.all_eq_true];intro x hx;obtain⟨b,_,rfl⟩:=List.mem_map.1 hx;simp [Nat.blt_eq];exact UInt8.toNat_lt b
theorem OpOK.tm {o:Oper} {tm tm':T AV} {H H':Hp} {nx nx':Nat} {v:AV} (hw:∀ t v,tm'.get t=some v→∃ u,tm.get t=some u∧∀ φ x,VRel φ u x→VRel φ v x) (h:OpOK P C o tm' H nx v H' nx'):OpOK P C o tm H nx v H' nx':=by
 intro φ w a hr hg ht
 refine h φ w a hr hg fun t v hv=>?_
 obtain⟨u,h1,h2⟩:=hw t v hv
 obtain⟨v',h3,h4⟩:=ht t u h1
 exact⟨v',h3,h2 _ _ h4⟩
def toldL (tm:T AV) (tl:List (Nat×AV)):Prop:=∀ e∈tl,∃ u,tm.get e.1=some u∧∀ φ x,VRel φ u x→VRel φ e.2 x
theorem told_nil {tm:T AV}:toldL tm []:=fun _ h=>by cases h
theorem told_same {tm:T AV} {t:Nat} {a:AV} {tl:List (Nat×AV)} (h:tm.get t=some a) (k:toldL tm tl):toldL tm ((t,a)::tl):=fun e he=>by
 rcases List.mem_cons.1 he with rfl|he
 ·exact⟨_,h,fun _ _ q=>q⟩
 ·exact k e he
theorem told_int {tm:T AV} {t:Nat} {k:IntKind} {n:Int} {tl:List (Nat×AV)} (h:tm.get t=some (.val (.int k n))) (k':toldL tm tl):toldL tm ((t,.int k n)::tl):=fun e he=>by
 rcases List.mem_cons.1 he with rfl|he
 ·exact⟨_,h,fun _ _ q=>by cases q;exact .int _ _⟩
 ·exact k' e he
theorem told_str {tm:T AV} {t:Nat} {s:ByteArray} {tl:List (Nat×AV)} (h:tm.get t=some (.val (.string s))) (k':toldL tm tl):toldL tm ((t,.str (bytesOf s))::tl):=fun e he=>by
 rcases List.mem_cons.1 he with rfl|he
 ·exact⟨_,h,fun _ _ q=>by cases q;exact .str _⟩
 ·exact k' e he
theorem told_tm {tm:T AV} {tl:List (Nat×AV)} (h:toldL tm tl):∀ t v,(mkT tl).get t=some v→∃ u,tm.get t=some u∧∀ φ x,VRel φ u x→VRel φ v x:=fun _ _ hv=>h _ (mkT_get hv)
theorem pure_by (hC:CtxOk P C) {o:Oper} {tm:T AV} {tl:List (Nat×AV)} {v:AV} {K:AV→Prop} (h:toldL tm tl) (hv:valA C (mkT tl) .leaf o=some v) (hok:okV v=true) (h1:(toV v).oneCell'=true) (hK:K (.val (toV v))):PureR P C o tm K:=by
 refine⟨_,fun H nx=>?_,hK⟩
 refine OpOK.tm (told_tm h) ?_
 have h1':OpOK P C o (mkT tl) (T.leaf:T Obj).get nx v (T.leaf:T Obj).get nx:=OpOK.val hC hv nx
 have h2:=h1'.frame (E:=H) (fun i x _=>rfl)
 have e:un H (T.leaf:T Obj).get=H:=by funext i;cases hi:H i with|some x=>exact un_some hi|none=>rw [un_none hi];rfl
 rw [e] at h2
 intro φ w a' hr hg htm r n K' Q hK'
 exact h2 φ w a' hr hg htm r n K' Q fun φ' v' w' h3 h4 h5=>hK' φ' v' w' (by rw [okV_inv hok h3];exact .val _ h1) h4 h5
theorem op_shr (hC:CtxOk P C) {o:Oper} {tm:T AV} {t a:Nat} {ti:TI} {y:Operand} {q:TypeId} {k k':IntKind} {n:Int} {m:Nat} {K:AV→Prop} (ho:o.op=.binOp .shr t (.tmp a) y q) (ht:C.tt.get t=some ti) (hx:tm.get a=some (.val (.int k n)))
  (hy:∀ tm,ev C tm y=some (.int k' (.ofNat m))) (hK:∀ z,z=n.fdiv (2 ^ (min m k.bits))→K (.val (.int k z))):PureR P C o tm K:=by
 refine pure_by hC (told_int hx told_nil) (v:=.int k (n.fdiv (2 ^ (min m k.bits)))) ?_ rfl rfl (hK _ rfl)
 unfold valA
 simp only [ho,ht,hy]
 simp only [ev,mkT,T.get_set,if_true,binA]
theorem op_shl (hC:CtxOk P C) {o:Oper} {tm:T AV} {t a b:Nat} {ti:TI} {q:TypeId} {k k':IntKind} {n:Int} {m:Nat} {K:AV→Prop} (ho:o.op=.binOp .shl t (.tmp a) (.tmp b) q) (ht:C.tt.get t=some ti) (hab:a≠b) (hx:tm.get a=some (.val (.int k n)))
  (hy:tm.get b=some (.val (.int k' (.ofNat m)))) (hK:∀ z,z=k.wrap (n*2 ^ (min m k.bits))→K (.val (.int k z))):PureR P C o tm K:=by
 refine pure_by hC (told_int hx (told_int hy told_nil)) (v:=.int k (wrapF k (n*2 ^ (min m k.bits)))) ?_ rfl rfl (hK _ (by rw [wrapF_eq]))
 unfold valA
 simp only [ho,ht,ev,mkT,T.get_set,if_true,if_neg hab,if_neg hab.symm,binA]
theorem op_quo (hC:CtxOk P C) {o:Oper} {tm:T AV} {t a:Nat} {ti:TI} {y:Operand} {q:TypeId} {k:IntKind} {n m:Int} {K:AV→Prop} (ho:o.op=.binOp .quo t (.tmp a) y q) (ht:C.tt.get t=some ti) (hx:tm.get a=some (.val (.int k n)))
  (hy:∀ tm,ev C tm y=some (.int k m)) (hm:intEq m 0=false) (hK:∀ z,z=k.wrap (n.tdiv m)→K (.val (.int k z))):PureR P C o tm K:=by
 refine pure_by hC (told_int hx told_nil) (v:=.int k (wrapF k (n.tdiv m))) ?_ rfl rfl (hK _ (by rw [wrapF_eq]))
 unfold valA
 have hk:kindEq k k=true:=by cases k<;>rfl
 simp only [ho,ht,hy]
 simp only [ev,mkT,T.get_set,if_true,binA,hk,intOp,hm]
theorem op_rem (hC:CtxOk P C) {o:Oper} {tm:T AV} {t a:Nat} {ti:TI} {y:Operand} {q:TypeId} {k:IntKind} {n m:Int} {K:AV→Prop} (ho:o.op=.binOp .rem t (.tmp a) y q) (ht:C.tt.get t=some ti) (hx:tm.get a=some (.val (.int k n)))
  (hy:∀ tm,ev C tm y=some (.int k m)) (hm:intEq m 0=false) (hK:∀ z,z=n.tmod m→K (.val (.int k z))):PureR P C o tm K:=by
 refine pure_by hC (told_int hx told_nil) (v:=.int k (n.tmod m)) ?_ rfl rfl (hK _ rfl)
 unfold valA
 have hk:kindEq k k=true:=by cases k<;>rfl
 simp only [ho,ht,hy]
 simp only [ev,mkT,T.get_set,if_true,binA,hk,intOp,hm]
theorem op_neg (hC:CtxOk P C) {o:Oper} {tm:T AV} {t a:Nat} {k:IntKind} {n:Int} {K:AV→Prop} (ho:o.op=.unOp .neg t (.tmp a)) (hx:tm.get a=some (.val (.int k n))) (hK:∀ z,z=k.wrap (0 - n)→K (.val (.int k z))):PureR P C o tm K:=by
 refine pure_by hC (told_int hx told_nil) (v:=.int k (wrapF k (0 - n))) ?_ rfl rfl (hK _ (by rw [wrapF_eq]))
 unfold valA
 simp only [ho,ev,mkT,T.get_set,if_true,unA]
def strB (l:List Nat):ByteArray:=⟨(l.map UInt8.ofNat).toArray⟩
theorem strB_bytes {l:List Nat} (h:(l.all fun n=>Nat.blt n 256)=true):bytesOf (strB l)=l:=bytes_of l h
theorem all_drop {l:List Nat} (h:(l.all fun n=>Nat.blt n 256)=true) (n:Nat):((l.drop n).all fun n=>Nat.blt n 256)=true:=by
 rw [List.all_eq_true] at h ⊢;exact fun x hx=>h x (List.mem_of_mem_drop hx)
theorem all_take {l:List Nat} (h:(l.all fun n=>Nat.blt n 256)=true) (n:Nat):((l.take n).all fun n=>Nat.blt n 256)=true:=by
 rw [List.all_eq_true] at h ⊢;exact fun x hx=>h x (List.mem_of_mem_take hx)
theorem op_slice (hC:CtxOk P C) {o:Oper} {tm:T AV} {t:Nat} {ti:TI} {x:Operand} {lo hi:Option Operand} {tl:List (Nat×AV)} {s:ByteArray} {l h:Nat} {K:AV→Prop} (ho:o.op=.slice t x lo hi none) (ht:C.tt.get t=some ti) (hk:ti.k=.str) (htl:toldL tm tl)
  (hx:ev C (mkT tl) x=some (.str (bytesOf s))) (hlo:(lo=none∧l=0)∨∃ x k,lo=some x∧ev C (mkT tl) x=some (.int k (.ofNat l))) (hhi:(hi=none∧h=(bytesOf s).length)∨∃ x k,hi=some x∧ev C (mkT tl) x=some (.int k (.ofNat h))) (h1:l≤h) (h2:h≤(bytesOf s).length)
  (hK:∀ u,bytesOf u=((bytesOf s).drop l).take (h - l)→K (.val (.string u))):PureR P C o tm K:=by
 have hb:=all_take (all_drop (bytes_lt s) l) (h - l)
 refine pure_by hC htl (v:=.str (((bytesOf s).drop l).take (h - l))) ?_ hb rfl (hK (strB (((bytesOf s).drop l).take (h - l))) (strB_bytes hb))
 have e1:Nat.ble l h=true:=Nat.ble_eq_true_of_le h1
 have e2:Nat.ble h (bytesOf s).length=true:=Nat.ble_eq_true_of_le h2
 obtain⟨lo',a1,a2⟩:∃ lo',valA.evO C (mkT tl) lo=some lo'∧optNat 0 lo'=some l:=by
  rcases hlo with⟨rfl,rfl⟩|⟨x,k,rfl,hl⟩
  ·exact⟨none,rfl,rfl⟩
  ·exact⟨some (.int k (.ofNat l)),by simp only [valA.evO,hl],rfl⟩
 obtain⟨hi',b1,b2⟩:∃ hi',valA.evO C (mkT tl) hi=some hi'∧optNat (bytesOf s).length hi'=some h:=by
  rcases hhi with⟨rfl,rfl⟩|⟨x,k,rfl,hl⟩
  ·exact⟨none,rfl,rfl⟩
  ·exact⟨some (.int k (.ofNat h)),by simp only [valA.evO,hl],rfl⟩
 have b3:bounds (bytesOf s).length (bytesOf s).length true lo' hi' none=some ⟨l,h,(bytesOf s).length,true⟩:=by
  simp only [bounds,a2,b2,e1,e2]
 have c1:valA.evO C (mkT tl) none=some none:=rfl
 unfold valA
 simp only [ho,ht,hx,a1,b1,c1]
 simp only [hk,b3]
theorem OpOK.post {o:Oper} {tm:T AV} {H H1 H2:Hp} {nx n1:Nat} {v v2:AV} (h:OpOK P C o tm H nx v H1 n1) (hv:∀ φ x,VRel φ v x→VRel φ v2 x) (hh:∀ i o,H2 i=some o→∃ y,H1 i=some y∧OW y o):OpOK P C o tm H nx v2 H2 n1:=by
 intro φ w a hr hg ht r n K Q hK
 refine h φ w a hr hg ht r n K Q fun φ' v' w' h1 h2 h3=>hK φ' v' w' (hv _ _ h1) ?_ ?_
 ·refine⟨h2.lt,h2.shp,fun i ob hi=>?_,fun i j a b l m hi hj hne ho h1' h2'=>?_⟩
  ·obtain⟨y,h5,h6⟩:=hh i ob hi
   obtain⟨l,h7,h8⟩:=h2.dom i y h5
   exact⟨l,h7,h6.rel h8⟩
  ·obtain⟨y,h5,h6⟩:=hh i a hi
   obtain⟨z,h7,h8⟩:=hh j b hj
   exact h2.sep i j y z l m h5 h7 hne (by rw [h6.own];exact ho) h1' h2'
 ·exact⟨h3.grow,h3.born,h3.le,h3.keeps,fun k hk ⟨i,ob,l,q1,q2,q3⟩=>h3.own k hk (let ⟨y,h5,h6⟩:=hh i ob q1;⟨i,y,l,h5,by rw [h6.own];exact q2,q3⟩),fun k hk ⟨i,ob,l,q1,q3⟩=>h3.live k hk (let ⟨y,h5,_⟩:=hh i ob q1;⟨i,y,l,h5,q3⟩)⟩
theorem VWs.same:∀ (l:List AV),VWs l l
 | []=>.nil
 | _::l=>.cons (.refl _) (VWs.same l)
theorem VWs.app {a b c d:List AV} (h:VWs a b) (k:VWs c d):VWs (a++c) (b++d):=by
 induction a generalizing b with
 | nil=>cases h;exact k
 | cons x l ih=>cases h with|cons h t=>exact .cons h (ih t)
theorem Vs.allOk {c:List AV} {l:List Value} (h:Vs c l):allOk c=true:=by
 obtain⟨rfl,h⟩:=h
 induction l with
 | nil=>rfl
 | cons x l ih =>
  simp only [oneAll] at h
  split at h
  ·next q=>simp only [List.map_cons,Ev.allOk,AV.cellOk,q];exact ih h
  ·simp at h
def byV (l:List Nat):List Value:=l.map fun b=>.int .u8 (Int.ofNat b)
theorem byV_one (l:List Nat):oneAll (byV l)=true:=by
 induction l with
 | nil=>rfl
 | cons x l ih=>exact ih
theorem byV_vw:∀ (l:List Nat),VWs (l.map fun(b:Nat)=>AV.int .u8 (Int.ofNat b)) ((byV l).map .val)
 | []=>.nil
 | x::l=>.cons (.val (.int .u8 (Int.ofNat x)) rfl rfl) (byV_vw l)
theorem byV_app (l m:List Nat):byV (l++m)=byV l++byV m:=by simp [byV]
theorem byV_len (l:List Nat):(byV l).length=l.length:=by simp [byV]
section append
variable {o:Oper} {c:Call} {t u e:Nat} {ti tu te:TI} {x y:Operand}
theorem append_chg (ho:o.op=.call c) (hc:c.callee=.builtin .append) (ha:c.args.toList=[x,y]) (hty:c.argTypes.toList=[t,u]) (ht:C.tt.get t=some ti) (hu:C.tt.get u=some tu) (hk:ti.k=.sl e) (hte:C.tt.get e=some te)
  (huk:(∃ e',tu.k=.sl e')∨tu.k=.str) {tm:T AV} {hp:T Obj} {nx m:Nat} {d:List AV} {sv xv:AV} {r:R3} (hx:ev C tm x=some sv) (hy:ev C tm y=some xv) (hsk:srcKind tu.k xv=true) (hsrc:srcA hp te.size xv=some (m,d)) (hr:appendA e (C.bt e) te hp nx sv m d=some r):chgA C tm hp nx o=some r:=by
 unfold chgA
 simp only [ho,hc,ha,hty,ht,hu,hx,hy,hk,hte]
 rcases huk with⟨e',h⟩|h
 ·rw [h] at hsk;simp only [h,hsk,hsrc,hr]
 ·rw [h] at hsk;simp only [h,hsk,hsrc,hr]
theorem appendA_own {hp:T Obj} {nx id n m sz:Nat} {c d:List AV} (hsz:te.size=sz) (hby:Nat.ble te.bytes 1024=true) (hid:hp.get id=some (.cells c 0)) (hl:c.length=n*sz) (hb:n+m≤big) (hm:0<m) (hok:allOk d=true) (bt:Bool) :
  appendA e bt te hp nx (.sl id 0 n n false sz) m d=some ⟨.sl nx 0 (n+m) (n+m) false sz,(hp.del id).set nx (.cells (c++d) 0),nx+1⟩:=by
 obtain⟨m,rfl⟩:∃ k,m=k+1:=⟨m - 1,by omega⟩
 have h1:Nat.ble (n+(m+1)) big=true:=Nat.ble_eq_true_of_le hb
 have h2:Nat.ble (n+(m+1)) n=false:=by
  cases q:Nat.ble (n+(m+1)) n with
  | false=>rfl
  | true=>have:=Nat.le_of_ble_eq_true q;omega
 have h3:Nat.beq c.length (0+n*sz)=true:=by rw [hl,Nat.zero_add];exact Nat.beq_refl _
 have h4:Nat.ble 0 c.length=true:=Nat.ble_eq_true_of_le (Nat.zero_le _)
 simp only [appendA,hsz,Nat.beq_refl,h1,hby,hok,h2,hid,h3,h4,List.drop_zero,Nat.zero_sub]
theorem appendA_nil {hp:T Obj} {nx m:Nat} {d:List AV} (hby:Nat.ble te.bytes 1024=true) (hb:m≤big) (hm:0<m) (hok:allOk d=true) :
  appendA e false te hp nx .nsl m d=some ⟨.sl nx 0 m m false te.size,hp.set nx (.cells d 0),nx+1⟩:=by
 obtain⟨m,rfl⟩:∃ k,m=k+1:=⟨m - 1,by omega⟩
 have h1:Nat.ble (m+1) big=true:=Nat.ble_eq_true_of_le hb
 simp only [appendA,h1,hby,hok,mkO]
theorem srcA_own {hp:T Obj} {id m cap sz z:Nat} {ex:Bool} {d:List AV} (hid:hp.get id=some (.cells d z)) (hl:d.length=m*sz) (hm:0<m):srcA hp sz (.sl id 0 m cap ex sz)=some (m,d):=by
 obtain⟨m,rfl⟩:∃ k,m=k+1:=⟨m - 1,by omega⟩
 have h1:takeN ((m+1)*sz) (List.drop 0 d)=some d:=by rw [List.drop_zero,takeN_of (by omega),List.take_of_length_le (by omega)]
 have:sz.beq sz=true:=Nat.beq_refl _
 simp only [srcA,this,rdH,hid,Obj.read,h1]
theorem append_ok (hC:CtxOk P C) (ho:o.op=.call c) (hc:c.callee=.builtin .append) (ha:c.args.toList=[x,y]) (hty:c.argTypes.toList=[t,u]) (ht:C.tt.get t=some ti) (hu:C.tt.get u=some tu) (hk:ti.k=.sl e) (hte:C.tt.get e=some te) (hbt:C.bt e=false)
  (hby:Nat.ble te.bytes 1024=true) {st:St} {m:Nat} {d:List AV} {xv:AV} (huk:(∃ e',tu.k=.sl e')∨tu.k=.str) {sz:Nat} (hsz:te.size=sz) (hy:ev C st.tm y=some xv) (hsk:srcKind tu.k xv=true) (hsrc:srcA st.hp te.size xv=some (m,d)) (hm:0<m) (hok:allOk d=true)
  {K:AV→T Obj→Nat→Prop} {sv:AV} (hx:ev C st.tm x=some sv)
  (h:(sv=.nsl∧m≤big∧K (.sl st.nx 0 m m false sz) (st.hp.set st.nx (.cells d 0)) (st.nx+1)) ∨
   (∃ id n c,sv=.sl id 0 n n false sz∧st.hp.get id=some (.cells c 0)∧c.length=n*sz∧n+m≤big∧K (.sl st.nx 0 (n+m) (n+m) false sz) ((st.hp.del id).set st.nx (.cells (c++d) 0)) (st.nx+1))):OpR P C o st K:=by
 rcases h with⟨rfl,hb,hK⟩|⟨id,n,c,rfl,hid,hl,hb,hK⟩
 ·have:=appendA_nil (e:=e) (hp:=st.hp) (nx:=st.nx) hby hb hm hok
  rw [hsz] at this
  exact⟨_,_,_,OpOK.chg hC (append_chg ho hc ha hty ht hu hk hte huk hx hy hsk hsrc (by rw [hbt];exact this)),hK⟩
 ·exact⟨_,_,_,OpOK.chg hC (append_chg ho hc ha hty ht hu hk hte huk hx hy hsk hsrc (appendA_own hsz hby hid hl hb hm hok _)),hK⟩
end append
theorem append_str (hC:CtxOk P C) {o:Oper} {c:Call} {t u e:Nat} {ti tu te:TI} {a b:Nat} (ho:o.op=.call c) (hc:c.callee=.builtin .append) (ha:c.args.toList=[.tmp a,.tmp b]) (hty:c.argTypes.toList=[t,u]) (ht:C.tt.get t=some ti) (hu:C.tt.get u=some tu) (hk:ti.k=.sl e) (hte:C.tt.get e=some te)
  (hsz:te.size=1) (hby:Nat.ble te.bytes 1024=true) (huk:tu.k=.str) {st:St} {s:ByteArray} {id n:Nat} {cs:List AV} {l:List Nat} (hab:a≠b) (hx:st.tm.get a=some (.sl id 0 n n false 1)) (hy:st.tm.get b=some (.val (.string s))) (hid:st.hp.get id=some (.cells cs 0)) (hcs:Vs cs (byV l)) (hl:n=l.length) (hb:n+s.size≤big)
  {K:AV→T Obj→Nat→Prop} (h0:bytesOf s=[]→K (.sl id 0 n n false 1) st.hp st.nx) (h1:∀ d m,Vs d (byV (l++bytesOf s))→m=(l++bytesOf s).length→K (.sl st.nx 0 m m false 1) ((st.hp.del id).set st.nx (.cells d 0)) (st.nx+1)):OpR P C o st K:=by
 have Hn:(bytesOf s).length=s.size:=by simp [bytesOf]
 have htm:∀ t v,(mkT [(a,.sl id 0 n n false 1),(b,.str (bytesOf s))]).get t=some v→∃ u,st.tm.get t=some u∧∀ φ x,VRel φ u x→VRel φ v x:=told_tm (told_same hx (told_str hy told_nil))
 have ex1:ev C (mkT [(a,.sl id 0 n n false 1),(b,.str (bytesOf s))]) (.tmp a)=some (.sl id 0 n n false 1):=by simp only [ev,mkT,T.get_set,if_true]
 have ex2:ev C (mkT [(a,.sl id 0 n n false 1),(b,.str (bytesOf s))]) (.tmp b)=some (.str (bytesOf s)):=by simp only [ev,mkT,T.get_set,if_true,if_neg hab]
 have hsrc:srcA st.hp te.size (.str (bytesOf s))=some ((bytesOf s).length,(bytesOf s).map fun(b:Nat)=>AV.int .u8 (Int.ofNat b)):=by simp only [srcA,hsz]
 have hsk:srcKind tu.k (.str (bytesOf s))=true:=by rw [huk];rfl
 rcases hq:bytesOf s with _|⟨z,r⟩
 ·rw [hq] at hsrc hsk
  have hr:appendA e (C.bt e) te st.hp st.nx (.sl id 0 n n false 1) 0 []=some ⟨.sl id 0 n n false 1,st.hp,st.nx⟩:=rfl
  rw [hq] at ex1 ex2 htm
  exact⟨_,_,_,OpOK.tm htm (OpOK.chg hC (append_chg ho hc ha hty ht hu hk hte (.inr huk) ex1 ex2 hsk hsrc hr)),h0 hq⟩
 ·have hm:0<(bytesOf s).length:=by rw [hq];simp
  have hok:allOk ((bytesOf s).map fun(b:Nat)=>AV.int .u8 (Int.ofNat b))=true:=by
   generalize bytesOf s=q
   clear hq
   induction q with
   | nil=>rfl
   | cons x q ih=>exact ih
  have hr:=appendA_own (e:=e) (te:=te) (nx:=st.nx) hsz hby hid (n:=n) (by rw [hcs.length,byV_len];omega) (by rw [Hn];exact hb) hm hok (C.bt e)
  have Ho:=OpOK.tm htm (OpOK.chg hC (append_chg ho hc ha hty ht hu hk hte (.inr huk) ex1 ex2 hsk hsrc hr))
  have hd:Vs ((byV (l++bytesOf s)).map .val) (byV (l++bytesOf s)):=⟨rfl,byV_one _⟩
  refine⟨_,_,_,Ho.post (fun _ _ q=>q) (H2:=((st.hp.del id).set st.nx (.cells ((byV (l++bytesOf s)).map .val) 0)).get) (fun i ob hi=>?_),?_⟩
  ·rw [T.get_set] at hi ⊢
   by_cases e2:st.nx=i
   ·rw [if_pos e2] at hi ⊢
    cases hi
    refine⟨_,rfl,.cells ?_⟩
    rw [byV_app,List.map_append,hcs.1]
    exact(VWs.same _).app (byV_vw _)
   ·rw [if_neg e2] at hi ⊢
    exact⟨_,hi,.refl _⟩
  ·have:=h1 _ (n+(bytesOf s).length) hd (by rw [List.length_append,hl])
   exact this
theorem Rel.tell {φ:Phi} {H:Hp} {nx:Nat} {w:World} (hr:Rel φ H nx w) {id:Nat} {x y:Obj} (hx:H id=some x) (hxy:∀ l,ORel φ w x l→ORel φ w y l) (ho:y.own=x.own):Rel φ (upd H id y) nx w:=by
 have hk:∀ i ob,upd H id y i=some ob→∃ z,H i=some z∧ob.own=z.own∧∀ l,ORel φ w z l→ORel φ w ob l:=by
  intro i ob hi
  by_cases e:id=i
  ·subst e;rw [upd_same] at hi;cases hi;exact⟨x,hx,ho,hxy⟩
  ·rw [upd_ne _ _ e] at hi;exact⟨ob,hi,rfl,fun _ q=>q⟩
 refine⟨hr.lt,hr.shp,fun i ob hi=>?_,fun i j a b l m hi hj hne hw h1 h2=>?_⟩
 ·obtain⟨z,h1,_,h3⟩:=hk i ob hi
  obtain⟨l,h4,h5⟩:=hr.dom i z h1
  exact⟨l,h4,h3 l h5⟩
 ·obtain⟨z,h3,h4,_⟩:=hk i a hi
  obtain⟨z',h5,_,_⟩:=hk j b hj
  exact hr.sep i j z z' l m h3 h5 hne (by rw [← h4];exact hw) h1 h2
theorem u8s_by:∀ {l:List Nat},(l.all fun n=>Nat.blt n 256)=true→valA.u8s (l.map fun(b:Nat)=>AV.int .u8 (Int.ofNat b))=some l
 | [],_=>rfl
 | x::l,h=>by
  simp only [List.all_cons,Bool.and_eq_true] at h
  have:=u8s_by h.2
  simp only [List.map_cons,valA.u8s]
  show(match Nat.blt x 256,valA.u8s (l.map fun(b:Nat)=>AV.int .u8 (Int.ofNat b)) with|true,some r=>some (x::r)|_,_=>none)=_
  rw [h.1,this]
theorem conv_own (hC:CtxOk P C) {o:Oper} {st:St} {s d e a id n z:Nat} {ts td te:TI} (ho:o.op=.convert s d (.tmp a)) (hs:C.tt.get s=some ts) (hd:C.tt.get d=some td) (hk:ts.k=.sl e) (he:C.tt.get e=some te) (hek:te.k=.int .u8) (hdk:td.k=.str)
  (hx:st.tm.get a=some (.sl id 0 n n false 1)) {c:List AV} {l:List Nat} (hh:st.hp.get id=some (.cells c z)) (hc:Vs c (byV l)) (hb:(l.all fun n=>Nat.blt n 256)=true) (hn:n=l.length) {K:AV→T Obj→Nat→Prop} (hK:∀ u,bytesOf u=l→K (.val (.string u)) st.hp st.nx):OpR P C o st K:=by
 refine⟨.val (.string (strB l)),_,_,.pure (fun c q=>by rw [ho] at q;cases q) fun φ w ac hr hg htm=>?_,hK (strB l) (strB_bytes hb)⟩
 have hr2:Rel φ (st.hp.set id (.cells (l.map fun(b:Nat)=>AV.int .u8 (Int.ofNat b)) z)).get st.nx w:=by
  rw [set_get]
  refine hr.tell hh (fun lc q=>?_) rfl
  cases q with
  | cells hN hcr hf =>
   refine .cells (by simpa [hc.length,byV_len] using hN) (fun j v hj=>?_) hf
   simp only [List.getElem?_map,Option.map_eq_some_iff] at hj
   obtain⟨b,hb',rfl⟩:=hj
   obtain⟨v',h1,h2⟩:=hcr j (.val (.int .u8 (Int.ofNat b))) (by rw [hc.1];simp [byV,hb'])
   cases h2
   exact⟨_,h1,.int _ _⟩
 have hv:valA C st.tm (st.hp.set id (.cells (l.map fun(b:Nat)=>AV.int .u8 (Int.ofNat b)) z)) o=some (.str l):=by
  have hev:ev C st.tm (.tmp a)=some (.sl id 0 n n false 1):=hx
  unfold valA
  simp only [ho,hs,hd,hev,hk,hdk,he,hek]
  subst hn
  rcases hq:l with _|⟨x,r⟩
  ·rfl
  ·have h1:rdH (st.hp.set id (.cells ((x::r).map fun(b:Nat)=>AV.int .u8 (Int.ofNat b)) z)) id 0 (r.length+1)=some ((x::r).map fun(b:Nat)=>AV.int .u8 (Int.ofNat b)):=by
    simp only [rdH,T.get_set,if_true,Obj.read,List.drop_zero]
    rw [takeN_of (by simp),List.take_of_length_le (by simp)]
   rw [hq] at hb
   have h2:=u8s_by hb
   simp only [List.length_cons]
   rw [h1]
   simp only [h2]
 obtain⟨v',h1,h2⟩:=valA_ok hC hr2 hg.gl htm hv
 refine⟨v',?_,h2⟩
 have:=okV_inv (a:=.str l) hb h1
 rw [this]
 exact .val _ rfl
end
end Ev
