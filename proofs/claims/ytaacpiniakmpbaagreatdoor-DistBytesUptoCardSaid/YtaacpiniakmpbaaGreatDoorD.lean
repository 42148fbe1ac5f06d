/- Regions in whatever order their edges allow. -/
import Derived.Test.YtaacpiniakmpbaaGreatDoorC
import Derived.RangeFuncRecord
namespace Ev
open Go
set_option linter.unusedSimpArgs false
set_option linter.unusedVariables false
inductive DK where
 | off|val|new (ob:Obj)|chg
structure DRec where
 bef:Nat
 kd:DK
 tm:T AV
 v:AV
def DK.ob:DK→Option Obj
 | .new ob=>some ob
 | _=>none
def DK.on:DK→Bool
 | .off=>false
 | _=>true
def pendA (R:Nat→DRec) (n0 n:Nat) (ab L:Nat→Bool):Hp:=fun id =>
 if n0≤id∧id - n0<n∧L (id - n0)=true∧ab (id - n0)=false then(R (id - n0)).kd.ob else none
def abs (R:Nat→DRec) (c:Nat→Nat):Nat→Nat→Bool
 | 0,_=>false
 | k+1,i=>(R (c k)).bef.testBit i
structure DrawOk (P:Program) (C:Ctx) (nt:Nat) (ops:Array Oper) (st st':St) (R:Nat→DRec) (m:Nat) (c:Nat→Nat) (M:Nat→T Obj) (N:Nat→Nat) (G:Nat→Nat→T Obj):Prop where
 bef:∀ (i:Nat) (o:Oper),ops[i]?=some o→∀ j,(R i).bef.testBit j=true↔∃ e∈o.after,Region.binds .any e=true∧(j=e.on∨(R e.on).bef.testBit j=true)
 ord:∀ (i:Nat) (o:Oper),ops[i]?=some o→∀ e∈o.after,Region.binds .any e=true→e.on<i
 dst:∀ (i:Nat) (o:Oper),ops[i]?=some o→dstOk nt o.dst
 uniq:∀ (i j:Nat) (oi oj:Oper) (t:Nat),ops[i]?=some oi→ops[j]?=some oj→oi.dst=some t→oj.dst=some t→i=j
 tmp:∀ (i:Nat) (o:Oper) (t:Nat) (v:AV),ops[i]?=some o→(R i).tm.get t=some v →
  (∃ (j:Nat) (oj:Oper),ops[j]?=some oj∧oj.dst=some t∧(R i).bef.testBit j=true∧(R j).v=v)∨(st.tm.get t=some v∧∀ (j:Nat) (oj:Oper),ops[j]?=some oj→oj.dst=some t→(R j).bef.testBit i=true)
 want:∀ (i:Nat) (o:Oper),ops[i]?=some o→wantedA ops.toList (R i).tm o=some (R i).kd.on
 off:∀ (i:Nat) (o:Oper),ops[i]?=some o→(R i).kd=.off→(R i).v=undefA
 chg:∀ k,k<m→∃ o,ops[c k]?=some o∧(R (c k)).kd=.chg∧OpOK P C o (R (c k)).tm (un (pendA R st.nx ops.size (abs R c k) fun j=>(R (c k)).bef.testBit j) (M k).get) (N k) (R (c k)).v (M (k+1)).get (N (k+1))
 chgs:∀ (i:Nat) (o:Oper),ops[i]?=some o→(R i).kd=.chg→∃ k,k<m∧c k=i
 line:∀ k,k+1<m→(R (c (k+1))).bef.testBit (c k)=true
 heap:∀ (k i:Nat) (o:Oper),k≤m→ops[i]?=some o→(G k i).get=un (pendA R st.nx ops.size (abs R c k) fun j=>(R i).bef.testBit j) (M k).get
 val:∀ (k i:Nat) (o:Oper),k≤m→ops[i]?=some o→(R i).kd=.val→(∀ j,j<m→(R i).bef.testBit (c j)=true→j<k)→(∀ j,j<k→(R (c j)).bef.testBit i=false) →
  OpOK P C o (R i).tm (G k i).get (N k) (R i).v (G k i).get (N k)
 new:∀ (k i:Nat) (o:Oper) (ob:Obj),k≤m→ops[i]?=some o→(R i).kd=.new ob→(∀ j,j<m→(R i).bef.testBit (c j)=true→j<k)→(∀ j,j<k→(R (c j)).bef.testBit i=false) →
  newA C (R i).tm (G k i) (st.nx+i) o=some (ob,(R i).v)
 free:∀ (k i:Nat) (o:Oper) (ob:Obj),k≤m→ops[i]?=some o→(R i).kd=.new ob→abs R c k i=false→(M k).get (st.nx+i)=none
 hp0:M 0=st.hp
 nx0:N 0=st.nx+ops.size
 nxs:∀ k,k<m→N k≤N (k+1)
 tmE:∀ t v,st'.tm.get t=some v→(∃ (j:Nat) (oj:Oper),ops[j]?=some oj∧oj.dst=some t∧(R j).v=v)∨(st.tm.get t=some v∧∀ (j:Nat) (oj:Oper),ops[j]?=some oj→oj.dst≠some t)
 hpE:st'.hp.get=un (pendA R st.nx ops.size (abs R c m) fun _=>true) (M m).get
 nxE:st'.nx=N m
 dfE:st'.df=st.df
section
variable {P:Program} {C:Ctx} {nt:Nat} {ops:Array Oper} {st st':St} {R:Nat→DRec} {m:Nat} {c:Nat→Nat} {M:Nat→T Obj} {N:Nat→Nat} {G:Nat→Nat→T Obj}
structure Down (ops:Array Oper) (L:Nat→Bool):Prop where
 lt:∀ i,L i=true→i<ops.size
 down:∀ (i:Nat) (o:Oper),L i=true→ops[i]?=some o→∀ e∈o.after,Region.binds .any e=true→L e.on=true
theorem DrawOk.below (D:DrawOk P C nt ops st st' R m c M N G) {L:Nat→Bool} (hL:Down ops L):∀ (n i:Nat),i<n→∀ o,ops[i]?=some o→(∀ e∈o.after,Region.binds .any e=true→L e.on=true) →
  ∀ j,(R i).bef.testBit j=true→L j=true:=by
 intro n
 induction n with
 | zero=>intro i hi;omega
 | succ n ih =>
  intro i hi o ho hall j hj
  obtain⟨e,he,hb,h⟩:=(D.bef i o ho j).1 hj
  have hon:=hall e he hb
  rcases h with rfl|h
  ·exact hon
  ·have hlt:=D.ord i o ho e he hb
   have hs:=hL.lt _ hon
   exact ih e.on (by omega) ops[e.on] (Array.getElem?_eq_getElem hs) (fun e' he' hb'=>hL.down _ _ hon (Array.getElem?_eq_getElem hs) e' he' hb') j h
structure Stands (C:Ctx) (nt:Nat) (ops:Array Oper) (st:St) (R:Nat→DRec) (m:Nat) (c:Nat→Nat) (M:Nat→T Obj) (N:Nat→Nat) (φ0:Phi) (a0:Act) (w0:World) (L:Nat→Bool) (k:Nat) (φ:Phi) (a:Act) (w:World):Prop where
 le:k≤m
 chain:∀ j,j<m→(L (c j)=true↔j<k)
 rel:Rel φ (un (pendA R st.nx ops.size (abs R c k) L) (M k).get) (N k) w
 glob:BOk C φ0 st.hp.get w0
 free:∀ (i:Nat) (o:Oper) (ob:Obj),ops[i]?=some o→(R i).kd=.new ob→L i=false→φ (st.nx+i)=none
 step:Step φ0 st.hp.get st.nx w0 φ (un (pendA R st.nx ops.size (abs R c k) L) (M k).get) (N k) w
 old:∀ t v,st.tm.get t=some v→(∀ (j:Nat) (oj:Oper),ops[j]?=some oj→oj.dst=some t→L j=false)→∃ v',a.tmps[t]?=some v'∧VRel φ v v'
 cur:∀ (i:Nat) (o:Oper) (t:Nat),ops[i]?=some o→L i=true→o.dst=some t→∃ v',a.tmps[t]?=some v'∧VRel φ (R i).v v'
 size:a.tmps.size=nt
 defers:a.defers=a0.defers
def more (L:Nat→Bool) (i:Nat):Nat→Bool:=fun j=>if j=i then true else L j
theorem put_get_self {a:Act} {nt:Nat} (hn:a.tmps.size=nt) {t:Tmp} (hd:dstOk nt (some t)) (v:Value):(a.put (some t) v).tmps[t]?=some v:=by
 have:=hd t rfl
 show(a.tmps.setIfInBounds t v)[t]?=some v
 simp only [Array.getElem?_setIfInBounds]
 rw [if_pos trivial,if_pos (by rw [hn];exact this)]
theorem put_get_ne {a:Act} {d:Option Tmp} {t:Tmp} (h:d≠some t) (v:Value):(a.put d v).tmps[t]?=a.tmps[t]?:=by
 cases d with
 | none=>rfl
 | some d =>
  show(a.tmps.setIfInBounds d v)[t]?=_
  exact Array.getElem?_setIfInBounds_ne fun e=>h (by rw [e])
theorem Stands.tmps {φ0:Phi} {a0:Act} {w0:World} {L:Nat→Bool} {k:Nat} {φ:Phi} {a:Act} {w:World} (D:DrawOk P C nt ops st st' R m c M N G) (S:Stands C nt ops st R m c M N φ0 a0 w0 L k φ a w)
  (hL:Down ops L) {i:Nat} {o:Oper} (ho:ops[i]?=some o) (hi:L i=false) (hb:∀ j,(R i).bef.testBit j=true→L j=true):TRel φ (R i).tm a.tmps:=by
 intro t v hv
 rcases D.tmp i o t v ho hv with⟨j,oj,h1,h2,h3,h4⟩|⟨h1,h2⟩
 ·subst h4;exact S.cur j oj t h1 (hb j h3) h2
 ·refine S.old t v h1 fun j oj hj hd=>?_
  cases hlj:L j with
  | false=>rfl
  | true =>
   have:=D.below hL (j+1) j (by omega) oj hj (fun e he hbb=>hL.down j oj hlj hj e he hbb) i (h2 j oj hj hd)
   rw [hi] at this;cases this
theorem Stands.one {φ0:Phi} {a0:Act} {w0:World} {L:Nat→Bool} {k k':Nat} {φ φ':Phi} {a:Act} {w w':World} (D:DrawOk P C nt ops st st' R m c M N G) (S:Stands C nt ops st R m c M N φ0 a0 w0 L k φ a w)
  {i:Nat} {o:Oper} (ho:ops[i]?=some o) {v':Value} (hv:VRel φ' (R i).v v')
  (hle:k'≤m) (hch:∀ j,j<m→(more L i (c j)=true↔j<k'))
  (hrel:Rel φ' (un (pendA R st.nx ops.size (abs R c k') (more L i)) (M k').get) (N k') w')
  (hfree:∀ (i':Nat) (o:Oper) (ob:Obj),ops[i']?=some o→(R i').kd=.new ob→more L i i'=false→φ' (st.nx+i')=none)
  (hstep:Step φ0 st.hp.get st.nx w0 φ' (un (pendA R st.nx ops.size (abs R c k') (more L i)) (M k').get) (N k') w') (hle':Le φ φ') :
  Stands C nt ops st R m c M N φ0 a0 w0 (more L i) k' φ' (a.put o.dst v') w' where
 le:=hle
 chain:=hch
 rel:=hrel
 glob:=S.glob
 free:=hfree
 step:=hstep
 old:=fun t v h1 h2=>by
  have hne:∀ (j:Nat) (oj:Oper),ops[j]?=some oj→oj.dst=some t→j≠i∧L j=false:=by
   intro j oj hj hd
   have:=h2 j oj hj hd
   simp only [more] at this
   split at this
   ·cases this
   ·next hq=>exact⟨hq,this⟩
  obtain⟨v1,h3,h4⟩:=S.old t v h1 fun j oj hj hd=>(hne j oj hj hd).2
  exact⟨v1,by rw [put_get_ne (fun q=>(hne i o ho q).1 rfl)];exact h3,h4.mono hle'⟩
 cur:=fun j oj t h1 h2 h3=>by
  by_cases e:j=i
  ·subst e
   rw [ho] at h1;cases h1
   rw [h3]
   refine⟨v',put_get_self S.size ?_ v',hv⟩
   have:=D.dst j o ho
   rwa [h3] at this
  ·simp only [more,if_neg e] at h2
   obtain⟨v1,h4,h5⟩:=S.cur j oj t h1 h2 h3
   refine⟨v1,?_,h5.mono hle'⟩
   rw [put_get_ne (fun q=>e (D.uniq j i oj o t h1 ho h3 q))]
   exact h4
 size:=by rw [put_size];exact S.size
 defers:=by rw [Ev.put_defers];exact S.defers
theorem pendA_some {n0 n:Nat} {ab L:Nat→Bool} {id:Nat} {ob:Obj} (h:pendA R n0 n ab L id=some ob):∃ i,id=n0+i∧i<n∧L i=true∧ab i=false∧(R i).kd.ob=some ob:=by
 unfold pendA at h
 split at h
 ·next hc=>exact⟨id - n0,by omega,hc.2.1,hc.2.2.1,hc.2.2.2,h⟩
 ·simp at h
theorem pendA_of {n0 n:Nat} {ab L:Nat→Bool} {i:Nat} {ob:Obj} (hi:i<n) (hL:L i=true) (ha:ab i=false) (h:(R i).kd.ob=some ob):pendA R n0 n ab L (n0+i)=some ob:=by
 unfold pendA
 have e:n0+i - n0=i:=by omega
 rw [e,if_pos ⟨by omega,hi,hL,ha⟩];exact h
theorem ob_new {k:DK} {ob:Obj} (h:k.ob=some ob):k=.new ob:=by
 cases k<;>simp [DK.ob] at h
 subst h;rfl
theorem pendA_ext {n0 n:Nat} {ab ab' L L':Nat→Bool} (h:∀ i,i<n→(R i).kd.ob≠none→((L i=true∧ab i=false)↔(L' i=true∧ab' i=false))):pendA R n0 n ab L=pendA R n0 n ab' L':=by
 funext id
 unfold pendA
 by_cases hk:(R (id - n0)).kd.ob=none
 ·rw [hk];simp
 ·by_cases hn:id - n0<n
  ·have:=h (id - n0) hn hk
   by_cases hc:L (id - n0)=true∧ab (id - n0)=false
   ·have hc':=this.1 hc
    by_cases h1:n0≤id
    ·rw [if_pos ⟨h1,hn,hc⟩,if_pos ⟨h1,hn,hc'⟩]
    ·rw [if_neg (fun q=>h1 q.1),if_neg (fun q=>h1 q.1)]
   ·rw [if_neg (fun q=>hc q.2.2),if_neg (fun q=>hc (this.2 q.2.2))]
  ·rw [if_neg (fun q=>hn q.2.1),if_neg (fun q=>hn q.2.1)]
theorem pend_split {n0 n:Nat} {ab L B:Nat→Bool} (hB:∀ j,B j=true→L j=true) (H:Hp) :
  un (pendA R n0 n ab L) H=un (pendA R n0 n ab fun j=>L j&&!B j) (un (pendA R n0 n ab B) H):=by
 funext id
 simp only [un]
 cases h1:pendA R n0 n ab L id with
 | some ob =>
  obtain⟨i,rfl,hi,hL,ha,hk⟩:=pendA_some h1
  by_cases hb:B i=true
  ·have h2:pendA R n0 n ab (fun j=>L j&&!B j) (n0+i)=none:=by
    cases h:pendA R n0 n ab (fun j=>L j&&!B j) (n0+i) with
    | none=>rfl
    | some ob' =>
     obtain⟨i',e,_,h3,_⟩:=pendA_some h
     have:i'=i:=by omega
     subst this
     simp [hb] at h3
   rw [h2,pendA_of hi hb ha hk]
  ·rw [pendA_of (L:=fun j=>L j&&!B j) hi (by simp [hL,hb]) ha hk]
 | none =>
  have h2:pendA R n0 n ab (fun j=>L j&&!B j) id=none:=by
   cases h:pendA R n0 n ab (fun j=>L j&&!B j) id with
   | none=>rfl
   | some ob' =>
    obtain⟨i',e,h4,h3,h5,h6⟩:=pendA_some h
    subst e
    simp at h3
    rw [pendA_of h4 h3.1 h5 h6] at h1;simp at h1
  have h3:pendA R n0 n ab B id=none:=by
   cases h:pendA R n0 n ab B id with
   | none=>rfl
   | some ob' =>
    obtain⟨i',e,h4,h3,h5,h6⟩:=pendA_some h
    subst e
    rw [pendA_of h4 (hB _ h3) h5 h6] at h1;simp at h1
  rw [h2,h3]
theorem pend_more_same {n0 n:Nat} {ab L:Nat→Bool} {i:Nat} (hk:(R i).kd.ob=none):pendA R n0 n ab (more L i)=pendA R n0 n ab L:=by
 funext id
 unfold pendA more
 by_cases e:id - n0=i
 ·rw [e,hk];simp
 ·simp only [if_neg e]
theorem pend_more_new {n0 n:Nat} {ab L:Nat→Bool} {i:Nat} {ob:Obj} (hi:i<n) (ha:ab i=false) (hk:(R i).kd.ob=some ob) (H:Hp) :
  un (pendA R n0 n ab (more L i)) H=upd (un (pendA R n0 n ab L) H) (n0+i) ob:=by
 funext id
 by_cases e:n0+i=id
 ·subst e
  rw [upd_same]
  exact un_some (pendA_of hi (by simp [more]) ha hk)
 ·rw [upd_ne _ _ e]
  have:pendA R n0 n ab (more L i) id=pendA R n0 n ab L id:=by
   unfold pendA more
   by_cases e1:n0≤id
   ·have e2:id - n0≠i:=by omega
    simp only [if_neg e2]
   ·rw [if_neg (fun h=>e1 h.1),if_neg (fun h=>e1 h.1)]
  simp only [un,this]
theorem DrawOk.bef_lt (D:DrawOk P C nt ops st st' R m c M N G):∀ (i n:Nat),i<n→∀ j,i<ops.size→(R i).bef.testBit j=true→j<i:=by
 intro i n
 induction n generalizing i with
 | zero=>intro h;omega
 | succ n ih =>
  intro hi j hs hj
  obtain⟨e,he,hb,h⟩:=(D.bef i _ (Array.getElem?_eq_getElem hs) j).1 hj
  have hlt:=D.ord i _ (Array.getElem?_eq_getElem hs) e he hb
  rcases h with rfl|h
  ·exact hlt
  ·have:=ih e.on (by omega) j (by omega) h
   omega
theorem DrawOk.trans (D:DrawOk P C nt ops st st' R m c M N G):∀ (i n:Nat),i<n→∀ o,ops[i]?=some o→∀ j,(R i).bef.testBit j=true→∀ l,(R j).bef.testBit l=true→(R i).bef.testBit l=true:=by
 intro i n
 induction n generalizing i with
 | zero=>intro h;omega
 | succ n ih =>
  intro hi o ho j hj l hl
  obtain⟨e,he,hb,h⟩:=(D.bef i o ho j).1 hj
  have hlt:=D.ord i o ho e he hb
  have hs:i<ops.size:=(Array.getElem?_eq_some_iff.1 ho).1
  refine(D.bef i o ho l).2 ⟨e,he,hb,.inr ?_⟩
  rcases h with rfl|h
  ·exact hl
  ·exact ih e.on (by omega) _ (Array.getElem?_eq_getElem (show e.on<ops.size by omega)) j h l hl
theorem DrawOk.line_lt (D:DrawOk P C nt ops st st' R m c M N G):∀ j',j'<m→∀ j,j<j'→(R (c j')).bef.testBit (c j)=true
 | 0,_,j,h=>by omega
 | j'+1,hm,j,h=>by
  have h1:=D.line j' hm
  by_cases e:j=j'
  ·subst e;exact h1
  ·obtain⟨o,ho,_⟩:=D.chg (j'+1) hm
   exact D.trans _ _ (Nat.lt_succ_self _) o ho _ h1 _ (D.line_lt j' (by omega) j (by omega))
theorem DrawOk.nx_le (D:DrawOk P C nt ops st st' R m c M N G):∀ k,k≤m→st.nx+ops.size≤N k
 | 0,_=>by rw [D.nx0];omega
 | k+1,h=>Nat.le_trans (D.nx_le k (by omega)) (D.nxs k (by omega))
theorem Stands.next {φ0:Phi} {a0:Act} {w0:World} {L:Nat→Bool} {k:Nat} {φ:Phi} {a:Act} {w:World} (hC:CtxOk P C) (D:DrawOk P C nt ops st st' R m c M N G) (hL:Down ops L)
  (S:Stands C nt ops st R m c M N φ0 a0 w0 L k φ a w) {i:Nat} {o:Oper} (ho:ops[i]?=some o) (hi:L i=false) (hall:∀ e∈o.after,Region.binds .any e=true→L e.on=true)
  {r:Option Nat} {n:Nat} {Q:Exit→Act→World→Prop} {K:Act→World→Prop} (hK:∀ k' φ' a' w',Stands C nt ops st R m c M N φ0 a0 w0 (more L i) k' φ' a' w'→K a' w'):wpOpIn (Fw r) n P ops Q i K a w:=by
 have hbel:∀ j,(R i).bef.testBit j=true→L j=true:=D.below hL (i+1) i (by omega) o ho hall
 have htm:TRel φ (R i).tm a.tmps:=S.tmps D hL ho hi hbel
 have hlt:i<ops.size:=(Array.getElem?_eq_some_iff.1 ho).1
 have hlo:∀ j,j<m→(R i).bef.testBit (c j)=true→j<k:=fun j hj hb=>(S.chain j hj).1 (hbel _ hb)
 have hhi:∀ j,j<k→(R (c j)).bef.testBit i=false:=fun j hj=>by
  cases hb:(R (c j)).bef.testBit i with
  | false=>rfl
  | true =>
   have hjm:j<m:=Nat.lt_of_lt_of_le hj S.le
   have hcj:=(S.chain j hjm).2 hj
   obtain⟨oc,hoc,_⟩:=D.chg j hjm
   have:=D.below hL (c j+1) (c j) (by omega) oc hoc (fun e he hb=>hL.down _ _ hcj hoc e he hb) i hb
   rw [hi] at this;simp at this
 have habs:abs R c k i=false:=by
  cases k with
  | zero=>rfl
  | succ k=>exact hhi k (Nat.lt_succ_self k)
 have hsplit:=pend_split (R:=R) (n0:=st.nx) (n:=ops.size) (ab:=abs R c k) hbel (M k).get
 rw [← D.heap k i o S.le ho] at hsplit
 have hdis:∀ id x,pendA R st.nx ops.size (abs R c k) (fun j=>L j&&!(R i).bef.testBit j) id=some x→(G k i).get id=none:=by
  intro id x hx
  obtain⟨j,rfl,hj,hLj,haj,hkj⟩:=pendA_some hx
  simp at hLj
  rw [D.heap k i o S.le ho]
  rw [un_none]
  ·exact D.free k j _ x S.le (Array.getElem?_eq_getElem hj) (ob_new hkj) haj
  ·cases h:pendA R st.nx ops.size (abs R c k) (fun j=>(R i).bef.testBit j) (st.nx+j) with
   | none=>rfl
   | some y =>
    obtain⟨j',e,_,h3,_⟩:=pendA_some h
    have:j'=j:=by omega
    subst this
    rw [hLj.2] at h3;simp at h3
 have hw:=D.want i o ho
 have hchm:∀ j,j<m→c j≠i→(more L i (c j)=true↔L (c j)=true):=fun j hj hne=>by simp [more,if_neg hne]
 unfold wpOpIn
 simp only [ho,wanted_ok htm hw]
 cases hk:(R i).kd with
 | off =>
  simp only [DK.on,Bool.false_eq_true,if_false]
  have hne:∀ j,j<m→c j≠i:=fun j hj e=>by obtain⟨_,_,h,_⟩:=D.chg j hj;rw [e,hk] at h;cases h
  have hp:pendA R st.nx ops.size (abs R c k) (more L i)=pendA R st.nx ops.size (abs R c k) L:=pend_more_same (by rw [hk];rfl)
  refine⟨fun _ _=>trivial,hK k φ _ _ (S.one D ho (by rw [D.off i o ho hk];exact undef_rel) S.le (fun j hj=>(hchm j hj (hne j hj)).trans (S.chain j hj)) (by rw [hp];exact S.rel) ?_ (by rw [hp];exact S.step) (.refl _))⟩
  intro i' o' ob h1 h2 h3
  refine S.free i' o' ob h1 h2 ?_
  by_cases e:i'=i
  ·simp [more,e] at h3
  ·simpa [more,if_neg e] using h3
 | val =>
  simp only [DK.on,if_true]
  have hne:∀ j,j<m→c j≠i:=fun j hj e=>by obtain⟨_,_,h,_⟩:=D.chg j hj;rw [e,hk] at h;cases h
  have hp:pendA R st.nx ops.size (abs R c k) (more L i)=pendA R st.nx ops.size (abs R c k) L:=pend_more_same (by rw [hk];rfl)
  have Ho:=(D.val k i o S.le ho hk hlo hhi).frame hdis
  rw [← hsplit] at Ho
  refine Ho φ w a S.rel (S.glob.step S.step) htm r n _ _ ?_
  intro φ' v' w' h1 h2 h3
  refine hK k φ' _ _ (S.one D ho h1 S.le (fun j hj=>(hchm j hj (hne j hj)).trans (S.chain j hj)) (by rw [hp];exact h2) ?_ (by rw [hp];exact S.step.trans h3) h3.le)
  intro i' o' ob g1 g2 g3
  have g4:φ (st.nx+i')=none:=by
   refine S.free i' o' ob g1 g2 ?_
   by_cases e:i'=i
   ·simp [more,e] at g3
   ·simpa [more,if_neg e] using g3
  cases g5:φ' (st.nx+i') with
  | none=>rfl
  | some l =>
   rcases h3.born _ _ g5 with g6|g6
   ·rw [g4] at g6;simp at g6
   ·have h7:=D.nx_le k S.le
    have h8:i'<ops.size:=(Array.getElem?_eq_some_iff.1 g1).1
    omega
 | new ob =>
  simp only [DK.on,if_true]
  have hne:∀ j,j<m→c j≠i:=fun j hj e=>by obtain⟨_,_,h,_⟩:=D.chg j hj;rw [e,hk] at h;cases h
  have hnx:=D.nx_le k S.le
  have hfr:=S.free i o ob ho hk hi
  have hless:Rel φ (G k i).get (N k) w:=S.rel.less (fun id x hx=>by
   rw [hsplit]
   cases hq:pendA R st.nx ops.size (abs R c k) (fun j=>L j&&!(R i).bef.testBit j) id with
   | none=>rw [un_none hq];exact hx
   | some y=>rw [hdis id y hq] at hx;simp at hx) (Nat.le_refl _)
  obtain⟨v',o',l,h1,h2,h3,h4,h5⟩:=newA_ok hC hless (S.glob.step S.step).gl htm hfr (D.new k i o ob S.le ho hk hlo hhi)
  obtain⟨h6,h7⟩:=S.rel.new' (n0:=st.nx) hfr (Nat.le_refl (N k)) (show st.nx+i<N k by omega) (by omega) h2 h3 h4
  have hp:=pend_more_new (R:=R) (n0:=st.nx) (L:=L) hlt habs (show(R i).kd.ob=some ob by rw [hk];rfl) (M k).get
  refine wpIn_fw (fun c hc=>by have:=D.new k i o ob S.le ho hk hlo hhi;unfold newA at this;rw [hc] at this;simp at this) ?_
  rw [h1,Oper.uponIn_value]
  refine hK k _ _ _ (S.one D ho h5 S.le (fun j hj=>(hchm j hj (hne j hj)).trans (S.chain j hj)) (by rw [hp];exact h6) ?_ (by rw [hp];exact S.step.trans' h7 (Nat.le_refl _)) h7.le)
  intro i' o'' ob' g1 g2 g3
  have e:i'≠i:=fun e=>by simp [more,e] at g3
  rw [upd_ne _ _ (by omega)]
  exact S.free i' o'' ob' g1 g2 (by simpa [more,if_neg e] using g3)
 | chg =>
  simp only [DK.on,if_true]
  obtain⟨j,hj,hji⟩:=D.chgs i o ho hk
  have hjk:j=k:=by
   have h1:¬ j<k:=fun h=>by have:=(S.chain j hj).2 h;rw [hji,hi] at this;simp at this
   cases j with
   | zero=>omega
   | succ j =>
    have h2:=D.line j hj
    rw [hji] at h2
    have:=(S.chain j (by omega)).1 (hbel _ h2)
    omega
  subst hjk
  subst hji
  obtain⟨o1,ho1,_,Ho⟩:=D.chg j hj
  rw [ho] at ho1;cases ho1
  rw [← D.heap j (c j) o S.le ho] at Ho
  have Ho:=Ho.frame hdis
  rw [← hsplit] at Ho
  have hp:pendA R st.nx ops.size (abs R c j) (fun j'=>L j'&&!(R (c j)).bef.testBit j')=pendA R st.nx ops.size (abs R c (j+1)) (more L (c j)):=by
   refine pendA_ext fun i' hi' hob=>?_
   have e:i'≠c j:=fun e=>by rw [e,hk] at hob;exact hob rfl
   have ea:abs R c (j+1) i'=(R (c j)).bef.testBit i':=rfl
   rw [ea,show more L (c j) i'=L i' by simp [more,if_neg e]]
   constructor
   ·rintro⟨h1,_⟩
    simpa using h1
   ·rintro⟨h1,h2⟩
    refine⟨by simp [h1,h2],?_⟩
    cases e4:abs R c j i' with
    | false=>rfl
    | true =>
     cases j with
     | zero=>simp [abs] at e4
     | succ j =>
      simp only [abs] at e4
      have:=D.trans (c (j+1)) (c (j+1)+1) (by omega) o ho _ (D.line j hj) _ e4
      rw [h2] at this;simp at this
  rw [hp] at Ho
  refine Ho φ w a S.rel (S.glob.step S.step) htm r n _ _ ?_
  intro φ' v' w' h1 h2 h3
  refine hK (j+1) φ' _ _ (S.one D ho h1 hj ?_ h2 ?_ (S.step.trans h3) h3.le)
  ·intro j' hj'
   by_cases e:c j'=c j
   ·have:j'=j:=by
     by_cases e1:j'<j
     ·have:=(S.chain j' hj').2 e1;rw [e,hi] at this;simp at this
     ·by_cases e2:j<j'
      ·exfalso
       have h8:=D.line_lt j' hj' j e2
       have h9:=D.bef_lt (c j') _ (Nat.lt_succ_self _) _ (by rw [e];exact hlt) h8
       rw [e] at h9;exact Nat.lt_irrefl _ h9
      ·omega
    subst this
    simp [more]
   ·simp only [more,if_neg e]
    rw [S.chain j' hj']
    have:j'≠j:=fun q=>e (by rw [q])
    omega
  ·intro i' o' ob g1 g2 g3
   have g4:φ (st.nx+i')=none:=by
    refine S.free i' o' ob g1 g2 ?_
    by_cases e:i'=c j
    ·simp [more,e] at g3
    ·simpa [more,if_neg e] using g3
   cases g5:φ' (st.nx+i') with
   | none=>rfl
   | some l =>
    rcases h3.born _ _ g5 with g6|g6
    ·rw [g4] at g6;simp at g6
    ·have h7:=D.nx_le j S.le
     have h8:i'<ops.size:=(Array.getElem?_eq_some_iff.1 g1).1
     omega
theorem Down.more {L:Nat→Bool} (hL:Down ops L) {i:Nat} {o:Oper} (ho:ops[i]?=some o) (hall:∀ e∈o.after,Region.binds .any e=true→L e.on=true):Down ops (more L i) where
 lt:=fun j hj=>by
  by_cases e:j=i
  ·subst e;exact(Array.getElem?_eq_some_iff.1 ho).1
  ·simp only [Ev.more,if_neg e] at hj;exact hL.lt j hj
 down:=fun j oj hj hoj e he hb=>by
  have:L e.on=true:=by
   by_cases q:j=i
   ·subst q;rw [ho] at hoj;cases hoj;exact hall e he hb
   ·simp only [Ev.more,if_neg q] at hj;exact hL.down j oj hj hoj e he hb
  simp only [Ev.more];split<;>first|rfl|exact this
structure Done (C:Ctx) (nt:Nat) (st st':St) (φ0:Phi) (a0:Act) (w0:World) (φ:Phi) (a:Act) (w:World):Prop where
 lies:Lies C nt φ st' a w
 step:Step φ0 st.hp.get st.nx w0 φ st'.hp.get st'.nx w
theorem Stands.done {φ0:Phi} {a0:Act} {w0:World} {L:Nat→Bool} {k:Nat} {φ:Phi} {a:Act} {w:World} (D:DrawOk P C nt ops st st' R m c M N G)
  (S:Stands C nt ops st R m c M N φ0 a0 w0 L k φ a w) (hdf:DRels φ0 st.df a0.defers) (hall:∀ i,i<ops.size→L i=true):Done C nt st st' φ0 a0 w0 φ a w:=by
 have hk:k=m:=by
  rcases Nat.lt_or_ge k m with h|h
  ·exfalso
   obtain⟨o,ho,_⟩:=D.chg k h
   have:=(S.chain k h).1 (hall _ (Array.getElem?_eq_some_iff.1 ho).1)
   omega
  ·have:=S.le;omega
 subst hk
 have hp:un (pendA R st.nx ops.size (abs R c k) L) (M k).get=st'.hp.get:=by
  rw [D.hpE]
  congr 1
  exact pendA_ext fun i hi _=>by simp [hall i hi]
 refine⟨⟨by rw [← hp,D.nxE];exact S.rel,S.glob.step (show Step φ0 st.hp.get st.nx w0 φ st'.hp.get st'.nx w by rw [← hp,D.nxE];exact S.step),?_,S.size,by rw [S.defers,D.dfE];exact hdf.mono S.step.le⟩,by rw [← hp,D.nxE];exact S.step⟩
 intro t v hv
 rcases D.tmE t v hv with⟨j,oj,h1,h2,h3⟩|⟨h1,h2⟩
 ·subst h3;exact S.cur j oj t h1 (hall j (Array.getElem?_eq_some_iff.1 h1).1) h2
 ·exact S.old t v h1 fun j oj hj hd=>(h2 j oj hj hd).elim
theorem draw_any (hC:CtxOk P C) (D:DrawOk P C nt ops st st' R m c M N G) {φ0:Phi} {a0:Act} {w0:World} (hdf:DRels φ0 st.df a0.defers) {r:Option Nat} {n:Nat} {Q:Exit→Act→World→Prop} (hQ:∀ φ a w,Done C nt st st' φ0 a0 w0 φ a w→Q .normal a w) :
  ∀ (fuel:Nat) (listed:Array Bool) (k:Nat) (φ:Phi) (a:Act) (w:World),listed.size=ops.size→(∃ l:List Nat,l.Nodup∧(∀ i,i∈l↔(i<ops.size∧listed.getD i false=false))∧l.length≤fuel)→Down ops (fun i=>listed.getD i false) →
   Stands C nt ops st R m c M N φ0 a0 w0 (fun i=>listed.getD i false) k φ a w→wpAnyIn (Fw r) n P .any ops Q fuel listed a w:=by
 intro fuel
 have fin:∀ (listed:Array Bool) (k:Nat) (φ:Phi) (a:Act) (w:World),listed.size=ops.size→Region.ready .any ops listed=[]→Stands C nt ops st R m c M N φ0 a0 w0 (fun i=>listed.getD i false) k φ a w→Q .normal a w:=by
  intro listed k φ a w hs hr S
  refine hQ φ a w (S.done D hdf ?_)
  have key:∀ n i,i<n→i<ops.size→listed.getD i false=true:=by
   intro n
   induction n with
   | zero=>intro i hi;omega
   | succ n ih =>
    intro i hi his
    cases hb:listed.getD i false with
    | true=>rfl
    | false =>
     have:i∈Region.ready .any ops listed:=by
      refine mem_ready.2 ⟨?_,ops[i],Array.getElem?_eq_getElem his,fun e he hbe=>?_⟩
      ·have h1:i<listed.size:=by omega
       simp [h1] at hb ⊢;exact hb
      ·have:=D.ord i _ (Array.getElem?_eq_getElem his) e he hbe
       exact ih e.on (by omega) (by omega)
     rw [hr] at this;cases this
  exact fun i hi=>key (i+1) i (by omega) hi
 induction fuel with
 | zero =>
  intro listed k φ a w hs hl hd S
  obtain⟨l,h1,h2,h3⟩:=hl
  have hr:Region.ready .any ops listed=[]:=by
   cases hq:Region.ready .any ops listed with
   | nil=>rfl
   | cons i r =>
    have:i∈Region.ready .any ops listed:=by rw [hq];simp
    obtain⟨h4,o,h5,_⟩:=mem_ready.1 this
    have hlt:=(Array.getElem?_eq_some_iff.1 h5).1
    have:i∈l:=(h2 i).2 ⟨hlt,by have h1:i<listed.size:=by omega
                               simp [h1] at h4 ⊢;exact h4⟩
    cases l with
    | nil=>cases this
    | cons _ _=>simp at h3
  exact⟨hr,fin listed k φ a w hs hr S⟩
 | succ fuel ih =>
  intro listed k φ a w hs hl hd S
  refine⟨fun hr=>fin listed k φ a w hs hr S,fun i hi=>?_⟩
  obtain⟨h4,o,h5,h6⟩:=mem_ready.1 hi
  have hlt:=(Array.getElem?_eq_some_iff.1 h5).1
  have hltl:i<listed.size:=by omega
  have h4':listed.getD i false=false:=by simp [hltl] at h4 ⊢;exact h4
  have hmore:(fun j=>(listed.setIfInBounds i true).getD j false)=more (fun j=>listed.getD j false) i:=by
   funext j
   simp only [more]
   by_cases e:j=i
   ·subst e;simp [hltl]
   ·rw [if_neg e];exact getD_set_ne false (fun q=>e q.symm)
  refine S.next hC D hd h5 h4' h6 fun k' φ' a' w' S'=>?_
  refine ih _ k' φ' a' w' (by simpa using hs) ?_ ?_ ?_
  ·obtain⟨l,g1,g2,g3⟩:=hl
   refine⟨l.erase i,g1.erase i,fun j=>?_,?_⟩
   ·rw [g1.mem_erase_iff,g2 j]
    by_cases e:j=i
    ·subst e;simp [hltl]
    ·rw [getD_set_ne false (fun q=>e q.symm)];simp [e]
   ·have:i∈l:=(g2 i).2 ⟨hlt,h4'⟩
    rw [List.length_erase_of_mem this];omega
  ·rw [hmore];exact hd.more h5 h6
  ·rw [hmore];exact S'
theorem draw_sound (hC:CtxOk P C) (hm:P.follows .mixedOrders=true) (D:DrawOk P C nt ops st st' R m c M N G) {φ:Phi} {a:Act} {w:World} (hl:Lies C nt φ st a w) {id:Nat} {r:Option Nat} {n:Nat} {Q:Exit→Act→World→Prop}
  (hQ:∀ φ' a' w',Lies C nt φ' st' a' w'→Step φ st.hp.get st.nx w φ' st'.hp.get st'.nx w'→Q .normal a' w'):(Code.region id ops true).wpIn (Fw r) n P Q a w:=by
 refine wpIn_region_any hm ?_
 have hrep:∀ i:Nat,(Array.replicate ops.size false).getD i false=false:=fun i=>by
  by_cases h:i<ops.size<;>simp [h]
 have hpend:pendA R st.nx ops.size (abs R c 0) (fun i=>(Array.replicate ops.size false).getD i false)=fun _=>none:=by
  funext id
  unfold pendA
  rw [if_neg]
  rintro⟨_,_,h,_⟩
  simp only [hrep] at h;simp at h
 have hun:un (fun _=>none) st.hp.get=st.hp.get:=by funext id;simp [un]
 have hdr:Rel φ st.hp.get (st.nx+ops.size) { w with drawn:=w.drawn+1 }:=(hl.rel.drew _).less (fun _ _ h=>h) (by omega)
 refine draw_any (φ0:=φ) (a0:=a) (w0:=w) hC D hl.defers (fun φ' a' w' h=>hQ φ' a' w' h.lies h.step) _ _ 0 φ a _ (by simp) ⟨List.range ops.size,List.nodup_range,fun i=>?_,by simp⟩ ?_ ?_
 ·rw [List.mem_range,hrep];simp
 ·exact⟨fun i h=>by rw [hrep] at h;simp at h,fun i o h=>by rw [hrep] at h;simp at h⟩
 ·refine⟨Nat.zero_le _,fun j _=>by simp only [hrep];simp,?_,hl.glob,?_,?_,fun t v h1 _=>hl.tmps t v h1,fun i o t _ h=>by rw [hrep] at h;simp at h,hl.size,rfl⟩
  ·rw [hpend,D.hp0,D.nx0,hun];exact hdr
  ·intro i o ob h1 h2 _
   exact(hl.rel.fresh (by omega)).1
  ·rw [hpend,D.hp0,D.nx0,hun]
   have:=Step.drew φ st.hp.get st.nx w (w.drawn+1)
   exact⟨by omega,this.born,this.le,this.keeps,this.own,this.live⟩
end
inductive Tgt where
 | fn (f:FuncId)
 | yld (id:Nat)
abbrev CallF:=Tgt→List AV→T Obj→Nat→Option R3
def TgtOK (P:Program) (C:Ctx) (args:List AV) (H:Hp) (nx:Nat) (v:AV) (H':Hp) (nx':Nat):Tgt→Prop
 | .fn f=>Enters P f∧CallOK P C f args H nx v H' nx'
 | .yld id=>YieldOK P C id args H nx v H' nx'
def CallSound (P:Program) (C:Ctx) (call:CallF):Prop:=∀ t args hp nx r,call t args hp nx=some r→nx≤r.nx∧TgtOK P C args hp.get nx r.v r.hp.get r.nx t
noncomputable def callA (C:Ctx) (call:CallF) (tm:T AV) (hp:T Obj) (nx:Nat) (o:Oper):Option R3 :=
 match o.op with
 | .call c=>match c.callee with
  | .value x=>match ev C tm x,evs C tm c.args.toList with
   | some (.fn (.func f) first cap),some args=>call (.fn f) (first++args++cap) hp nx
   | some (.yld id),some args=>call (.yld id) args hp nx
   | _,_=>none
  | _=>none
 | _=>none
noncomputable def opA (C:Ctx) (call:CallF) (tm:T AV) (hp:T Obj) (nx:Nat) (o:Oper):Option R3 :=
 match cls o.op with
 | .val=>match valA C tm hp o with
  | some v=>some ⟨v,hp,nx⟩
  | none=>none
 | .new=>match newA C tm hp nx o with
  | some (ob,v)=>some ⟨v,hp.set nx ob,nx+1⟩
  | none=>none
 | .chg=>match chgA C tm hp nx o with
  | some r=>match Nat.ble nx r.nx with|true=>some r|false=>none
  | none=>none
 | .call=>callA C call tm hp nx o
noncomputable def dstB (nt:Nat) (d:Option Tmp):Bool:=match d with|some t=>Nat.blt t nt|none=>true
noncomputable def offA (C:Ctx) (rd:Bool) (st:St) (o:Oper):Option St :=
 match rd,o.op with
 | false,.defer c=>match c.callee with
  | .value x=>match ev C st.tm x,evs C st.tm c.args.toList with
   | some (.fn (.func f) first cap),some args=>some { st with tm:=putT st.tm o.dst undefA,df:=.call f (first++args) cap::st.df }
   | _,_=>none
  | _=>none
 | _,_=>none
noncomputable def opsA (C:Ctx) (call:CallF) (nt:Nat) (rd:Bool) (ops:List Oper):List Oper→St→Option St
 | [],st=>some st
 | o::l,st=>match dstB nt o.dst,wantedA ops st.tm o with
  | true,some false=>opsA C call nt rd ops l { st with tm:=putT st.tm o.dst undefA }
  | true,some true=>match opA C call st.tm st.hp st.nx o with
   | some r=>opsA C call nt rd ops l ⟨putT st.tm o.dst r.v,r.hp,r.nx,st.df⟩
   | none=>match offA C rd st o with
    | some st'=>opsA C call nt rd ops l st'
    | none=>none
  | _,_=>none
section
variable {P:Program} {C:Ctx} {call:CallF}
theorem dstB_ok {nt:Nat} {d:Option Tmp} (h:dstB nt d=true):dstOk nt d:=by
 intro t ht;subst ht
 simpa [dstB,Nat.blt_eq] using h
theorem callA_ok (hc:CallSound P C call) {tm:T AV} {hp:T Obj} {nx:Nat} {o:Oper} {r:R3} (h:callA C call tm hp nx o=some r):nx≤r.nx∧OpOK P C o tm hp.get nx r.v r.hp.get r.nx:=by
 unfold callA at h
 split at h
 ·next c ho =>
  split at h
  ·next x hx =>
   split at h
   ·next f first cap args he ha =>
    obtain⟨h1,h2,h3⟩:=hc _ _ _ _ _ h
    exact⟨h1,OpOK.call ho hx he ha h2 h3⟩
   ·next id args he ha =>
    obtain⟨h1,h2⟩:=hc _ _ _ _ _ h
    exact⟨h1,OpOK.yield ho hx he ha h2⟩
   ·simp at h
  ·simp at h
 ·simp at h
theorem opA_ok (hC:CtxOk P C) (hc:CallSound P C call) {tm:T AV} {hp:T Obj} {nx:Nat} {o:Oper} {r:R3} (h:opA C call tm hp nx o=some r):nx≤r.nx∧OpOK P C o tm hp.get nx r.v r.hp.get r.nx:=by
 unfold opA at h
 split at h
 ·split at h
  ·next v hv=>simp only [Option.some.injEq] at h;subst h;exact⟨Nat.le_refl _,OpOK.val hC hv nx⟩
  ·simp at h
 ·split at h
  ·next ob v hv =>
   simp only [Option.some.injEq] at h;subst h
   refine⟨Nat.le_succ _,?_⟩
   rw [set_get]
   exact OpOK.new hC (Nat.le_refl _) (Nat.lt_succ_self _) hv
  ·simp at h
 ·split at h
  ·next r' hv =>
   split at h
   ·next hn=>simp only [Option.some.injEq] at h;subst h;exact⟨Nat.le_of_ble_eq_true hn,OpOK.chg hC hv⟩
   ·simp at h
  ·simp at h
 ·exact callA_ok hc h
theorem opsA_ok (hC:CtxOk P C) (hc:CallSound P C call) {nt:Nat} {rd:Bool} {ops:List Oper}:∀ {l:List Oper} {st st':St},opsA C call nt rd ops l st=some st'→st.nx≤st'.nx∧OpsR P C nt rd ops l st st':=by
 intro l
 induction l with
 | nil=>intro st st' h;simp only [opsA,Option.some.injEq] at h;subst h;exact⟨Nat.le_refl _,.nil _⟩
 | cons o l ih =>
  intro st st' h
  unfold opsA at h
  split at h
  ·next hd hw =>
   obtain⟨h1,h2⟩:=ih h
   exact⟨h1,.skip hw (dstB_ok hd) h2⟩
  ·next hd hw =>
   split at h
   ·next r hr =>
    obtain⟨h1,h2⟩:=ih h
    obtain⟨h3,h4⟩:=opA_ok hC hc hr
    exact⟨Nat.le_trans h3 h1,.step hw (dstB_ok hd) h4 h2⟩
   ·split at h
    ·next st1 h1 =>
     unfold offA at h1
     split at h1
     ·next c ho =>
      split at h1
      ·next x hx =>
       split at h1
       ·next f first cap args he ha =>
        simp only [Option.some.injEq] at h1
        subst h1
        obtain⟨h1,h2⟩:=ih h
        exact⟨h1,.off rfl hw (dstB_ok hd) ho hx he ha h2⟩
       ·simp at h1
      ·simp at h1
     ·simp at h1
    ·simp at h
  ·simp at h
end
mutual
def AV.same:AV→AV→Bool
 | .bool a,.bool b=>match a,b with|true,true|false,false=>true|_,_=>false
 | .int k a,.int l b=>match kindEq k l with|true=>intEq a b|false=>false
 | .str a,.str b=>bytesEq a b
 | .ptr a o,.ptr b p=>match Nat.beq a b with|true=>Nat.beq o p|false=>false
 | .it a,.it b=>Nat.beq a b
 | .nptr,.nptr=>true
 | .sl a o n c x s,.sl a' o' n' c' x' s'=>match Nat.beq a a',Nat.beq o o',Nat.beq n n',Nat.beq c c',Nat.beq s s',x,x' with
  | true,true,true,true,true,true,true|true,true,true,true,true,false,false=>true
  | _,_,_,_,_,_,_=>false
 | .nsl,.nsl=>true
 | .map a,.map b=>Nat.beq a b
 | .nmap,.nmap=>true
 | .fn (.func f) a b,.fn (.func g) c d=>match Nat.beq f g,AV.sames a c with|true,true=>AV.sames b d|_,_=>false
 | .nfn,.nfn=>true
 | .iface t a,.iface u b=>match Nat.beq t u with|true=>AV.same a b|false=>false
 | .nif,.nif=>true
 | .agg a,.agg b=>AV.sames a b
 | .tup a,.tup b=>AV.sames a b
 | _,_=>false
def AV.sames:List AV→List AV→Bool
 | [],[]=>true
 | a::x,b::y=>match AV.same a b with|true=>AV.sames x y|false=>false
 | _,_=>false
end
mutual
theorem AV.same_eq:∀ {a b:AV},AV.same a b=true→a=b
 | .bool a,.bool b,h=>by cases a<;>cases b<;>simp_all [AV.same]
 | .int k a,.int l b,h=>by
  simp only [AV.same] at h
  split at h
  ·next hk=>rw [kindEq_iff.1 hk];rw [intEq_iff] at h;simp at h;rw [h]
  ·simp at h
 | .str a,.str b,h=>by simp only [AV.same] at h;rw [(bytesEq_iff _ _).1 h]
 | .ptr a o,.ptr b p,h=>by
  simp only [AV.same] at h
  split at h
  ·next hk=>rw [Nat.eq_of_beq_eq_true hk,Nat.eq_of_beq_eq_true h]
  ·simp at h
 | .it a,.it b,h=>by simp only [AV.same] at h;rw [Nat.eq_of_beq_eq_true h]
 | .nptr,.nptr,_=>rfl
 | .sl a o n c x s,.sl a' o' n' c' x' s',h=>by
  simp only [AV.same] at h
  split at h
  ·next h1 h2 h3 h4 h5=>rw [Nat.eq_of_beq_eq_true h1,Nat.eq_of_beq_eq_true h2,Nat.eq_of_beq_eq_true h3,Nat.eq_of_beq_eq_true h4,Nat.eq_of_beq_eq_true h5]
  ·next h1 h2 h3 h4 h5=>rw [Nat.eq_of_beq_eq_true h1,Nat.eq_of_beq_eq_true h2,Nat.eq_of_beq_eq_true h3,Nat.eq_of_beq_eq_true h4,Nat.eq_of_beq_eq_true h5]
  ·simp at h
 | .nsl,.nsl,_=>rfl
 | .map a,.map b,h=>by simp only [AV.same] at h;rw [Nat.eq_of_beq_eq_true h]
 | .nmap,.nmap,_=>rfl
 | .fn (.func f) a b,.fn (.func g) c d,h=>by
  simp only [AV.same] at h
  split at h
  ·next h1 h2=>rw [Nat.eq_of_beq_eq_true h1,AV.sames_eq h2,AV.sames_eq h]
  ·simp at h
 | .nfn,.nfn,_=>rfl
 | .iface t a,.iface u b,h=>by
  simp only [AV.same] at h
  split at h
  ·next hk=>rw [Nat.eq_of_beq_eq_true hk,AV.same_eq h]
  ·simp at h
 | .nif,.nif,_=>rfl
 | .agg a,.agg b,h=>by simp only [AV.same] at h;rw [AV.sames_eq h]
 | .tup a,.tup b,h=>by simp only [AV.same] at h;rw [AV.sames_eq h]
theorem AV.sames_eq:∀ {a b:List AV},AV.sames a b=true→a=b
 | [],[],_=>rfl
 | a::x,b::y,h=>by
  simp only [AV.sames] at h
  split at h
  ·next hk=>rw [AV.same_eq hk,AV.sames_eq h]
  ·simp at h
end
def Obj.same:Obj→Obj→Bool
 | .cells a n,.cells b m=>match Nat.beq n m with|true=>AV.sames a b|false=>false
 | .map [] c,.map [] d=>Nat.beq c d
 | .sIter s p,.sIter t q=>match Nat.beq p q with|true=>bytesEq s t|false=>false
 | .mIter a b c,.mIter x y z=>match Nat.beq a x,Nat.beq b y with|true,true=>Nat.beq c z|_,_=>false
 | _,_=>false
theorem Obj.same_eq {a b:Obj} (h:Obj.same a b=true):a=b:=by
 unfold Obj.same at h
 split at h
 ·split at h
  ·next hk=>rw [Nat.eq_of_beq_eq_true hk,AV.sames_eq h]
  ·simp at h
 ·rw [Nat.eq_of_beq_eq_true h]
 ·split at h
  ·next hk=>rw [Nat.eq_of_beq_eq_true hk,(bytesEq_iff _ _).1 h]
  ·simp at h
 ·split at h
  ·next h1 h2=>rw [Nat.eq_of_beq_eq_true h1,Nat.eq_of_beq_eq_true h2,Nat.eq_of_beq_eq_true h]
  ·simp at h
 ·simp at h
def tb (m i:Nat):Bool:=Nat.beq (Nat.land 1 (Nat.shiftRight m i)) 1
theorem tb_eq (m i:Nat):tb m i=m.testBit i:=by
 unfold tb Nat.testBit
 rw [Bool.eq_iff_iff]
 have:Nat.land 1 (Nat.shiftRight m i)=1 &&& (m >>> i):=rfl
 rw [this]
 have h:1 &&& (m >>> i)=0∨1 &&& (m >>> i)=1:=by
  rw [Nat.one_and_eq_mod_two];omega
 rcases h with h|h<;>rw [h]<;>simp
def dr0:DRec:=⟨0,.off,.leaf,undefA⟩
noncomputable def recAt (rs:T DRec) (i:Nat):DRec:=match rs.get i with|some r=>r|none=>dr0
noncomputable def befA (rs:T DRec) (i:Nat):List Edge→Nat→Option Nat
 | [],m=>some m
 | e::l,m=>match Region.binds .any e with
  | false=>befA rs i l m
  | true=>match Nat.blt e.on i with
   | true=>befA rs i l (Nat.lor m (Nat.lor (Nat.shiftLeft 1 e.on) (recAt rs e.on).bef))
   | false=>none
noncomputable def ownA (nt:Nat):List Oper→Nat→T Nat→Option (T Nat)
 | [],_,t=>some t
 | o::l,i,t=>match o.dst with
  | none=>ownA nt l (i+1) t
  | some d=>match Nat.blt d nt,t.get d with
   | true,none=>ownA nt l (i+1) (t.set d i)
   | _,_=>none
noncomputable def tmA (ow:T Nat) (rs:T DRec) (tm0:T AV) (bef:Nat):List Nat→T AV→T AV
 | [],t=>t
 | d::l,t=>match ow.get d with
  | some j=>match tb bef j with
   | true=>tmA ow rs tm0 bef l (t.set d (recAt rs j).v)
   | false=>match tm0.get d with
    | some v=>tmA ow rs tm0 bef l (t.set d v)
    | none=>tmA ow rs tm0 bef l t
  | none=>match tm0.get d with
   | some v=>tmA ow rs tm0 bef l (t.set d v)
   | none=>tmA ow rs tm0 bef l t
def look1:Operand→List Nat→List Nat
 | .tmp t,l=>t::l
 | _,l=>l
def lookL:List Operand→List Nat→List Nat
 | [],l=>l
 | x::xs,l=>look1 x (lookL xs l)
def lookP:List (Nat×Operand)→List Nat→List Nat
 | [],l=>l
 | x::xs,l=>look1 x.2 (lookP xs l)
def lookO:Option Operand→List Nat→List Nat
 | none,l=>l
 | some x,l=>look1 x l
def lookOp (op:Op) (r:List Nat):List Nat :=
 match op with
 | .move x|.assign x|.box _ x|.load _ x|.nilCheck x|.unOp _ _ x|.convert _ _ x|.makeInterface _ x
 | .fieldAddr _ x _|.field _ x _|.range _ x|.next x _|.entry x|.typeAssert x _ _ _|.extract x _=>look1 x r
 | .pick c a b=>look1 c (look1 a (look1 b r))
 | .build _ ps|.buildSlice _ _ ps=>lookP ps.toList r
 | .store _ a v|.binOp _ _ a v _|.makeSlice _ a v|.indexAddr _ a v|.index _ a v|.lookup _ a v _=>look1 a (look1 v r)
 | .makeFunc _ first captured=>lookL first.toList (lookL captured.toList r)
 | .makeMap _ x=>lookO x r
 | .slice _ x l h m=>look1 x (lookO l (lookO h (lookO m r)))
 | .mapUpdate _ m k v|.insert _ m k v=>look1 m (look1 k (look1 v r))
 | .call c=>match c.callee with
  | .value f=>look1 f (lookL c.args.toList r)
  | _=>lookL c.args.toList r
 | _=>r
def looks (ops:List Oper) (o:Oper):List Nat :=
 lookOp o.op (match o.guard with
  | none=>[]
  | some g=>match nth ops g.1 with
   | none=>[]
   | some og=>match og.dst with|some d=>[d]|none=>[])
def fnSet {α:Type} (f:Nat→α) (i:Nat) (x:α):Nat→α:=fun j=>match Nat.beq i j with|true=>x|false=>f j
theorem fnSet_eq {α:Type} (f:Nat→α) (i:Nat) (x:α) (j:Nat):fnSet f i x j=if i=j then x else f j:=by
 unfold fnSet
 split
 ·next h=>rw [if_pos (Nat.eq_of_beq_eq_true h)]
 ·next h=>rw [if_neg (fun e=>by subst e;simp at h)]
structure DSt where
 rs:T DRec
 als:List (Nat×Obj)
 m:Nat
 c:Nat→Nat
 M:Nat→T Obj
 N:Nat→Nat
def absM (rs:Nat→DRec) (c:Nat→Nat):Nat→Nat
 | 0=>0
 | k+1=>(rs (c k)).bef
noncomputable def plusA (n0 b a:Nat) (hp:T Obj):List (Nat×Obj)→T Obj
 | []=>hp
 | p::l=>match tb b p.1,tb a p.1 with
  | true,false=>(plusA n0 b a hp l).set (n0+p.1) p.2
  | _,_=>plusA n0 b a hp l
noncomputable def drawGo (C:Ctx) (call:CallF) (nt:Nat) (ops:List Oper) (ow:T Nat) (st:St):List Oper→Nat→DSt→Option DSt
 | [],_,d=>some d
 | o::l,i,d=>match befA d.rs i o.after.toList 0 with
  | none=>none
  | some b =>
   let tm:=tmA ow d.rs st.tm b (looks ops o) .leaf
   match wantedA ops tm o with
   | none=>none
   | some false=>drawGo C call nt ops ow st l (i+1) { d with rs:=d.rs.set i ⟨b,.off,tm,undefA⟩ }
   | some true =>
    let g:=plusA st.nx b (absM (recAt d.rs) d.c d.m) (d.M d.m) d.als
    match cls o.op with
    | .val=>match valA C tm g o with
     | some v=>drawGo C call nt ops ow st l (i+1) { d with rs:=d.rs.set i ⟨b,.val,tm,v⟩ }
     | none=>none
    | .new=>match newA C tm g (st.nx+i) o with
     | some (ob,v)=>drawGo C call nt ops ow st l (i+1) { d with rs:=d.rs.set i ⟨b,.new ob,tm,v⟩,als:=(i,ob)::d.als }
     | none=>none
    | _=>match opA C call tm g (d.N d.m) o,(match d.m with|0=>true|k+1=>tb b (d.c k)) with
     | some r,true=>drawGo C call nt ops ow st l (i+1) { d with rs:=d.rs.set i ⟨b,.chg,tm,r.v⟩,m:=d.m+1,c:=fnSet d.c d.m i,M:=fnSet d.M (d.m+1) r.hp,N:=fnSet d.N (d.m+1) r.nx }
     | _,_=>none
noncomputable def mayAt (rs:T DRec) (m:Nat) (c:Nat→Nat) (i b k:Nat):Bool :=
 match (match Nat.blt k m with|true=>tb b (c k)|false=>false) with
 | true=>false
 | false=>match k with
  | 0=>true
  | k+1=>match tb (recAt rs (c k)).bef i with|true=>false|false=>true
noncomputable def okAt (C:Ctx) (st:St) (d:DSt) (o:Oper) (i:Nat) (r:DRec) (k:Nat):Bool :=
 match r.kd with
 | .val=>match mayAt d.rs d.m d.c i r.bef k with
  | false=>true
  | true=>match valA C r.tm (plusA st.nx r.bef (absM (recAt d.rs) d.c k) (d.M k) d.als) o with
   | some v=>AV.same v r.v
   | none=>false
 | .new ob=>match (match tb (absM (recAt d.rs) d.c k) i,(d.M k).get (st.nx+i) with|false,some _=>false|_,_=>true) with
  | false=>false
  | true=>match mayAt d.rs d.m d.c i r.bef k with
   | false=>true
   | true=>match newA C r.tm (plusA st.nx r.bef (absM (recAt d.rs) d.c k) (d.M k) d.als) (st.nx+i) o with
    | some (ob',v)=>match Obj.same ob' ob with|true=>AV.same v r.v|false=>false
    | none=>false
 | _=>true
noncomputable def okAts (C:Ctx) (st:St) (d:DSt) (o:Oper) (i:Nat) (r:DRec):Nat→Bool
 | 0=>okAt C st d o i r 0
 | k+1=>match okAt C st d o i r (k+1) with|true=>okAts C st d o i r k|false=>false
noncomputable def okAll (C:Ctx) (st:St) (d:DSt):List Oper→Nat→Bool
 | [],_=>true
 | o::l,i=>match okAts C st d o i (recAt d.rs i) d.m with|true=>okAll C st d l (i+1)|false=>false
noncomputable def lookOne (ow:T Nat) (rs:T DRec) (i b:Nat):List Nat→Bool
 | []=>true
 | d::l=>match ow.get d with
  | none=>lookOne ow rs i b l
  | some j=>match tb b j with
   | true=>lookOne ow rs i b l
   | false=>match tb (recAt rs j).bef i with
    | true=>lookOne ow rs i b l
    | false=>false
noncomputable def lookAll (ops:List Oper) (ow:T Nat) (rs:T DRec):List Oper→Nat→Bool
 | [],_=>true
 | o::l,i=>match lookOne ow rs i (recAt rs i).bef (looks ops o) with
  | true=>lookAll ops ow rs l (i+1)
  | false=>false
noncomputable def tmEnd (rs:T DRec):List Oper→Nat→T AV→T AV
 | [],_,t=>t
 | o::l,i,t=>tmEnd rs l (i+1) (putT t o.dst (recAt rs i).v)
noncomputable def plusAll (n0 a:Nat) (hp:T Obj):List (Nat×Obj)→T Obj
 | []=>hp
 | p::l=>match tb a p.1 with
  | false=>(plusAll n0 a hp l).set (n0+p.1) p.2
  | true=>plusAll n0 a hp l
noncomputable def drawA (C:Ctx) (call:CallF) (nt:Nat) (ops:List Oper) (st:St):Option St :=
 match ownA nt ops 0 .leaf with
 | none=>none
 | some ow=>match drawGo C call nt ops ow st ops 0 ⟨.leaf,[],0,fun _=>0,fun _=>st.hp,fun _=>st.nx+ops.length⟩ with
  | none=>none
  | some d=>match okAll C st d ops 0,lookAll ops ow d.rs ops 0 with
   | true,true=>some ⟨tmEnd d.rs ops 0 st.tm,plusAll st.nx (absM (recAt d.rs) d.c d.m) (d.M d.m) d.als,d.N d.m,st.df⟩
   | _,_=>none
section
variable {P:Program} {C:Ctx} {call:CallF} {nt:Nat} {ops:Array Oper} {st:St}
theorem drop_head {l:List Oper} {o:Oper} {i:Nat} (hi:ops.toList.drop i=o::l):ops[i]?=some o∧ops.toList.drop (i+1)=l:=by
 constructor
 ·rw [← Array.getElem?_toList]
  have:=congrArg (fun l:List Oper=>l[0]?) hi
  simpa [List.getElem?_drop] using this
 ·have:=congrArg (fun l:List Oper=>l.drop 1) hi
  simpa [List.drop_drop,Nat.add_comm] using this
theorem drop_nil {i:Nat} (hi:ops.toList.drop i=[]):ops.size≤i:=by
 have:=congrArg List.length hi
 simp at this;omega
structure Owns (ops:Array Oper) (nt i:Nat) (t:T Nat):Prop where
 get:∀ (d j:Nat),t.get d=some j↔j<i∧∃ o:Oper,ops[j]?=some o∧o.dst=some d
 dst:∀ (j:Nat) (o:Oper),j<i→ops[j]?=some o→dstOk nt o.dst
theorem ownA_ok:∀ {l:List Oper} {i:Nat} {t ow:T Nat},ops.toList.drop i=l→Owns ops nt i t→ownA nt l i t=some ow→∃ n,ops.size≤n∧Owns ops nt n ow:=by
 intro l
 induction l with
 | nil=>intro i t ow hi ht h;simp only [ownA,Option.some.injEq] at h;subst h;exact⟨i,drop_nil hi,ht⟩
 | cons o l ih =>
  intro i t ow hi ht h
  obtain⟨ho,hi'⟩:=drop_head hi
  unfold ownA at h
  split at h
  ·next hd =>
   refine ih hi' ⟨fun d j=>?_,fun j o' hj ho'=>?_⟩ h
   ·rw [ht.get]
    constructor
    ·rintro⟨h1,h2⟩;exact⟨by omega,h2⟩
    ·rintro⟨h1,o',h2,h3⟩
     refine⟨?_,o',h2,h3⟩
     by_cases e:j=i
     ·subst e;rw [ho] at h2;cases h2;rw [hd] at h3;simp at h3
     ·omega
   ·by_cases e:j=i
    ·subst e;rw [ho] at ho';cases ho';rw [hd];intro t ht;simp at ht
    ·exact ht.dst j o' (by omega) ho'
  ·next d hd =>
   split at h
   ·next hb hg =>
    refine ih hi' ⟨fun d' j=>?_,fun j o' hj ho'=>?_⟩ h
    ·rw [T.get_set]
     by_cases e:d=d'
     ·subst e
      rw [if_pos rfl]
      constructor
      ·intro hh;cases hh;exact⟨by omega,o,ho,hd⟩
      ·rintro⟨h1,o',h2,h3⟩
       by_cases e:j=i
       ·rw [e]
       ·have:=(ht.get d j).2 ⟨by omega,o',h2,h3⟩
        rw [hg] at this;simp at this
     ·rw [if_neg e,ht.get]
      constructor
      ·rintro⟨h1,h2⟩;exact⟨by omega,h2⟩
      ·rintro⟨h1,o',h2,h3⟩
       refine⟨?_,o',h2,h3⟩
       by_cases e':j=i
       ·subst e';rw [ho] at h2;cases h2;rw [hd] at h3;simp at h3;exact absurd h3 e
       ·omega
    ·by_cases e:j=i
     ·subst e;rw [ho] at ho';cases ho';rw [hd];intro t ht';cases ht';simpa [Nat.blt_eq] using hb
     ·exact ht.dst j o' (by omega) ho'
   ·simp at h
theorem befA_ok {rs:T DRec} {i:Nat}:∀ {l:List Edge} {m b:Nat},befA rs i l m=some b →
  (∀ x,b.testBit x=true↔(m.testBit x=true∨∃ e∈l,Region.binds .any e=true∧(x=e.on∨(recAt rs e.on).bef.testBit x=true)))∧(∀ e∈l,Region.binds .any e=true→e.on<i):=by
 intro l
 induction l with
 | nil=>intro m b h;simp only [befA,Option.some.injEq] at h;subst h;simp
 | cons e l ih =>
  intro m b h
  unfold befA at h
  split at h
  ·next hb =>
   obtain⟨h1,h2⟩:=ih h
   refine⟨fun x=>?_,?_⟩
   ·rw [h1 x];simp [hb]
   ·intro e' he' hb'
    rcases List.mem_cons.1 he' with rfl|he'
    ·rw [hb] at hb';simp at hb'
    ·exact h2 e' he' hb'
  ·next hb =>
   split at h
   ·next hlt =>
    obtain⟨h1,h2⟩:=ih h
    refine⟨fun x=>?_,?_⟩
    ·rw [h1 x]
     have e1:Nat.lor m (Nat.lor (Nat.shiftLeft 1 e.on) (recAt rs e.on).bef)=m ||| (1 <<< e.on ||| (recAt rs e.on).bef):=rfl
     rw [e1,Nat.testBit_or,Nat.testBit_or,Nat.one_shiftLeft,Nat.testBit_two_pow]
     simp only [Bool.or_eq_true,decide_eq_true_eq,List.mem_cons,exists_eq_or_imp,hb,true_and]
     constructor
     ·rintro((a|b|c)|d)
      ·exact .inl a
      ·exact .inr (.inl (.inl b.symm))
      ·exact .inr (.inl (.inr c))
      ·exact .inr (.inr d)
     ·rintro(a|(b|c)|d)
      ·exact .inl (.inl a)
      ·exact .inl (.inr (.inl b.symm))
      ·exact .inl (.inr (.inr c))
      ·exact .inr d
    ·intro e' he' hb'
     rcases List.mem_cons.1 he' with rfl|he'
     ·simpa [Nat.blt_eq] using hlt
     ·exact h2 e' he' hb'
   ·simp at h
def TmOk (ops:Array Oper) (st:St) (R:Nat→DRec) (L:List Nat) (b:Nat) (tm:T AV):Prop:=∀ (t:Nat) (v:AV),tm.get t=some v →
 (∃ (j:Nat) (oj:Oper),ops[j]?=some oj∧oj.dst=some t∧b.testBit j=true∧(R j).v=v)∨(st.tm.get t=some v∧t∈L∧∀ (j:Nat) (oj:Oper),ops[j]?=some oj→oj.dst=some t→b.testBit j=false)
theorem tmA_ok {n:Nat} {ow:T Nat} (hn:ops.size≤n) (how:Owns ops nt n ow) {rs:T DRec} {b:Nat} {L:List Nat}:∀ {l:List Nat} {t:T AV},(∀ d∈l,d∈L)→TmOk ops st (recAt rs) L b t→TmOk ops st (recAt rs) L b (tmA ow rs st.tm b l t):=by
 intro l
 induction l with
 | nil=>intro t _ ht;exact ht
 | cons d l ih =>
  intro t hl ht
  have ih:=fun {t:T AV}=>ih (t:=t) fun d hd=>hl d (List.mem_cons_of_mem _ hd)
  unfold tmA
  split
  ·next j hj =>
   obtain⟨_,oj,h1,h2⟩:=(how.get d j).1 hj
   split
   ·next hb =>
    refine ih fun t' v hv=>?_
    rw [T.get_set] at hv
    by_cases e:d=t'
    ·subst e
     rw [if_pos rfl] at hv;cases hv
     rw [tb_eq] at hb
     exact .inl ⟨j,oj,h1,h2,hb,rfl⟩
    ·rw [if_neg e] at hv;exact ht t' v hv
   ·next hb =>
    split
    ·next v hv0 =>
     refine ih fun t' v' hv=>?_
     rw [T.get_set] at hv
     by_cases e:d=t'
     ·subst e
      rw [if_pos rfl] at hv;cases hv
      refine .inr ⟨hv0,hl d (List.mem_cons_self ..),fun j' oj' h1' h2'=>?_⟩
      have:=(how.get d j').2 ⟨by have:=(Array.getElem?_eq_some_iff.1 h1').1;omega,oj',h1',h2'⟩
      rw [hj] at this;cases this
      rw [tb_eq] at hb;exact hb
     ·rw [if_neg e] at hv;exact ht t' v' hv
    ·exact ih ht
  ·next hj =>
   split
   ·next v hv0 =>
    refine ih fun t' v' hv=>?_
    rw [T.get_set] at hv
    by_cases e:d=t'
    ·subst e
     rw [if_pos rfl] at hv;cases hv
     refine .inr ⟨hv0,hl d (List.mem_cons_self ..),fun j oj h1 h2=>?_⟩
     have:=(how.get d j).2 ⟨by have:=(Array.getElem?_eq_some_iff.1 h1).1;omega,oj,h1,h2⟩
     rw [hj] at this;simp at this
    ·rw [if_neg e] at hv;exact ht t' v' hv
   ·exact ih ht
theorem plusA_get {R:Nat→DRec} {n0 n b a:Nat} {hp:T Obj}:∀ {als:List (Nat×Obj)},(∀ p∈als,p.1<n∧(R p.1).kd=.new p.2) →
  (∀ j ob,j<n→b.testBit j=true→(R j).kd=.new ob→(j,ob)∈als)→(plusA n0 b a hp als).get=un (pendA R n0 n (fun j=>a.testBit j) fun j=>b.testBit j) hp.get:=by
 intro als h1 h2
 have key:∀ l:List (Nat×Obj),(∀ p∈l,p.1<n∧(R p.1).kd=.new p.2)→∀ id,
   (∀ p∈l,id=n0+p.1→b.testBit p.1=true→a.testBit p.1=false→(plusA n0 b a hp l).get id=some p.2) ∧
   ((∀ p∈l,id=n0+p.1→b.testBit p.1=true→a.testBit p.1=false→False)→(plusA n0 b a hp l).get id=hp.get id):=by
  intro l
  induction l with
  | nil=>intro _ id;exact⟨fun p hp=>(by cases hp),fun _=>rfl⟩
  | cons q l ih =>
   intro hl id
   obtain⟨i1,i2⟩:=ih (fun p hp=>hl p (List.mem_cons_of_mem _ hp)) id
   unfold plusA
   split
   ·next hb ha =>
    rw [tb_eq] at hb ha
    constructor
    ·intro p hp e hb' ha'
     rw [T.get_set]
     by_cases e1:n0+q.1=id
     ·rw [if_pos e1]
      have e2:q.1=p.1:=by omega
      have g1:=(hl q (List.mem_cons_self ..)).2
      have g2:=(hl p hp).2
      rw [e2,g2] at g1
      rw [DK.new.inj g1]
     ·rw [if_neg e1]
      rcases List.mem_cons.1 hp with rfl|hp
      ·exact absurd e.symm e1
      ·exact i1 p hp e hb' ha'
    ·intro hno
     rw [T.get_set]
     by_cases e1:n0+q.1=id
     ·exact(hno q (List.mem_cons_self ..) e1.symm hb ha).elim
     ·rw [if_neg e1]
      exact i2 fun p hp=>hno p (List.mem_cons_of_mem _ hp)
   ·next hq =>
    constructor
    ·intro p hp e hb' ha'
     rcases List.mem_cons.1 hp with rfl|hp
     ·rw [tb_eq,tb_eq] at hq;exact(hq hb' ha').elim
     ·exact i1 p hp e hb' ha'
    ·intro hno
     exact i2 fun p hp=>hno p (List.mem_cons_of_mem _ hp)
 funext id
 obtain⟨k1,k2⟩:=key als h1 id
 cases hq:pendA R n0 n (fun j=>a.testBit j) (fun j=>b.testBit j) id with
 | some ob =>
  obtain⟨j,rfl,hj,hL,ha,hk⟩:=pendA_some hq
  rw [un_some hq]
  exact k1 (j,ob) (h2 j ob hj hL (ob_new hk)) rfl hL ha
 | none =>
  rw [un_none hq]
  refine k2 fun p hp e hb ha=>?_
  obtain⟨g1,g2⟩:=h1 p hp
  rw [e,pendA_of g1 hb ha (by rw [g2];rfl)] at hq
  simp at hq
theorem abs_absM {R:Nat→DRec} {c:Nat→Nat} {k:Nat}:(fun j=>(absM R c k).testBit j)=abs R c k:=by
 funext j
 cases k with
 | zero=>simp [absM,abs]
 | succ k=>rfl
theorem recAt_set (rs:T DRec) (i:Nat) (r:DRec) (j:Nat):recAt (rs.set i r) j=if i=j then r else recAt rs j:=by
 unfold recAt
 rw [T.get_set]
 by_cases e:i=j
 ·rw [if_pos e,if_pos e]
 ·rw [if_neg e,if_neg e]
theorem pendA_congr {R R':Nat→DRec} {n0 n:Nat} {ab ab' L:Nat→Bool} (h:∀ j,L j=true→R j=R' j) (ha:ab=ab'):pendA R n0 n ab L=pendA R' n0 n ab' L:=by
 subst ha
 funext id
 unfold pendA
 by_cases hc:n0≤id∧id - n0<n∧L (id - n0)=true∧ab (id - n0)=false
 ·rw [if_pos hc,if_pos hc,h _ hc.2.2.1]
 ·rw [if_neg hc,if_neg hc]
structure Pre (P:Program) (C:Ctx) (ops:Array Oper) (st:St) (i:Nat) (d:DSt):Prop where
 bef:∀ (j:Nat) (o:Oper),j<i→ops[j]?=some o→∀ x,(recAt d.rs j).bef.testBit x=true↔∃ e∈o.after,Region.binds .any e=true∧(x=e.on∨(recAt d.rs e.on).bef.testBit x=true)
 lt:∀ (j x:Nat),j<i→(recAt d.rs j).bef.testBit x=true→x<j
 ord:∀ (j:Nat) (o:Oper),j<i→ops[j]?=some o→∀ e∈o.after,Region.binds .any e=true→e.on<j
 tmp:∀ (j:Nat) (o:Oper),j<i→ops[j]?=some o→TmOk ops st (recAt d.rs) (looks ops.toList o) (recAt d.rs j).bef (recAt d.rs j).tm
 want:∀ (j:Nat) (o:Oper),j<i→ops[j]?=some o→wantedA ops.toList (recAt d.rs j).tm o=some (recAt d.rs j).kd.on
 off:∀ (j:Nat),j<i→(recAt d.rs j).kd=.off→(recAt d.rs j).v=undefA
 chg:∀ k,k<d.m→d.c k<i∧∃ o,ops[d.c k]?=some o∧(recAt d.rs (d.c k)).kd=.chg ∧
  OpOK P C o (recAt d.rs (d.c k)).tm (un (pendA (recAt d.rs) st.nx ops.size (abs (recAt d.rs) d.c k) fun j=>(recAt d.rs (d.c k)).bef.testBit j) (d.M k).get) (d.N k) (recAt d.rs (d.c k)).v (d.M (k+1)).get (d.N (k+1))
 chgs:∀ (j:Nat),j<i→(recAt d.rs j).kd=.chg→∃ k,k<d.m∧d.c k=j
 line:∀ k,k+1<d.m→(recAt d.rs (d.c (k+1))).bef.testBit (d.c k)=true
 als:∀ (j:Nat) (ob:Obj),(j,ob)∈d.als↔j<i∧(recAt d.rs j).kd=.new ob
 hp0:d.M 0=st.hp
 nx0:d.N 0=st.nx+ops.size
 nxs:∀ k,k<d.m→d.N k≤d.N (k+1)
theorem Pre.plus {i:Nat} {d:DSt} (h:Pre P C ops st i d) (hi:i≤ops.size) {b:Nat} (hb:∀ x,b.testBit x=true→x<i) (k:Nat) :
  (plusA st.nx b (absM (recAt d.rs) d.c k) (d.M k) d.als).get=un (pendA (recAt d.rs) st.nx ops.size (abs (recAt d.rs) d.c k) fun j=>b.testBit j) (d.M k).get:=by
 rw [← abs_absM]
 refine plusA_get (fun p hp=>?_) fun j ob hj hL hk=>(h.als j ob).2 ⟨hb j hL,hk⟩
 obtain⟨h1,h2⟩:=(h.als p.1 p.2).1 hp
 exact⟨by omega,h2⟩
theorem Pre.plusx {d:DSt} (h:Pre P C ops st ops.size d) (k:Nat) :
  (plusA st.nx (2 ^ ops.size - 1) (absM (recAt d.rs) d.c k) (d.M k) d.als).get=un (pendA (recAt d.rs) st.nx ops.size (abs (recAt d.rs) d.c k) fun _=>true) (d.M k).get:=by
 rw [h.plus (Nat.le_refl _) (fun x hx=>by rw [Nat.testBit_two_pow_sub_one] at hx;simpa using hx) k]
 congr 1
 exact pendA_ext fun i hi _=>by rw [Nat.testBit_two_pow_sub_one];simp [hi]
theorem Pre.one {i:Nat} {d:DSt} (h:Pre P C ops st i d) {o:Oper} (ho:ops[i]?=some o) {r:DRec} {als:List (Nat×Obj)}
  (hbef:∀ x,r.bef.testBit x=true↔∃ e∈o.after,Region.binds .any e=true∧(x=e.on∨(recAt d.rs e.on).bef.testBit x=true)) (hord:∀ e∈o.after,Region.binds .any e=true→e.on<i)
  (htm:TmOk ops st (recAt d.rs) (looks ops.toList o) r.bef r.tm) (hw:wantedA ops.toList r.tm o=some r.kd.on) (hoff:r.kd=.off→r.v=undefA) (hk:r.kd≠.chg)
  (hals:∀ j ob,(j,ob)∈als↔(j,ob)∈d.als∨(j=i∧r.kd=.new ob)):Pre P C ops st (i+1) { d with rs:=d.rs.set i r,als:=als }:=by
 have hR:∀ j,j<i→recAt (d.rs.set i r) j=recAt d.rs j:=fun j hj=>by rw [recAt_set,if_neg (by omega)]
 have hi:recAt (d.rs.set i r) i=r:=by rw [recAt_set,if_pos rfl]
 have hlt:∀ x,r.bef.testBit x=true→x<i:=fun x hx=>by
  obtain⟨e,he,hb,h1⟩:=(hbef x).1 hx
  have h2:=hord e he hb
  rcases h1 with rfl|h1
  ·exact h2
  ·have:=h.lt _ _ h2 h1;omega
 have split:∀ {j:Nat},j<i+1→j=i∨j<i:=fun h=>by omega
 have tmk:∀ {L:List Nat} {b:Nat} {tm:T AV},(∀ x,b.testBit x=true→x<i)→TmOk ops st (recAt d.rs) L b tm→TmOk ops st (recAt (d.rs.set i r)) L b tm:=by
  intro L b tm hb ht t v hv
  rcases ht t v hv with⟨j,oj,h1,h2,h3,h4⟩|h1
  ·exact .inl ⟨j,oj,h1,h2,h3,by rw [hR j (hb j h3)];exact h4⟩
  ·exact .inr h1
 have habs:∀ k,k≤d.m→abs (recAt (d.rs.set i r)) d.c k=abs (recAt d.rs) d.c k:=by
  intro k hk
  funext x
  cases k with
  | zero=>rfl
  | succ k=>simp only [abs];rw [hR _ (h.chg k (by omega)).1]
 refine⟨?_,?_,?_,?_,?_,?_,?_,?_,?_,?_,h.hp0,h.nx0,h.nxs⟩
 ·intro j oj hj hoj x
  have hon:∀ e∈oj.after,Region.binds .any e=true→recAt (d.rs.set i r) e.on=recAt d.rs e.on:=by
   intro e he hb
   rcases split hj with rfl|hj
   ·rw [ho] at hoj;cases hoj;exact hR _ (hord e he hb)
   ·exact hR _ (by have:=h.ord j oj hj hoj e he hb;omega)
  have:(∃ e∈oj.after,Region.binds .any e=true∧(x=e.on∨(recAt (d.rs.set i r) e.on).bef.testBit x=true))↔(∃ e∈oj.after,Region.binds .any e=true∧(x=e.on∨(recAt d.rs e.on).bef.testBit x=true)):=by
   constructor
   ·rintro⟨e,he,hb,h1⟩;rw [hon e he hb] at h1;exact⟨e,he,hb,h1⟩
   ·rintro⟨e,he,hb,h1⟩;rw [← hon e he hb] at h1;exact⟨e,he,hb,h1⟩
  show(recAt (d.rs.set i r) j).bef.testBit x=true↔_
  rw [this]
  rcases split hj with rfl|hj
  ·rw [ho] at hoj;cases hoj;rw [hi];exact hbef x
  ·rw [hR j hj];exact h.bef j oj hj hoj x
 ·intro j x hj hx
  rcases split hj with rfl|hj
  ·exact hlt x (by rw [← hi];exact hx)
  ·exact h.lt j x hj (by rw [← hR j hj];exact hx)
 ·intro j oj hj hoj
  rcases split hj with rfl|hj
  ·rw [ho] at hoj;cases hoj;exact hord
  ·exact h.ord j oj hj hoj
 ·intro j oj hj hoj
  show TmOk ops st (recAt (d.rs.set i r)) (looks ops.toList oj) (recAt (d.rs.set i r) j).bef (recAt (d.rs.set i r) j).tm
  rcases split hj with rfl|hj
  ·rw [ho] at hoj;cases hoj;rw [hi];exact tmk hlt htm
  ·rw [hR j hj];exact tmk (fun x hx=>by have:=h.lt j x hj hx;omega) (h.tmp j oj hj hoj)
 ·intro j oj hj hoj
  show wantedA ops.toList (recAt (d.rs.set i r) j).tm oj=some (recAt (d.rs.set i r) j).kd.on
  rcases split hj with rfl|hj
  ·rw [ho] at hoj;cases hoj;rw [hi];exact hw
  ·rw [hR j hj];exact h.want j oj hj hoj
 ·intro j hj
  show(recAt (d.rs.set i r) j).kd=.off→(recAt (d.rs.set i r) j).v=undefA
  rcases split hj with rfl|hj
  ·rw [hi];exact hoff
  ·rw [hR j hj];exact h.off j hj
 ·intro k hk
  obtain⟨h1,o',h2,h3,h4⟩:=h.chg k hk
  refine⟨Nat.lt_succ_of_lt h1,o',h2,?_,?_⟩
  ·show(recAt (d.rs.set i r) (d.c k)).kd=.chg
   rw [hR _ h1];exact h3
  ·show OpOK P C o' (recAt (d.rs.set i r) (d.c k)).tm (un (pendA (recAt (d.rs.set i r)) st.nx ops.size (abs (recAt (d.rs.set i r)) d.c k) fun j=>(recAt (d.rs.set i r) (d.c k)).bef.testBit j) (d.M k).get) (d.N k) (recAt (d.rs.set i r) (d.c k)).v (d.M (k+1)).get (d.N (k+1))
   rw [hR _ h1,habs k (Nat.le_of_lt hk),pendA_congr (R':=recAt d.rs) (fun j hj=>hR j (by have:=h.lt _ _ h1 hj;omega)) rfl]
   exact h4
 ·intro j hj
  show(recAt (d.rs.set i r) j).kd=.chg→_
  rcases split hj with rfl|hj
  ·rw [hi];exact fun q=>absurd q hk
  ·rw [hR j hj];exact h.chgs j hj
 ·intro k hk
  show(recAt (d.rs.set i r) (d.c (k+1))).bef.testBit (d.c k)=true
  rw [hR _ (h.chg (k+1) hk).1]
  exact h.line k hk
 ·intro j ob
  show(j,ob)∈als↔j<i+1∧(recAt (d.rs.set i r) j).kd=.new ob
  rw [hals,h.als]
  constructor
  ·rintro(⟨h1,h2⟩|⟨rfl,h2⟩)
   ·exact⟨by omega,by rw [hR j h1];exact h2⟩
   ·exact⟨by omega,by rw [hi];exact h2⟩
  ·rintro⟨h1,h2⟩
   rcases split h1 with rfl|h1
   ·exact .inr ⟨rfl,by rw [hi] at h2;exact h2⟩
   ·exact .inl ⟨h1,by rw [hR j h1] at h2;exact h2⟩
theorem Pre.turn {i:Nat} {d:DSt} (h:Pre P C ops st i d) {o:Oper} (ho:ops[i]?=some o) {r:DRec} {hp':T Obj} {nx':Nat}
  (hbef:∀ x,r.bef.testBit x=true↔∃ e∈o.after,Region.binds .any e=true∧(x=e.on∨(recAt d.rs e.on).bef.testBit x=true)) (hord:∀ e∈o.after,Region.binds .any e=true→e.on<i)
  (htm:TmOk ops st (recAt d.rs) (looks ops.toList o) r.bef r.tm) (hw:wantedA ops.toList r.tm o=some true) (hk:r.kd=.chg) (hline:∀ k,d.m=k+1→r.bef.testBit (d.c k)=true)
  (hnx:d.N d.m≤nx') (Ho:OpOK P C o r.tm (un (pendA (recAt d.rs) st.nx ops.size (abs (recAt d.rs) d.c d.m) fun j=>r.bef.testBit j) (d.M d.m).get) (d.N d.m) r.v hp'.get nx') :
  Pre P C ops st (i+1) { d with rs:=d.rs.set i r,m:=d.m+1,c:=fnSet d.c d.m i,M:=fnSet d.M (d.m+1) hp',N:=fnSet d.N (d.m+1) nx' }:=by
 have hR:∀ j,j<i→recAt (d.rs.set i r) j=recAt d.rs j:=fun j hj=>by rw [recAt_set,if_neg (by omega)]
 have hi:recAt (d.rs.set i r) i=r:=by rw [recAt_set,if_pos rfl]
 have hlt:∀ x,r.bef.testBit x=true→x<i:=fun x hx=>by
  obtain⟨e,he,hb,h1⟩:=(hbef x).1 hx
  have h2:=hord e he hb
  rcases h1 with rfl|h1
  ·exact h2
  ·have:=h.lt _ _ h2 h1;omega
 have split:∀ {j:Nat},j<i+1→j=i∨j<i:=fun h=>by omega
 have tmk:∀ {L:List Nat} {b:Nat} {tm:T AV},(∀ x,b.testBit x=true→x<i)→TmOk ops st (recAt d.rs) L b tm→TmOk ops st (recAt (d.rs.set i r)) L b tm:=by
  intro L b tm hb ht t v hv
  rcases ht t v hv with⟨j,oj,h1,h2,h3,h4⟩|h1
  ·exact .inl ⟨j,oj,h1,h2,h3,by rw [hR j (hb j h3)];exact h4⟩
  ·exact .inr h1
 have hc:∀ k,k<d.m→fnSet d.c d.m i k=d.c k:=fun k hk=>by rw [fnSet_eq,if_neg (by omega)]
 have hcm:fnSet d.c d.m i d.m=i:=by rw [fnSet_eq,if_pos rfl]
 have hM:∀ k,k≤d.m→fnSet d.M (d.m+1) hp' k=d.M k:=fun k hk=>by rw [fnSet_eq,if_neg (by omega)]
 have hMm:fnSet d.M (d.m+1) hp' (d.m+1)=hp':=by rw [fnSet_eq,if_pos rfl]
 have hN:∀ k,k≤d.m→fnSet d.N (d.m+1) nx' k=d.N k:=fun k hk=>by rw [fnSet_eq,if_neg (by omega)]
 have hNm:fnSet d.N (d.m+1) nx' (d.m+1)=nx':=by rw [fnSet_eq,if_pos rfl]
 have habs:∀ k,k≤d.m→abs (recAt (d.rs.set i r)) (fnSet d.c d.m i) k=abs (recAt d.rs) d.c k:=by
  intro k hk
  funext x
  cases k with
  | zero=>rfl
  | succ k=>simp only [abs];rw [hc k (by omega),hR _ (h.chg k (by omega)).1]
 refine⟨?_,?_,?_,?_,?_,?_,?_,?_,?_,?_,?_,?_,?_⟩
 ·intro j oj hj hoj x
  have hon:∀ e∈oj.after,Region.binds .any e=true→recAt (d.rs.set i r) e.on=recAt d.rs e.on:=by
   intro e he hb
   rcases split hj with rfl|hj
   ·rw [ho] at hoj;cases hoj;exact hR _ (hord e he hb)
   ·exact hR _ (by have:=h.ord j oj hj hoj e he hb;omega)
  have:(∃ e∈oj.after,Region.binds .any e=true∧(x=e.on∨(recAt (d.rs.set i r) e.on).bef.testBit x=true))↔(∃ e∈oj.after,Region.binds .any e=true∧(x=e.on∨(recAt d.rs e.on).bef.testBit x=true)):=by
   constructor
   ·rintro⟨e,he,hb,h1⟩;rw [hon e he hb] at h1;exact⟨e,he,hb,h1⟩
   ·rintro⟨e,he,hb,h1⟩;rw [← hon e he hb] at h1;exact⟨e,he,hb,h1⟩
  show(recAt (d.rs.set i r) j).bef.testBit x=true↔_
  rw [this]
  rcases split hj with rfl|hj
  ·rw [ho] at hoj;cases hoj;rw [hi];exact hbef x
  ·rw [hR j hj];exact h.bef j oj hj hoj x
 ·intro j x hj hx
  rcases split hj with rfl|hj
  ·exact hlt x (by rw [← hi];exact hx)
  ·exact h.lt j x hj (by rw [← hR j hj];exact hx)
 ·intro j oj hj hoj
  rcases split hj with rfl|hj
  ·rw [ho] at hoj;cases hoj;exact hord
  ·exact h.ord j oj hj hoj
 ·intro j oj hj hoj
  show TmOk ops st (recAt (d.rs.set i r)) (looks ops.toList oj) (recAt (d.rs.set i r) j).bef (recAt (d.rs.set i r) j).tm
  rcases split hj with rfl|hj
  ·rw [ho] at hoj;cases hoj;rw [hi];exact tmk hlt htm
  ·rw [hR j hj];exact tmk (fun x hx=>by have:=h.lt j x hj hx;omega) (h.tmp j oj hj hoj)
 ·intro j oj hj hoj
  show wantedA ops.toList (recAt (d.rs.set i r) j).tm oj=some (recAt (d.rs.set i r) j).kd.on
  rcases split hj with rfl|hj
  ·rw [ho] at hoj;cases hoj;rw [hi,hk];exact hw
  ·rw [hR j hj];exact h.want j oj hj hoj
 ·intro j hj
  show(recAt (d.rs.set i r) j).kd=.off→(recAt (d.rs.set i r) j).v=undefA
  rcases split hj with rfl|hj
  ·rw [hi,hk];exact fun q=>by cases q
  ·rw [hR j hj];exact h.off j hj
 ·intro k hkm
  show fnSet d.c d.m i k<i+1∧∃ o,ops[fnSet d.c d.m i k]?=some o∧(recAt (d.rs.set i r) (fnSet d.c d.m i k)).kd=.chg ∧
   OpOK P C o (recAt (d.rs.set i r) (fnSet d.c d.m i k)).tm (un (pendA (recAt (d.rs.set i r)) st.nx ops.size (abs (recAt (d.rs.set i r)) (fnSet d.c d.m i) k) fun j=>(recAt (d.rs.set i r) (fnSet d.c d.m i k)).bef.testBit j) (fnSet d.M (d.m+1) hp' k).get)
    (fnSet d.N (d.m+1) nx' k) (recAt (d.rs.set i r) (fnSet d.c d.m i k)).v (fnSet d.M (d.m+1) hp' (k+1)).get (fnSet d.N (d.m+1) nx' (k+1))
  have hkm':k<d.m+1:=hkm
  by_cases e:k=d.m
  ·subst e
   rw [hcm,hMm,hNm,hM _ (Nat.le_refl _),hN _ (Nat.le_refl _),habs _ (Nat.le_refl _),hi,pendA_congr (R':=recAt d.rs) (fun j hj=>hR j (hlt j hj)) rfl]
   exact⟨Nat.lt_succ_self _,o,ho,hk,Ho⟩
  ·have hkl:k<d.m:=by omega
   obtain⟨h1,o',h2,h3,h4⟩:=h.chg k hkl
   rw [hc k hkl,hM _ (by omega),hM _ (by omega),hN _ (by omega),hN _ (by omega),habs _ (by omega),hR _ h1,pendA_congr (R':=recAt d.rs) (fun j hj=>hR j (by have:=h.lt _ _ h1 hj;omega)) rfl]
   exact⟨by omega,o',h2,h3,h4⟩
 ·intro j hj
  show(recAt (d.rs.set i r) j).kd=.chg→∃ k,k<d.m+1∧fnSet d.c d.m i k=j
  rcases split hj with rfl|hj
  ·intro _;exact⟨d.m,Nat.lt_succ_self _,hcm⟩
  ·rw [hR j hj]
   intro hq
   obtain⟨k,h1,h2⟩:=h.chgs j hj hq
   exact⟨k,by omega,by rw [hc k h1];exact h2⟩
 ·intro k hkm
  show(recAt (d.rs.set i r) (fnSet d.c d.m i (k+1))).bef.testBit (fnSet d.c d.m i k)=true
  have hkm':k+1<d.m+1:=hkm
  rw [hc k (by omega)]
  by_cases e:k+1=d.m
  ·rw [e,hcm,hi];exact hline k e.symm
  ·rw [hc (k+1) (by omega),hR _ (h.chg (k+1) (by omega)).1]
   exact h.line k (by omega)
 ·intro j ob
  show(j,ob)∈d.als↔j<i+1∧(recAt (d.rs.set i r) j).kd=.new ob
  rw [h.als]
  constructor
  ·rintro⟨h1,h2⟩
   exact⟨by omega,by rw [hR j h1];exact h2⟩
  ·rintro⟨h1,h2⟩
   rcases split h1 with rfl|h1
   ·rw [hi,hk] at h2;cases h2
   ·exact⟨h1,by rw [hR j h1] at h2;exact h2⟩
 ·show fnSet d.M (d.m+1) hp' 0=st.hp
  rw [hM 0 (Nat.zero_le _)];exact h.hp0
 ·show fnSet d.N (d.m+1) nx' 0=st.nx+ops.size
  rw [hN 0 (Nat.zero_le _)];exact h.nx0
 ·intro k hkm
  show fnSet d.N (d.m+1) nx' k≤fnSet d.N (d.m+1) nx' (k+1)
  have hkm':k<d.m+1:=hkm
  by_cases e:k=d.m
  ·subst e;rw [hNm,hN _ (Nat.le_refl _)];exact hnx
  ·rw [hN _ (by omega),hN _ (by omega)];exact h.nxs k (by omega)
theorem drawGo_ok (hC:CtxOk P C) (hc:CallSound P C call) {n:Nat} {ow:T Nat} (hn:ops.size≤n) (how:Owns ops nt n ow) :
  ∀ {l:List Oper} {i:Nat} {d d':DSt},ops.toList.drop i=l→i≤ops.size→Pre P C ops st i d→drawGo C call nt ops.toList ow st l i d=some d'→Pre P C ops st ops.size d':=by
 intro l
 induction l with
 | nil =>
  intro i d d' hi hle h hg
  simp only [drawGo,Option.some.injEq] at hg;subst hg
  have:=drop_nil hi
  have e:i=ops.size:=by omega
  rw [← e];exact h
 | cons o l ih =>
  intro i d d' hi hle h hg
  obtain⟨ho,hi'⟩:=drop_head hi
  have hlts:i<ops.size:=(Array.getElem?_eq_some_iff.1 ho).1
  unfold drawGo at hg
  split at hg
  ·simp at hg
  ·next b hb =>
   obtain⟨hb1,hord⟩:=befA_ok hb
   have hbef:∀ x,b.testBit x=true↔∃ e∈o.after,Region.binds .any e=true∧(x=e.on∨(recAt d.rs e.on).bef.testBit x=true):=fun x=>by rw [hb1 x];simp [Array.mem_toList_iff]
   have hord':∀ e∈o.after,Region.binds .any e=true→e.on<i:=fun e he hbb=>hord e (by simpa using he) hbb
   have hlt:∀ x,b.testBit x=true→x<i:=fun x hx=>by
    obtain⟨e,he,hbb,h1⟩:=(hbef x).1 hx
    have h2:=hord' e he hbb
    rcases h1 with rfl|h1
    ·exact h2
    ·have:=h.lt _ _ h2 h1;omega
   have htm:TmOk ops st (recAt d.rs) (looks ops.toList o) b (tmA ow d.rs st.tm b (looks ops.toList o) .leaf):=tmA_ok hn how (fun _ h=>h) (fun t v hv=>by simp at hv)
   simp only at hg
   split at hg
   ·simp at hg
   ·next hw=>exact ih hi' (by omega) (h.one ho (r:=⟨b,.off,_,undefA⟩) hbef hord' htm hw (fun _=>rfl) (by simp) (als:=d.als) (fun j ob=>by simp)) hg
   ·next hw =>
    split at hg
    ·split at hg
     ·next v hv=>exact ih hi' (by omega) (h.one ho (r:=⟨b,.val,_,v⟩) hbef hord' htm hw (fun q=>by cases q) (by simp) (als:=d.als) (fun j ob=>by simp)) hg
     ·simp at hg
    ·split at hg
     ·next ob v hv=>exact ih hi' (by omega) (h.one ho (r:=⟨b,.new ob,_,v⟩) hbef hord' htm hw (fun q=>by cases q) (by simp) (als:=(i,ob)::d.als) (fun j ob'=>by
       simp only [List.mem_cons,Prod.mk.injEq,DK.new.injEq]
       constructor
       ·rintro(⟨a,b⟩|a)
        ·exact .inr ⟨a,b.symm⟩
        ·exact .inl a
       ·rintro(a|⟨a,b⟩)
        ·exact .inr a
        ·exact .inl ⟨a,b.symm⟩)) hg
     ·simp at hg
    ·split at hg
     ·next r hr hl =>
      obtain⟨h1,h2⟩:=opA_ok hC hc hr
      refine ih hi' (by omega) (h.turn ho (r:=⟨b,.chg,_,r.v⟩) hbef hord' htm hw rfl ?_ h1 ?_) hg
      ·intro k hk
       rw [hk] at hl
       simpa [tb_eq] using hl
      ·rw [← h.plus hle hlt]
       exact h2
     ·simp at hg
theorem okAts_ok {d:DSt} {o:Oper} {i:Nat} {r:DRec}:∀ {m:Nat},okAts C st d o i r m=true→∀ k,k≤m→okAt C st d o i r k=true:=by
 intro m
 induction m with
 | zero=>intro h k hk;have:k=0:=by omega
         subst this;exact h
 | succ m ih =>
  intro h k hk
  unfold okAts at h
  split at h
  ·next h1 =>
   by_cases e:k=m+1
   ·subst e;exact h1
   ·exact ih h k (by omega)
  ·simp at h
theorem okAll_ok {d:DSt}:∀ {l:List Oper} {i:Nat},ops.toList.drop i=l→okAll C st d l i=true→∀ (j:Nat) (o:Oper),i≤j→ops[j]?=some o→∀ k,k≤d.m→okAt C st d o j (recAt d.rs j) k=true:=by
 intro l
 induction l with
 | nil =>
  intro i hi h j o hj ho
  have:=drop_nil hi
  have:=(Array.getElem?_eq_some_iff.1 ho).1
  omega
 | cons o l ih =>
  intro i hi h j o' hj ho' k hk
  obtain⟨ho,hi'⟩:=drop_head hi
  unfold okAll at h
  split at h
  ·next h1 =>
   by_cases e:j=i
   ·subst e;rw [ho] at ho';cases ho';exact okAts_ok h1 k hk
   ·exact ih hi' h j o' (by omega) ho' k hk
  ·simp at h
theorem mayAt_of {d:DSt} {i b k:Nat} (hlo:∀ j,j<d.m→b.testBit (d.c j)=true→j<k) (hhi:∀ j,j<k→(recAt d.rs (d.c j)).bef.testBit i=false):mayAt d.rs d.m d.c i b k=true:=by
 unfold mayAt
 split
 ·next h =>
  exfalso
  split at h
  ·next hk =>
   rw [tb_eq] at h
   have:=hlo k (by simpa [Nat.blt_eq] using hk) h
   omega
  ·simp at h
 ·split
  ·rfl
  ·rw [tb_eq,hhi _ (Nat.lt_succ_self _)]
theorem tmEnd_ok {rs:T DRec}:∀ {l:List Oper} {i:Nat} {tm:T AV},ops.toList.drop i=l →
  (∀ t v,tm.get t=some v→(∃ (j:Nat) (oj:Oper),ops[j]?=some oj∧oj.dst=some t∧(recAt rs j).v=v)∨(st.tm.get t=some v∧∀ (j:Nat) (oj:Oper),j<i→ops[j]?=some oj→oj.dst≠some t)) →
  ∀ t v,(tmEnd rs l i tm).get t=some v→(∃ (j:Nat) (oj:Oper),ops[j]?=some oj∧oj.dst=some t∧(recAt rs j).v=v)∨(st.tm.get t=some v∧∀ (j:Nat) (oj:Oper),ops[j]?=some oj→oj.dst≠some t):=by
 intro l
 induction l with
 | nil =>
  intro i tm hi h t v hv
  rcases h t v hv with h1|⟨h1,h2⟩
  ·exact .inl h1
  ·have:=drop_nil hi
   exact .inr ⟨h1,fun j oj hj=>h2 j oj (by have:=(Array.getElem?_eq_some_iff.1 hj).1;omega) hj⟩
 | cons o l ih =>
  intro i tm hi h
  obtain⟨ho,hi'⟩:=drop_head hi
  unfold tmEnd
  refine ih hi' fun t v hv=>?_
  cases hd:o.dst with
  | none =>
   rw [hd] at hv
   rcases h t v hv with h1|⟨h1,h2⟩
   ·exact .inl h1
   ·refine .inr ⟨h1,fun j oj hj hoj=>?_⟩
    by_cases e:j=i
    ·subst e;rw [ho] at hoj;cases hoj;rw [hd];simp
    ·exact h2 j oj (by omega) hoj
  | some d =>
   rw [hd] at hv
   change (tm.set d _).get t=some v at hv
   rw [T.get_set] at hv
   by_cases e:d=t
   ·subst e
    rw [if_pos rfl] at hv
    exact .inl ⟨i,o,ho,hd,by simpa using hv⟩
   ·rw [if_neg e] at hv
    rcases h t v hv with h1|⟨h1,h2⟩
    ·exact .inl h1
    ·refine .inr ⟨h1,fun j oj hj hoj=>?_⟩
     by_cases e':j=i
     ·subst e';rw [ho] at hoj;cases hoj;rw [hd];simpa using e
     ·exact h2 j oj (by omega) hoj
theorem plusAll_eq (n0 a:Nat) (hp:T Obj) (n:Nat):∀ (l:List (Nat×Obj)),(∀ p∈l,p.1<n)→plusAll n0 a hp l=plusA n0 (2 ^ n - 1) a hp l:=by
 intro l
 induction l with
 | nil=>intro _;rfl
 | cons p l ih =>
  intro h
  unfold plusAll plusA
  have hb:tb (2 ^ n - 1) p.1=true:=by rw [tb_eq,Nat.testBit_two_pow_sub_one];simpa using h p (List.mem_cons_self ..)
  rw [ih fun p hp=>h p (List.mem_cons_of_mem _ hp),hb]
  cases tb a p.1<;>rfl
theorem lookOne_ok {ow:T Nat} {rs:T DRec} {i b:Nat}:∀ {l:List Nat},lookOne ow rs i b l=true→∀ d∈l,∀ j,ow.get d=some j→b.testBit j=true∨(recAt rs j).bef.testBit i=true:=by
 intro l
 induction l with
 | nil=>intro _ d hd;cases hd
 | cons x l ih =>
  intro h d hd j hj
  unfold lookOne at h
  split at h
  ·next hx =>
   rcases List.mem_cons.1 hd with rfl|hd
   ·rw [hx] at hj;cases hj
   ·exact ih h d hd j hj
  ·next k hx =>
   split at h
   ·next hb =>
    rcases List.mem_cons.1 hd with rfl|hd
    ·rw [hx] at hj;cases hj;rw [tb_eq] at hb;exact .inl hb
    ·exact ih h d hd j hj
   ·split at h
    ·next hb =>
     rcases List.mem_cons.1 hd with rfl|hd
     ·rw [hx] at hj;cases hj;rw [tb_eq] at hb;exact .inr hb
     ·exact ih h d hd j hj
    ·cases h
theorem lookAll_ok {ow:T Nat} {rs:T DRec}:∀ {l:List Oper} {i:Nat},ops.toList.drop i=l→lookAll ops.toList ow rs l i=true→∀ (j:Nat) (o:Oper),i≤j→ops[j]?=some o→lookOne ow rs j (recAt rs j).bef (looks ops.toList o)=true:=by
 intro l
 induction l with
 | nil =>
  intro i hi _ j o hij ho
  have:=drop_nil hi
  have:=(Array.getElem?_eq_some_iff.1 ho).1
  omega
 | cons o l ih =>
  intro i hi h j o' hij ho'
  obtain⟨ho,hi'⟩:=drop_head hi
  unfold lookAll at h
  split at h
  ·next h1 =>
   rcases Nat.lt_or_ge i j with hlt|hge
   ·exact ih hi' h j o' hlt ho'
   ·have:j=i:=by omega
    subst this
    rw [ho] at ho';cases ho';exact h1
  ·cases h
theorem drawA_ok (hC:CtxOk P C) (hc:CallSound P C call) {st':St} (h:drawA C call nt ops.toList st=some st') :
  ∃ R m c M N G,DrawOk P C nt ops st st' R m c M N G∧st.nx≤st'.nx:=by
 unfold drawA at h
 split at h
 ·simp at h
 ·next ow how0 =>
  obtain⟨n,hn,how⟩:=ownA_ok (ops:=ops) (i:=0) rfl ⟨fun d j=>by simp,fun j o hj=>by omega⟩ how0
  split at h
  ·simp at h
  ·next d hd =>
   have hpre:Pre P C ops st ops.size d:=by
    refine drawGo_ok hC hc hn how (i:=0) rfl (Nat.zero_le _) ?_ hd
    exact⟨fun j o hj=>by omega,fun j x hj=>by omega,fun j o hj=>by omega,fun j hj=>by omega,fun j o hj=>by omega,fun j hj=>by omega,fun k hk=>by simp at hk,fun j hj=>by omega,fun k hk=>by simp at hk,
     fun j ob=>by simp,rfl,by simp,fun k hk=>by simp at hk⟩
   split at h
   ·next hok hlook =>
    simp only [Option.some.injEq] at h;subst h
    have hlook':=lookAll_ok (ops:=ops) (i:=0) rfl hlook
    have hok':=okAll_ok (ops:=ops) (i:=0) rfl hok
    have hlt:∀ {j:Nat} {o:Oper},ops[j]?=some o→j<ops.size:=fun h=>(Array.getElem?_eq_some_iff.1 h).1
    have hnx:∀ k,k≤d.m→st.nx≤d.N k:=by
     intro k
     induction k with
     | zero=>intro _;rw [hpre.nx0];omega
     | succ k ih=>intro hk;exact Nat.le_trans (ih (by omega)) (hpre.nxs k hk)
    refine⟨recAt d.rs,d.m,d.c,d.M,d.N,fun k i=>plusA st.nx (recAt d.rs i).bef (absM (recAt d.rs) d.c k) (d.M k) d.als,?_,hnx d.m (Nat.le_refl _)⟩
    refine { bef:=fun i o ho=>hpre.bef i o (hlt ho) ho,ord:=fun i o ho=>hpre.ord i o (hlt ho) ho,dst:=fun i o ho=>how.dst i o (by have:=hlt ho;omega) ho,uniq:=?_,tmp:=?_,
             want:=fun i o ho=>hpre.want i o (hlt ho) ho,dfE:=rfl,off:=fun i o ho=>hpre.off i (hlt ho),chg:=fun k hk=>(hpre.chg k hk).2,chgs:=fun i o ho=>hpre.chgs i (hlt ho),line:=hpre.line,
             heap:=fun k i o hk ho=>hpre.plus (Nat.le_refl _) (fun x hx=>by have:=hpre.lt i x (hlt ho) hx;have:=hlt ho;omega) k,val:=?_,new:=?_,free:=?_,hp0:=hpre.hp0,nx0:=hpre.nx0,nxs:=hpre.nxs,tmE:=?_,hpE:=?_,nxE:=rfl }
    rotate_left
    ·intro i o t v ho hv
     rcases hpre.tmp i o (hlt ho) ho t v hv with⟨j,oj,h1,h2,h3,h4⟩|⟨h1,h2,h3⟩
     ·exact .inl ⟨j,oj,h1,h2,h3,h4⟩
     ·refine .inr ⟨h1,fun j oj hj hd=>?_⟩
      have:=(how.get t j).2 ⟨by have:=hlt hj;omega,oj,hj,hd⟩
      rcases lookOne_ok (hlook' i o (Nat.zero_le _) ho) t h2 j this with q|q
      ·rw [h3 j oj hj hd] at q;cases q
      ·exact q
    rotate_right
    ·intro i j oi oj t hi hj hdi hdj
     have h1:=(how.get t i).2 ⟨by have:=hlt hi;omega,oi,hi,hdi⟩
     have h2:=(how.get t j).2 ⟨by have:=hlt hj;omega,oj,hj,hdj⟩
     rw [h1] at h2;simpa using h2
    ·intro k i o hk ho hkd hlo hhi
     have:=hok' i o (Nat.zero_le _) ho k hk
     unfold okAt at this
     rw [hkd] at this
     simp only [mayAt_of hlo hhi] at this
     split at this
     ·next v hv=>rw [← AV.same_eq this];exact OpOK.val hC hv _
     ·simp at this
    ·intro k i o ob hk ho hkd hlo hhi
     have:=hok' i o (Nat.zero_le _) ho k hk
     unfold okAt at this
     rw [hkd] at this
     simp only [mayAt_of hlo hhi] at this
     split at this
     ·simp at this
     ·split at this
      ·next ob' v hv =>
       split at this
       ·next ho'=>rw [hv,AV.same_eq this,Obj.same_eq ho']
       ·simp at this
      ·simp at this
    ·intro k i o ob hk ho hkd hab
     have:=hok' i o (Nat.zero_le _) ho k hk
     unfold okAt at this
     rw [hkd] at this
     simp only at this
     have hb:tb (absM (recAt d.rs) d.c k) i=false:=by
      rw [tb_eq]
      have:=congrFun (abs_absM (R:=recAt d.rs) (c:=d.c) (k:=k)) i
      rw [this];exact hab
     rw [hb] at this
     cases hg:(d.M k).get (st.nx+i) with
     | none=>rfl
     | some x=>rw [hg] at this;simp at this
    ·exact tmEnd_ok (i:=0) rfl (fun t v hv=>.inr ⟨hv,fun j oj hj=>by omega⟩)
    ·show(plusAll st.nx (absM (recAt d.rs) d.c d.m) (d.M d.m) d.als).get=_
     rw [plusAll_eq _ _ _ ops.size _ fun p hp=>((hpre.als p.1 p.2).1 hp).1,hpre.plusx d.m]
   ·simp at h
end
inductive Ex where
 | normal|exit (id:Nat)|goto (l:Nat)|ret
def Ex.to:Ex→Exit
 | .normal=>.normal
 | .exit id=>.exit id
 | .goto l=>.goto l
 | .ret=>.ret
def Ex.jump:Ex→Option Code
 | .normal=>none
 | .exit id=>some (.exit id)
 | .goto l=>some (.goto l)
 | .ret=>some .ret
def RdOk (φ:Phi) (rd:Option Nat) (r:Option Nat):Prop:=match rd with
 | none=>r=none
 | some id=>∃ b,r=some b∧φ id=some (.obj b)
theorem RdOk.mono {φ ψ:Phi} (hle:Le φ ψ) {rd r:Option Nat} (h:RdOk φ rd r):RdOk ψ rd r:=by
 cases rd with
 | none=>exact h
 | some id=>obtain⟨b,h1,h2⟩:=h;exact⟨b,h1,hle _ _ h2⟩
theorem RdOk.none {φ:Phi} {rd r:Option Nat} (h:RdOk φ rd r) (hr:rd.isSome=false):r=Option.none:=by
 cases rd with
 | none=>exact h
 | some id=>simp at hr
def CodeOK (P:Program) (C:Ctx) (nt:Nat) (rd:Option Nat) (c:Code) (st:St) (e:Ex) (st':St):Prop :=
 ∀ (φ:Phi) (a:Act) (w:World),Lies C nt φ st a w→∀ (r:Option Nat) (n:Nat),RdOk φ rd r→∀ Q:Exit→Act→World→Prop,
  (∀ φ' a' w',Lies C nt φ' st' a' w'→Step φ st.hp.get st.nx w φ' st'.hp.get st'.nx w'→Q e.to a' w')→c.wpIn (Fw r) n P Q a w
section
variable {P:Program} {C:Ctx} {nt:Nat} {rd:Option Nat}
theorem CodeOK.skip (st:St):CodeOK P C nt rd .skip st .normal st:=fun _ _ _ hl _ _ _ _ hQ=>wpIn_skip (hQ _ _ _ hl (.refl _ _ _ _))
theorem CodeOK.label (l:Nat) (st:St):CodeOK P C nt rd (.label l) st .normal st:=fun _ _ _ hl _ _ _ _ hQ=>wpIn_label (hQ _ _ _ hl (.refl _ _ _ _))
theorem CodeOK.exit (id:Nat) (st:St):CodeOK P C nt rd (.exit id) st (.exit id) st:=fun _ _ _ hl _ _ _ _ hQ=>wpIn_exit (hQ _ _ _ hl (.refl _ _ _ _))
theorem CodeOK.goto (l:Nat) (st:St):CodeOK P C nt rd (.goto l) st (.goto l) st:=fun _ _ _ hl _ _ _ _ hQ=>wpIn_goto (hQ _ _ _ hl (.refl _ _ _ _))
theorem CodeOK.ret (st:St):CodeOK P C nt rd .ret st .ret st:=fun _ _ _ hl _ _ _ _ hQ=>wpIn_ret (hQ _ _ _ hl (.refl _ _ _ _))
theorem CodeOK.region {id:Nat} {ops:Array Oper} {st st':St} (h:OpsR P C nt rd.isSome ops.toList ops.toList st st'):CodeOK P C nt rd (.region id ops false) st .normal st' :=
 fun _ _ _ hl _ _ hr _ hQ=>region_sound h hl (fun h=>hr.none h) hQ
theorem CodeOK.draw {id:Nat} {ops:Array Oper} {st st':St} (hC:CtxOk P C) (hm:P.follows .mixedOrders=true) {R:Nat→DRec} {m:Nat} {c:Nat→Nat} {M:Nat→T Obj} {N:Nat→Nat} {G:Nat→Nat→T Obj}
  (h:DrawOk P C nt ops st st' R m c M N G):CodeOK P C nt rd (.region id ops true) st .normal st' :=
 fun _ _ _ hl _ _ _ _ hQ=>draw_sound hC hm h hl hQ
theorem CodeOK.seq {a b:Code} {st st1 st':St} {e:Ex} (h:CodeOK P C nt rd a st .normal st1) (k:CodeOK P C nt rd b st1 e st'):CodeOK P C nt rd (.seq a b) st e st' :=
 fun φ a w hl r n hr Q hQ=>wpIn_seq (h φ a w hl r n hr _ fun φ1 a1 w1 hl1 hs=>k φ1 a1 w1 hl1 r n (hr.mono hs.le) Q fun φ2 a2 w2 hl2 hs2=>hQ φ2 a2 w2 hl2 (hs.trans hs2))
theorem CodeOK.seq_out {a b:Code} {st st':St} {e:Ex} (he:e≠.normal) (h:CodeOK P C nt rd a st e st'):CodeOK P C nt rd (.seq a b) st e st' :=
 fun φ a w hl r n hr Q hQ=>wpIn_seq (h φ a w hl r n hr _ fun φ1 a1 w1 hl1 hs=>by
  have:=hQ φ1 a1 w1 hl1 hs
  cases e<;>first|exact(he rfl).elim|exact this)
theorem CodeOK.cond {c:Operand} {x y:Code} {st st':St} {e:Ex} {b:Bool} (hc:ev C st.tm c=some (.bool b)) (h:CodeOK P C nt rd (bif b then x else y) st e st'):CodeOK P C nt rd (.cond c x y) st e st':=by
 intro φ a w hl r n hr Q hQ
 have hb:=ev_rel hl.glob.gl hl.tmps hc
 have hb':a.eval c=.bool b:=by generalize hq:a.eval c=q at hb;cases hb;rfl
 refine wpIn_cond hb' ?_
 cases b
 ·exact h φ a w hl r n hr Q hQ
 ·exact h φ a w hl r n hr Q hQ
theorem CodeOK.block {id:Nat} {c:Code} {st st':St} {e:Ex} (he:∀ i,e≠.exit i) (h:CodeOK P C nt rd c st e st'):CodeOK P C nt rd (.block id c) st e st' :=
 fun φ a w hl r n hr Q hQ=>wpIn_block (h φ a w hl r n hr _ fun φ1 a1 w1 hl1 hs=>by
  have:=hQ φ1 a1 w1 hl1 hs
  cases e<;>first|exact(he _ rfl).elim|exact this)
theorem CodeOK.block_in {id:Nat} {c:Code} {st st':St} (h:CodeOK P C nt rd c st (.exit id) st'):CodeOK P C nt rd (.block id c) st .normal st' :=
 fun φ a w hl r n hr Q hQ=>wpIn_block (h φ a w hl r n hr _ fun φ1 a1 w1 hl1 hs=>by
  have:=hQ φ1 a1 w1 hl1 hs
  simp only [Ex.to,Exit.inBlock,if_true];exact this)
theorem CodeOK.block_out {id i:Nat} (hi:i≠id) {c:Code} {st st':St} (h:CodeOK P C nt rd c st (.exit i) st'):CodeOK P C nt rd (.block id c) st (.exit i) st' :=
 fun φ a w hl r n hr Q hQ=>wpIn_block (h φ a w hl r n hr _ fun φ1 a1 w1 hl1 hs=>by
  have:=hQ φ1 a1 w1 hl1 hs
  simp only [Ex.to,Exit.inBlock,if_neg hi];exact this)
theorem least {p:Nat→Prop} (h:∃ n,p n):∃ n,p n∧∀ m,p m→n≤m:=by
 obtain⟨n,hn⟩:=h
 induction n using Nat.strongRecOn with
 | _ n ih =>
  by_cases hm:∃ m,m<n∧p m
  ·obtain⟨m,h1,h2⟩:=hm;exact ih m h1 h2
  ·exact⟨n,hn,fun m hpm=>by
    rcases Nat.lt_or_ge m n with h|h
    ·exact(hm ⟨m,h,hpm⟩).elim
    ·exact h⟩
inductive Rounds (P:Program) (C:Ctx) (nt:Nat) (rd:Option Nat) (c:Code) (go e:Ex) (st':St):Nat→St→Prop
 | stop {st:St} (he:e≠go) (h:CodeOK P C nt rd c st e st'):Rounds P C nt rd c go e st' 0 st
 | round {n:Nat} {st st1:St} (h:CodeOK P C nt rd c st go st1) (k:Rounds P C nt rd c go e st' n st1):Rounds P C nt rd c go e st' (n+1) st
def Todo (P:Program) (C:Ctx) (nt:Nat) (rd:Option Nat) (c:Code) (go e:Ex) (st0 st':St) (φ0:Phi) (w0:World) (n:Nat) (a:Act) (w:World):Prop :=
 ∃ φ st,Rounds P C nt rd c go e st' n st∧Lies C nt φ st a w∧Step φ0 st0.hp.get st0.nx w0 φ st.hp.get st.nx w
noncomputable def few (p:Nat→Prop):Nat:=open Classical in if h:∃ n,p n then Classical.choose (least h) else 0
theorem few_spec {p:Nat→Prop} (h:∃ n,p n):p (few p)∧∀ m,p m→few p≤m:=by
 unfold few
 rw [dif_pos h]
 exact Classical.choose_spec (least h)
theorem CodeOK.loop {c:Code} {e:Ex} {st st':St} {n:Nat} (h:Rounds P C nt rd c .normal e st' n st):CodeOK P C nt rd (.loop c) st e st':=by
 intro φ0 a0 w0 hl r k hr Q hQ
 refine wpIn_loop (fun a w=>∃ n,Todo P C nt rd c .normal e st st' φ0 w0 n a w) (fun a w=>few fun n=>Todo P C nt rd c .normal e st st' φ0 w0 n a w) ⟨n,φ0,st,h,hl,.refl _ _ _ _⟩ ?_
 intro a w hex
 obtain⟨⟨φ,st1,hrn,hl1,hs⟩,hmin⟩:=few_spec hex
 generalize few (fun n=>Todo P C nt rd c .normal e st st' φ0 w0 n a w)=m at *
 cases hrn with
 | stop he hc =>
  refine hc φ a w hl1 r k (hr.mono hs.le) _ fun φ2 a2 w2 hl2 hs2=>?_
  have:=hQ φ2 a2 w2 hl2 (hs.trans hs2)
  cases e<;>first|exact(he rfl).elim|exact this
 | @round n _ st2 hc hk =>
  refine hc φ a w hl1 r k (hr.mono hs.le) _ fun φ2 a2 w2 hl2 hs2=>?_
  have ht:Todo P C nt rd c .normal e st st' φ0 w0 n a2 w2:=⟨φ2,st2,hk,hl2,hs.trans hs2⟩
  refine⟨⟨n,ht⟩,?_⟩
  have:=(few_spec (p:=fun n=>Todo P C nt rd c .normal e st st' φ0 w0 n a2 w2) ⟨n,ht⟩).2 n ht
  omega
theorem jump_wp {r:Option Nat} {n:Nat} {e:Ex} {c:Code} (h:e.jump=some c) {Q:Exit→Act→World→Prop} {a:Act} {w:World} (hq:Q e.to a w):c.wpIn (Fw r) n P Q a w:=by
 cases e<;>simp only [Ex.jump,Option.some.injEq,reduceCtorEq] at h<;>subst h
 ·exact wpIn_exit hq
 ·exact wpIn_goto hq
 ·exact wpIn_ret hq
theorem loop_of {φ:Phi} {H:Hp} {nx:Nat} {w:World} (hr:Rel φ H nx w) {id:Nat} {s:LoopState} {pend:Option Code} {tm:T AV} {nt:Nat} {ps:List Nat} {assign body:Code} {df:Nat}
  (h:H id=some (.loop s pend tm nt ps assign body df)):∃ b r bd,φ id=some (.obj b)∧w.heap[b]?=some (.loop r)∧TRel φ tm r.tmps∧φ df=some (.obj bd)∧r.defers=bd ∧
   r.state=s∧r.pending=pend∧r.tmps.size=nt∧r.params.toList=ps∧r.assign=assign∧r.body=body:=by
 obtain⟨l,h1,h2⟩:=hr.dom id _ h
 generalize hq:Obj.loop s pend tm nt ps assign body df=ob at h2
 cases h2 with
 | @loop r0 tm0 df0 b bd hb ht hd he =>
  simp only [Obj.loop.injEq] at hq
  obtain⟨rfl,rfl,rfl,rfl,rfl,rfl,rfl,rfl⟩:=hq
  exact⟨b,r0,bd,h1,hb,ht,hd,he,rfl,rfl,rfl,rfl,rfl,rfl⟩
 | _=>simp at hq
theorem shape_putObj {w:World} {b:Nat} {r r':Loop} (h:w.heap[b]?=some (.loop r)) (k:Nat):(w.putObj b (.loop r')).shape? k=w.shape? k:=by
 by_cases e:k=b
 ·subst e
  have hlt:k<w.heap.size:=(Array.getElem?_eq_some_iff.1 h).1
  simp only [World.shape?,World.putObj_heap_same hlt,h]
 ·simp only [World.shape?,World.putObj_heap_other e]
theorem loop_turn {φ:Phi} {H:Hp} {nx:Nat} {w:World} (hr:Rel φ H nx w) {id:Nat} {s s':LoopState} {pend pend':Option Code} {tm:T AV} {nt:Nat} {ps:List Nat} {assign body:Code} {df:Nat}
  (h:H id=some (.loop s pend tm nt ps assign body df)) {b:Nat} {r:Loop} (hb:φ id=some (.obj b)) (hw:w.heap[b]?=some (.loop r)) :
  Rel φ (upd H id (.loop s' pend' tm nt ps assign body df)) nx (w.putObj b (.loop { r with state:=s',pending:=pend' })) ∧
  Step φ H nx w φ (upd H id (.loop s' pend' tm nt ps assign body df)) nx (w.putObj b (.loop { r with state:=s',pending:=pend' })):=by
 obtain⟨b',r',bd,h1,h2,h3,h4,h5,h6,h7,h8,h9,h10,h11⟩:=loop_of hr h
 rw [hb] at h1;simp only [Option.some.injEq,Loc.obj.injEq] at h1;subst h1
 rw [hw] at h2;simp only [Option.some.injEq,Go.Obj.loop.injEq] at h2;subst h2
 have hlt:b<w.heap.size:=(Array.getElem?_eq_some_iff.1 hw).1
 refine hr.turn h rfl rfl hb ?_ rfl rfl rfl World.putObj_size (shape_putObj hw) fun k hk=>World.putObj_heap_other hk
 subst h8 h9 h10 h11
 exact ORel.loop (φ:=φ) (w:=w.putObj b (.loop { r with state:=s',pending:=pend' })) (r:={ r with state:=s',pending:=pend' }) (df:=df) (bd:=bd) (World.putObj_heap_same hlt) h3 h4 h5
noncomputable def putsA (tm:T AV):List Nat→List AV→T AV
 | p::ps,x::xs=>putsA (tm.set p x) ps xs
 | _,_=>tm
theorem puts_rel {φ:Phi} {nt:Nat}:∀ {ps:List Nat} {xs:List AV} {xs':List Value} {tm:T AV} {tmps:Array Value},(∀ p∈ps,p<nt)→VRels φ xs xs'→TRel φ tm tmps→tmps.size=nt →
  TRel φ (putsA tm ps xs) ((ps.zip xs').foldl (fun tmps (x:Nat×Value)=>tmps.setIfInBounds x.1 x.2) tmps)∧((ps.zip xs').foldl (fun tmps (x:Nat×Value)=>tmps.setIfInBounds x.1 x.2) tmps).size=nt:=by
 intro ps
 induction ps with
 | nil=>intro xs xs' tm tmps _ _ ht hs;exact⟨ht,hs⟩
 | cons p ps ih =>
  intro xs xs' tm tmps hlt hx ht hs
  cases hx with
  | nil=>exact⟨ht,hs⟩
  | @cons x x' xs xs' h t =>
   simp only [putsA,List.zip_cons_cons,List.foldl_cons]
   refine ih (fun q hq=>hlt q (List.mem_cons_of_mem _ hq)) t ?_ (by simp [hs])
   have:=TRel.put (a:={ tmps:=tmps,defers:=[] }) ht (d:=some p) (nt:=nt) hs (fun t ht=>by cases ht;exact hlt p (List.mem_cons_self ..)) h
   exact this
theorem YieldOK.round {id:Nat} {args:List AV} {hp:T Obj} {nx:Nat} {pend:Option Code} {tm:T AV} {ps:List Nat} {assign body:Code} {df:Nat} {st1 st2:St} {e:Ex}
  {pend1:Option Code} {tm1:T AV} {nt1:Nat} {ps1:List Nat} {as1 bd1:Code} {df1:Nat} {s2:LoopState} {pend2:Option Code} {tm2:T AV} {nt2:Nat} {ps2:List Nat} {as2 bd2:Code} {df2:Nat}
  (h0:hp.get id=some (.loop .ready pend tm nt ps assign body df)) (Hn:args.length=ps.length) (hlt:∀ p∈ps,p<nt)
  (ha:CodeOK P C nt (some id) assign ⟨putsA tm ps args,hp,nx,[]⟩ .normal st1)
  (h1:st1.hp.get id=some (.loop .ready pend1 tm1 nt1 ps1 as1 bd1 df1))
  (hb:CodeOK P C nt (some id) body ⟨st1.tm,st1.hp.set id (.loop .busy pend1 tm1 nt1 ps1 as1 bd1 df1),st1.nx,st1.df⟩ e st2)
  (h2:st2.hp.get id=some (.loop s2 pend2 tm2 nt2 ps2 as2 bd2 df2)) :
  YieldOK P C id args hp.get nx (.bool e.jump.isNone) (st2.hp.set id (.loop (match e.jump with|none=>.ready|some _=>.done) e.jump tm2 nt2 ps2 as2 bd2 df2)).get st2.nx:=by
 intro φ w args' b hr hg hargs hφ
 obtain⟨b',r,bd,k1,k2,k3,k4,k5,k6,k7,k8,k9,k10,k11⟩:=loop_of hr h0
 rw [hφ] at k1;simp only [Option.some.injEq,Loc.obj.injEq] at k1;subst k1
 have hsz:args'.size=r.params.size:=by
  have:=hargs.length
  have q:r.params.toList.length=ps.length:=by rw [k9]
  simp at this q;omega
 refine⟨r.fn,_,r.assign,r.body,run_yield k2 hsz,fun r0 n=>?_⟩
 have hpt:=puts_rel (ps:=ps) (tm:=tm) (tmps:=r.tmps) hlt hargs k3 k8
 have hzip:(r.params.zip args').foldl (fun tmps (x:Nat×Value)=>tmps.setIfInBounds x.1 x.2) r.tmps=(ps.zip args'.toList).foldl (fun tmps (x:Nat×Value)=>tmps.setIfInBounds x.1 x.2) r.tmps:=by
  rw [← Array.foldl_toList,Array.toList_zip,k9]
 show RoundIn (Fw r0) n P b r.fn ((r.params.zip args').foldl (fun tmps (x:Nat×Value)=>tmps.setIfInBounds x.1 x.2) r.tmps) r.assign r.body w _
 rw [hzip,k10,k11]
 refine roundIn_of_wpIn trivial ?_
 show assign.wpIn (Fw (some b)) n P _ _ _
 refine ha φ _ w ⟨hr,hg,hpt.1,hpt.2,.nil⟩ (some b) n ⟨b,rfl,hφ⟩ _ ?_
 intro φ1 a1 w1 hl1 hs1
 obtain⟨b1,r1,bd1',j1,j2,j3,j4,j5,j6,j7,j8,j9,j10,j11⟩:=loop_of hl1.rel h1
 have hφ1:=hs1.le _ _ hφ
 rw [hφ1] at j1;simp only [Option.some.injEq,Loc.obj.injEq] at j1;subst j1
 obtain⟨t1,t2⟩:=loop_turn (s':=.busy) (pend':=pend1) hl1.rel h1 hφ1 j2
 have hw1:({ r1 with state:=LoopState.busy,pending:=pend1 }:Loop)={ r1 with state:=.busy }:=by rw [← j7]
 rw [hw1] at t1 t2
 refine⟨_,run_beginRound j2 j6,?_⟩
 rw [← set_get] at t1 t2
 refine hb φ1 a1 _ ⟨t1,hl1.glob.step t2,hl1.tmps,hl1.size,hl1.defers⟩ (some b) n ⟨b,rfl,hφ1⟩ _ ?_
 intro φ2 a2 w2 hl2 hs2
 obtain⟨b2,r2,bd2',i1,i2,i3,i4,i5,i6,i7,i8,i9,i10,i11⟩:=loop_of hl2.rel h2
 have hφ2:=hs2.le _ _ hφ1
 rw [hφ2] at i1;simp only [Option.some.injEq,Loc.obj.injEq] at i1;subst i1
 have fin:∀ j:Option Code,e.jump=j→∃ v w',(Instr.endRound b j).run P w2=.ok v w'∧∃ v' φ',Ending.returned v=.returned v'∧VRel φ' (.bool e.jump.isNone) v' ∧
   Rel φ' (st2.hp.set id (.loop (match e.jump with|none=>.ready|some _=>.done) e.jump tm2 nt2 ps2 as2 bd2 df2)).get st2.nx w' ∧
   Step φ hp.get nx w φ' (st2.hp.set id (.loop (match e.jump with|none=>.ready|some _=>.done) e.jump tm2 nt2 ps2 as2 bd2 df2)).get st2.nx w':=by
  rintro j rfl
  obtain⟨t3,t4⟩:=loop_turn (s':=match e.jump with|none=>.ready|some _=>.done) (pend':=e.jump) hl2.rel h2 hφ2 i2
  rw [← set_get] at t3 t4
  refine⟨_,_,run_endRound e.jump i2,_,φ2,rfl,.bool _,?_,?_⟩
  ·generalize e.jump=q at *
   cases q<;>exact t3
  ·have t5:=(hs1.trans t2).trans (hs2.trans t4)
   generalize e.jump=q at *
   cases q<;>exact t5
 cases e with
 | normal=>exact fin none rfl
 | exit id=>exact fin _ rfl
 | goto l=>exact fin _ rfl
 | ret=>exact fin _ rfl
end
end Ev
