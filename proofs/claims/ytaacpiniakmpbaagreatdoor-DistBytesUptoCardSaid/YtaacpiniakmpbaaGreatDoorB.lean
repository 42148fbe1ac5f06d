/- The abstract operations and the model's: maps. -/
import Derived.Test.YtaacpiniakmpbaaGreatDoorA
import Derived.Lib.UnsafeStr
import Derived.Laws.BytesString
import Derived.Laws.Build
import Derived.Laws.Entries
import Derived.Laws.Small
import Derived.Laws.Tables
import Derived.Laws.MakeOwn
namespace Ev
open Go Go.MapKept
set_option linter.unusedSimpArgs false
set_option linter.unusedVariables false
section
variable {P:Program} {C:Ctx} {φ ψ:Phi}
def scal:AV→Bool
 | .bool _|.int _ _|.str _=>true
 | _=>false
theorem eq1_scal {a b:AV} {r:Bool} (h:eq1 a b=some r):scal a=true∧scal b=true:=by
 cases a<;>cases b<;>first|(simp [eq1] at h;done)|exact⟨rfl,rfl⟩
theorem eq1_true {a b:AV} (h:eq1 a b=some true):a=b:=by
 cases a<;>cases b<;>simp only [eq1] at h<;>try (simp at h;done)
 ·next x y=>cases x<;>cases y<;>simp at h<;>rfl
 ·split at h
  ·next hk =>
   simp only [Option.some.injEq] at h
   rw [intEq_iff] at h
   rw [kindEq_iff.1 hk,eq_of_beq h]
  ·simp at h
 ·simp only [Option.some.injEq] at h
  rw [(bytesEq_iff _ _).1 h]
theorem eq1_self {a:AV} (h:scal a=true):eq1 a a=some true:=by
 cases a<;>first|(simp [scal] at h;done)|skip
 ·next x=>cases x<;>rfl
 ·next k n=>simp only [eq1];rw [kindEq_iff.2 rfl,intEq_iff];simp
 ·next s=>simp only [eq1];rw [(bytesEq_iff _ _).2 rfl]
theorem eqL_scal:∀ {a b:List AV} {r:Bool},eqL a b=some r→(∀ x∈a,scal x=true)∧(∀ x∈b,scal x=true)∧a.length=b.length
 | [],[],r,_=>⟨by simp,by simp,rfl⟩
 | [],_::_,r,h=>by simp [eqL] at h
 | _::_,[],r,h=>by simp [eqL] at h
 | x::a,y::b,r,h=>by
  simp only [eqL] at h
  split at h
  ·next p q hp hq =>
   obtain⟨h1,h2⟩:=eq1_scal hp
   obtain⟨h3,h4,h5⟩:=eqL_scal hq
   exact⟨by simpa using⟨h1,h3⟩,by simpa using⟨h2,h4⟩,by simp [h5]⟩
  ·simp at h
theorem eqL_true:∀ {a b:List AV},eqL a b=some true→a=b
 | [],[],_=>rfl
 | [],_::_,h=>by simp [eqL] at h
 | _::_,[],h=>by simp [eqL] at h
 | x::a,y::b,h=>by
  simp only [eqL] at h
  split at h
  ·next p q hp hq =>
   cases p<;>simp at h
   subst h
   rw [eq1_true hp,eqL_true hq]
  ·simp at h
theorem eqL_self:∀ {a:List AV},(∀ x∈a,scal x=true)→eqL a a=some true
 | [],_=>rfl
 | x::a,h=>by
  simp only [eqL,eq1_self (h x (by simp)),eqL_self (a:=a) fun y hy=>h y (by simp [hy])]
def keyV:AV→Bool
 | .agg l=>l.all scal
 | v=>scal v
theorem keyV_of {a:AV} (h:scal a=true):keyV a=true:=by cases a<;>first|exact h|(simp [scal] at h)
theorem eqK_keyV {a b:AV} {r:Bool} (h:eqK a b=some r):keyV a=true∧keyV b=true:=by
 unfold eqK at h
 split at h
 ·obtain⟨h1,h2,_⟩:=eqL_scal h
  exact⟨by simpa [keyV] using h1,by simpa [keyV] using h2⟩
 ·obtain⟨h1,h2⟩:=eq1_scal h
  exact⟨keyV_of h1,keyV_of h2⟩
theorem eqK_true {a b:AV} (h:eqK a b=some true):a=b:=by
 unfold eqK at h
 split at h
 ·rw [eqL_true h]
 ·exact eq1_true h
theorem keyV_cases {a:AV} (h:keyV a=true):(∃ l,a=.agg l∧∀ x∈l,scal x=true)∨(scal a=true∧∀ l,a≠.agg l):=by
 unfold keyV at h
 split at h
 ·next l=>exact .inl ⟨l,rfl,by simpa using h⟩
 ·next hn=>exact .inr ⟨h,fun l e=>hn l e⟩
theorem eqK_of_scal {a b:AV} (h:∀ l,a≠.agg l):eqK a b=eq1 a b:=by
 unfold eqK
 split
 ·next l _=>exact absurd rfl (h l)
 ·rfl
theorem eqK_self {a:AV} (h:keyV a=true):eqK a a=some true:=by
 rcases keyV_cases h with⟨l,rfl,hl⟩|⟨h1,h2⟩
 ·exact eqL_self hl
 ·rw [eqK_of_scal h2];exact eq1_self h1
theorem VRel.inv_str {s:List Nat} {v:Value} (h:VRel φ (.str s) v):∃ b,v=.string b∧s=bytesOf b:=by
 generalize hq:AV.str s=q at h
 cases h<;>cases hq
 exact⟨_,rfl,rfl⟩
theorem ba_beq (s:ByteArray):(s==s)=true:=by rw [beq_toListBytes];exact beq_self_eq_true _
theorem VRel.det1 {a:AV} (ha:scal a=true) {v v':Value} (h:VRel φ a v) (h':VRel ψ a v'):v=v':=by
 cases a<;>first|(simp [scal] at ha;done)|skip
 ·cases h;cases h';rfl
 ·cases h;cases h';rfl
 ·obtain⟨b,rfl,hb⟩:=h.inv_str
  obtain⟨c,rfl,hc⟩:=h'.inv_str
  rw [bytesOf_inj (hb.symm.trans hc)]
theorem VRels.det1:∀ {a:List AV},(∀ x∈a,scal x=true)→∀ {v v':List Value},VRels φ a v→VRels ψ a v'→v=v'
 | [],_,v,v',h,h'=>by cases h;cases h';rfl
 | x::l,ha,v,v',h,h'=>by
  cases h with
  | cons h1 h2=>cases h' with
   | cons h3 h4=>rw [h1.det1 (ha x (by simp)) h3,VRels.det1 (fun y hy=>ha y (by simp [hy])) h2 h4]
theorem VRel.det {a:AV} (ha:keyV a=true) {v v':Value} (h:VRel φ a v) (h':VRel ψ a v'):v=v':=by
 rcases keyV_cases ha with⟨l,rfl,hl⟩|⟨h1,_⟩
 ·cases h with
  | agg h1=>cases h' with
   | agg h2 =>
    have:=VRels.det1 hl h1 h2
    congr 1
    exact Array.toList_inj.1 this
 ·exact h.det1 h1 h'
theorem sameBits_self {a:AV} (ha:keyV a=true) {v:Value} (h:VRel φ a v) (n:Nat):Instr.sameBits (n+1) v v=true:=by
 cases a<;>try (simp [keyV,scal] at ha;done)
 ·cases h;simp [Instr.sameBits]
 ·cases h;simp [Instr.sameBits]
 ·cases h;simp [Instr.sameBits,ba_beq]
 cases h with
 | @agg x x' h1 =>
  simp only [keyV,List.all_eq_true] at ha
  simp only [Instr.sameBits,BEq.rfl,Bool.true_and,List.all_eq_true]
  rintro⟨p,q⟩ hpq
  obtain⟨j,hj⟩:=List.mem_iff_getElem?.1 hpq
  rw [List.getElem?_zip_eq_some] at hj
  obtain⟨hj1,hj2⟩:=hj
  rw [hj1] at hj2
  simp at hj2;subst hj2
  obtain⟨y,hy,hyr⟩:=h1.getV j p hj1
  have hs:=ha y (List.mem_of_getElem? hy)
  cases y<;>first|(simp [scal] at hs;done)|(cases hyr<;>cases n<;>simp [Instr.sameBits,ba_beq])
theorem checkKey_list (em:Bool) (n:Nat) (w:World) (xs:Array Value):∀ (fs:List Field) (ks:List TK) (j:Nat) (a:List AV),FieldsAt P fs ks j→fs.length=ks.length→typedL ks a=true →
  VRels φ a (xs.toList.drop j)→(forIn fs PUnit.unit fun f _=>(if f.name≠ "_" then do
   Instr.checkKey em (n+1) f.type (← part f.type xs f.offset)
   pure (ForInStep.yield PUnit.unit) else pure (ForInStep.yield PUnit.unit):Sem (ForInStep PUnit))).run P w=.ok PUnit.unit w
 | [],[],j,a,_,_,_,_=>by simp
 | [],k::ks,j,a,_,hl,_,_=>by simp at hl
 | f::fs,[],j,a,_,hl,_,_=>by simp at hl
 | f::fs,k::ks,j,a,hf,hl,ht,hx=>by
  cases a with
  | nil=>simp [typedL_nil'] at ht
  | cons x a =>
   obtain⟨h1,h2,h3⟩:=typedL_cons ht
   obtain⟨ho,hn,d,hd,hdk⟩:=hf 0 f rfl
   simp at ho hdk
   obtain⟨x',hx1,hx2⟩:=hx.get 0 x rfl
   simp at hx1
   have hxj:xs[j]?=some x':=by simpa using hx1
   have hck:(Instr.checkKey em (n+1) f.type x').run P w=.ok () w:=by
    refine run_checkKey hd ?_ em n
    subst hdk
    cases d<;>cases x<;>simp only [TK.of,typedL] at h1<;>try (simp at h1;done)
    all_goals(cases hx2;simp [IsKey])
    all_goals(split at h1<;>simp at h1;next hk=>exact(kindEq_iff.1 hk).symm)
   have ih:=checkKey_list em n w xs fs ks (j+1) a hf.tail (by simpa using hl) h2 (by have:=hx.drop 1;simpa [List.drop_drop,Nat.add_comm] using this)
   simp only [List.forIn_cons,Sem.run_bind]
   rw [if_pos hn]
   simp only [Sem.run_bind,ho,part_scalar hd (hdk▸h3) hxj,Result.andThen_ok,hck,Sem.run_pure]
   exact ih
theorem checkKey_ok {kt:TypeId} {tk:TI} (htk:TIok P kt tk) {k:AV} (hk:keyOk tk k=true) {k':Value} (hv:VRel φ k k') (em:Bool) (w:World) :
  (Instr.checkKey em 10000 kt k').run P w=.ok () w:=by
 obtain⟨n,hn⟩:∃ n,(10000:Nat)=n+2:=⟨9998,rfl⟩
 rw [hn]
 unfold keyOk at hk
 split at hk
 ·next e=>cases hv;exact run_checkKey (htk.bool e) (by simp [IsKey]) em (n+1)
 ·next e=>cases hv;exact run_checkKey (htk.int e) (by simp [IsKey];exact(kindEq_iff.1 hk).symm) em (n+1)
 ·next e=>cases hv;exact run_checkKey (htk.str e) (by simp [IsKey]) em (n+1)
 ·next e =>
  split at hk
  ·next ks hfl =>
   cases hv with
   | agg hx =>
    obtain⟨h1,h2,h3⟩:=(htk.flat ks hfl).fieldsAt
    unfold Instr.checkKey
    simp only [Sem.run_bind,run_underlying h1,Result.andThen_ok]
    rw [← Array.forIn_toList]
    have:=checkKey_list (P:=P) em n w _ _ ks 0 _ h2 h3 hk (by simpa using hx)
    rw [this];rfl
  ·simp at hk
 ·simp at hk
def KE (φ:Phi) (k:AV) (m:MapEntry) (b:Bool):Prop:=∃ a,VRel φ a m.key∧eqK k a=some b
theorem KE.not {k:AV} {m:MapEntry} (h:KE φ k m true) (h':KE φ k m false):False:=by
 obtain⟨a,h1,h2⟩:=h
 obtain⟨b,h3,h4⟩:=h'
 have e:=eqK_true h2
 subst e
 have hk:=(eqK_keyV h4).1
 rcases keyV_cases hk with⟨l,rfl,hl⟩|⟨hs,hn⟩
 ·cases b<;>try (simp [eqK,eq1] at h4;done)
  next lb =>
  have hb:∀ x∈lb,scal x=true:=(eqL_scal (show eqL l lb=some false from h4)).2.1
  have:l=lb:=by
   have Hn:=(eqL_scal (show eqL l lb=some false from h4)).2.2
   generalize m.key=q at h1 h3
   cases h1 with
   | agg h1=>cases h3 with
    | agg h3 =>
     clear h2 h4 hk
     generalize Array.toList _=qs at h1 h3
     induction l generalizing lb qs with
     | nil=>cases lb<;>simp at Hn;rfl
     | cons x l ih =>
      cases lb with
      | nil=>simp at Hn
      | cons y lb =>
       cases h1 with
       | cons p1 p2=>cases h3 with
        | cons p3 p4 =>
         rw [ih (fun z hz=>hl z (by simp [hz])) lb (fun z hz=>hb z (by simp [hz])) (by simpa using Hn) _ p2 p4]
         congr 1
         have hx:=hl x (by simp)
         have hy:=hb y (by simp)
         cases x<;>cases y<;>simp [scal] at hx hy<;>try (cases p1;cases p3;done)
         ·cases p1;cases p3;rfl
         ·cases p1;cases p3;rfl
         ·obtain⟨u,e1,e2⟩:=p1.inv_str
          obtain⟨u',e3,e4⟩:=p3.inv_str
          subst e1;cases e3;rw [e2,e4]
  subst this
  rw [eqK_self hk] at h4;simp at h4
 ·rw [eqK_of_scal hn] at h4
  have hb:=(eq1_scal h4).2
  have:k=b:=by
   generalize m.key=q at h1 h3
   cases k<;>cases b<;>simp [scal] at hs hb<;>try (cases h1;cases h3;done)
   ·cases h1;cases h3;rfl
   ·cases h1;cases h3;rfl
   ·obtain⟨u,e1,e2⟩:=h1.inv_str
    obtain⟨u',e3,e4⟩:=h3.inv_str
    subst e1;cases e3;rw [e2,e4]
  subst this
  rw [eq1_self hs] at h4;simp at h4
def Found (φ:Phi) (k:AV) (ens:List MapEntry) (i0:Nat) (r:Option (Nat×Value)):Prop :=
 (r=none∧∀ m∈ens,KE φ k m false)∨∃ i m,ens[i]?=some m∧KE φ k m true∧r=some (i0+i,m.val)
theorem Found.cons_false {k:AV} {m:MapEntry} {ens:List MapEntry} {i0:Nat} {r:Option (Nat×Value)} (hm:KE φ k m false) (h:Found φ k ens (i0+1) r):Found φ k (m::ens) i0 r:=by
 rcases h with⟨rfl,h⟩|⟨i,m',h1,h2,rfl⟩
 ·exact .inl ⟨rfl,by simpa using⟨hm,h⟩⟩
 ·exact .inr ⟨i+1,m',by simpa using h1,h2,by congr 2;omega⟩
theorem Found.cons_true {k:AV} {m:MapEntry} {ens:List MapEntry} {i0:Nat} (hm:KE φ k m true):Found φ k (m::ens) i0 (some (i0,m.val)) :=
 .inr ⟨0,m,rfl,hm,rfl⟩
theorem keyOk_inv {tk:TI} {k:AV} (h:keyOk tk k=true):(∃ b,k=.bool b∧tk.k=.bool)∨(∃ q n,k=.int q n∧tk.k=.int q)∨(∃ s,k=.str s∧tk.k=.str) ∨
  (∃ l fs ks,k=.agg l∧tk.k=.st fs∧tk.fl=some ks∧typedL ks l=true):=by
 unfold keyOk at h
 split at h
 ·next b e=>exact .inl ⟨b,rfl,e⟩
 ·next k' q n e=>exact .inr (.inl ⟨q,n,rfl,by rw [e,kindEq_iff.1 h]⟩)
 ·next s e=>exact .inr (.inr (.inl ⟨s,rfl,e⟩))
 ·next fs l e =>
  split at h
  ·next ks hf=>exact .inr (.inr (.inr ⟨l,fs,ks,rfl,e,hf,h⟩))
  ·simp at h
 ·simp at h
theorem findNow_ok {kind:TypeDesc} {k:AV} {k':Value}:∀ (ens:List MapEntry) (i0:Nat),(∀ m∈ens,∃ b,KE φ k m b∧Instr.sameNow kind k' m.key=some b) →
  ∃ r,Instr.findNow kind k' ens i0=some r∧Found φ k ens i0 r
 | [],i0,_=>⟨none,rfl,.inl ⟨rfl,by simp⟩⟩
 | m::ens,i0,h=>by
  obtain⟨b,h1,h2⟩:=h m (by simp)
  cases b
  ·obtain⟨r,h3,h4⟩:=findNow_ok ens (i0+1) fun m' hm'=>h m' (by simp [hm'])
   exact⟨r,by simp only [Instr.findNow,h2];exact h3,h4.cons_false h1⟩
  ·exact⟨some (i0,m.val),by simp only [Instr.findNow,h2],.cons_true h1⟩
theorem findAsking_ok {kt:TypeId} {k:AV} {k':Value} (w:World):∀ (ens:List MapEntry) (i0:Nat),(∀ m∈ens,∃ b,KE φ k m b∧(Op.equal kt k' m.key).run P w=.ok b w) →
  ∃ r,(Instr.findAsking kt k' ens i0).run P w=.ok r w∧Found φ k ens i0 r
 | [],i0,_=>⟨none,rfl,.inl ⟨rfl,by simp⟩⟩
 | m::ens,i0,h=>by
  obtain⟨b,h1,h2⟩:=h m (by simp)
  cases b
  ·obtain⟨r,h3,h4⟩:=findAsking_ok w ens (i0+1) fun m' hm'=>h m' (by simp [hm'])
   exact⟨r,by simp only [Instr.findAsking,Sem.run_bind,h2,Result.andThen_ok,Bool.false_eq_true,if_false];exact h3,h4.cons_false h1⟩
  ·exact⟨some (i0,m.val),by simp only [Instr.findAsking,Sem.run_bind,h2,Result.andThen_ok,if_true];rfl,.cons_true h1⟩
theorem findKey_ok {kt:TypeId} {tk:TI} (htk:TIok P kt tk) {k:AV} (hk:keyOk tk k=true) {k':Value} (hv:VRel φ k k') (ens:List MapEntry)
  (h:∀ m∈ens,∃ b,KE φ k m b) (w:World):∃ r,(Instr.findKey kt k' ens).run P w=.ok r w∧Found φ k ens 0 r:=by
 have now:∀ (d:TypeDesc),P.underlying kt=some d→(∀ m∈ens,∃ b,KE φ k m b∧Instr.sameNow d k' m.key=some b)→∃ r,(Instr.findKey kt k' ens).run P w=.ok r w∧Found φ k ens 0 r:=by
  intro d hd hh
  obtain⟨r,h1,h2⟩:=findNow_ok ens 0 hh
  exact⟨r,by simp only [Instr.findKey,Sem.run_bind,run_underlying hd,Result.andThen_ok,h1];rfl,h2⟩
 rcases keyOk_inv hk with⟨b,rfl,e⟩|⟨q,n,rfl,e⟩|⟨s,rfl,e⟩|⟨l,fs,ks,rfl,e,hfl,ht⟩
 ·cases hv
  refine now _ (htk.bool e) fun m hm=>?_
  obtain⟨r,a,h1,h2⟩:=h m hm
  refine⟨r,⟨a,h1,h2⟩,?_⟩
  cases a<;>simp [eqK,eq1] at h2
  generalize m.key=mk at h1
  cases h1
  subst h2
  next x=>cases b<;>cases x<;>rfl
 ·cases hv
  refine now _ (htk.int e) fun m hm=>?_
  obtain⟨r,a,h1,h2⟩:=h m hm
  refine⟨r,⟨a,h1,h2⟩,?_⟩
  cases a<;>simp only [eqK,eq1] at h2<;>try (simp at h2;done)
  split at h2
  ·next hkk =>
   have:=kindEq_iff.1 hkk
   subst this
   generalize m.key=mk at h1
   cases h1
   simp only [Option.some.injEq] at h2
   subst h2
   simp [Instr.sameNow,intEq_iff]
  ·simp at h2
 ·obtain⟨s',rfl,rfl⟩:=hv.inv_str
  refine now _ (htk.str e) fun m hm=>?_
  obtain⟨r,a,h1,h2⟩:=h m hm
  refine⟨r,⟨a,h1,h2⟩,?_⟩
  cases a<;>simp only [eqK,eq1] at h2<;>try (simp at h2;done)
  obtain⟨u,hu,rfl⟩:=h1.inv_str
  rw [hu]
  simp only [Option.some.injEq] at h2
  subst h2
  simp only [Instr.sameNow,bytesEq_of,beq_toListBytes]
 ·cases hv with
  | @agg _ xs hx =>
  have hf:=htk.flat ks hfl
  obtain⟨hu,_,_⟩:=hf.fieldsAt
  have ask:∃ r,(Instr.findAsking kt (.agg xs) ens 0).run P w=.ok r w∧Found φ (.agg l) ens 0 r:=by
   refine findAsking_ok w ens 0 fun m hm=>?_
   obtain⟨r,a,h1,h2⟩:=h m hm
   refine⟨r,⟨a,h1,h2⟩,?_⟩
   cases a<;>try (simp [eqK,eq1] at h2;done)
   generalize m.key=mk at h1
   cases h1 with
   | agg hy=>exact eqAgg_ok hf ht (show eqL _ _=some r from h2) hx hy w 9998
  cases ens with
  | nil=>exact⟨none,by simp only [Instr.findKey,Sem.run_bind,run_underlying hu,Result.andThen_ok];rfl,.inl ⟨rfl,by simp⟩⟩
  | cons m ens =>
   obtain⟨r,h1,h2⟩:=ask
   exact⟨r,by simp only [Instr.findKey,Sem.run_bind,run_underlying hu,Result.andThen_ok];exact h1,h2⟩
theorem findK_none:∀ {k:AV} {es:List (AV×AV)},findK k es=some none→∀ e∈es,eqK k e.1=some false
 | k,[],_,e,he=>by simp at he
 | k,x::es,h,e,he=>by
  simp only [findK] at h
  split at h
  ·simp at h
  ·next hx =>
   rcases List.mem_cons.1 he with rfl|he
   ·exact hx
   ·exact findK_none h e he
  ·simp at h
theorem findK_some:∀ {k v:AV} {es:List (AV×AV)},findK k es=some (some v)→∃ l1 e l2,es=l1++e::l2∧eqK k e.1=some true∧v=e.2∧∀ x∈l1,eqK k x.1=some false
 | k,v,[],h=>by simp [findK] at h
 | k,v,x::es,h=>by
  simp only [findK] at h
  split at h
  ·next hx=>simp at h;exact⟨[],x,es,rfl,hx,h.symm,by simp⟩
  ·next hx =>
   obtain⟨l1,e,l2,h1,h2,h3,h4⟩:=findK_some h
   refine⟨x::l1,e,l2,by simp [h1],h2,h3,fun y hy=>?_⟩
   rcases List.mem_cons.1 hy with rfl|hy
   ·exact hx
   ·exact h4 y hy
  ·simp at h
theorem EFor.split:∀ {l1:List (AV×AV)} {e:AV×AV} {l2:List (AV×AV)} {r:List MapEntry},EFor φ (l1++e::l2) r→∃ r1 m r2,r=r1++m::r2∧EFor φ l1 r1∧VRel φ e.1 m.key∧VRel φ e.2 m.val∧EFor φ l2 r2
 | [],e,l2,r,h=>by
  cases h with
  | cons hk hv t=>exact⟨[],_,_,rfl,.nil,hk,hv,t⟩
 | x::l1,e,l2,r,h=>by
  cases h with
  | cons hk hv t =>
   obtain⟨r1,m,r2,rfl,h1,h2,h3,h4⟩:=EFor.split t
   exact⟨_::r1,m,r2,rfl,.cons hk hv h1,h2,h3,h4⟩
theorem EFor.mem {es:List (AV×AV)} {r:List MapEntry} (h:EFor φ es r):∀ m∈r,∃ e∈es,VRel φ e.1 m.key∧VRel φ e.2 m.val:=by
 induction h with
 | nil=>intro m hm;simp at hm
 | cons hk hv _ ih =>
  intro m hm
  rcases List.mem_cons.1 hm with rfl|hm
  ·exact⟨_,by simp,hk,hv⟩
  ·obtain⟨e,h1,h2⟩:=ih m hm;exact⟨e,by simp [h1],h2⟩
theorem EFor.append {l1 l2:List (AV×AV)} {r1 r2:List MapEntry} (h1:EFor φ l1 r1) (h2:EFor φ l2 r2):EFor φ (l1++l2) (r1++r2):=by
 induction h1 with
 | nil=>exact h2
 | cons hk hv _ ih=>exact .cons hk hv ih
theorem MRel.find {es:List (AV×AV)} {ens:List MapEntry} {clk:Nat} (hm:MRel φ es ens clk) {kt:TypeId} {tk:TI} (htk:TIok P kt tk) {k:AV} (hk:keyOk tk k=true) {k':Value} (hv:VRel φ k k')
  {r:Option AV} (h:findK k es=some r) (w:World) :
  (r=none∧(∀ e∈es,eqK k e.1=some false)∧(Instr.findKey kt k' ens).run P w=.ok none w) ∨
  ∃ l1 e l2 r1 m r2 i,es=l1++e::l2∧(k=e.1∧eqK k e.1=some true∧∀ x∈l1,eqK k x.1=some false)∧r=some e.2∧EFor φ l1 r1∧EFor φ l2 r2∧VRel φ e.2 m.val∧m.key=k'∧(r1++m::r2).Perm ens ∧
   ens[i]?=some m∧(∀ j m',ens[j]?=some m'→m'.born=m.born→j=i)∧(Instr.findKey kt k' ens).run P w=.ok (some (i,m.val)) w:=by
 obtain⟨q,hq,hp⟩:=hm.perm
 cases r with
 | none =>
  have hall:=findK_none h
  have hke:∀ m∈ens,KE φ k m false:=fun m hm'=>by
   obtain⟨e,h1,h2,_⟩:=hq.mem m (hp.mem_iff.2 hm')
   exact⟨e.1,h2,hall e h1⟩
  obtain⟨r,h1,h2⟩:=findKey_ok htk hk hv ens (fun m hm'=>⟨false,hke m hm'⟩) w
  rcases h2 with⟨rfl,_⟩|⟨i,m,h3,h4,_⟩
  ·exact .inl ⟨rfl,hall,h1⟩
  ·exact(h4.not (hke m (List.mem_of_getElem? h3))).elim
 | some v =>
  obtain⟨l1,e,l2,rfl,he,rfl,hl1⟩:=findK_some h
  have hke:=eqK_true he
  obtain⟨r1,m,r2,rfl,hr1,hmk,hmv,hr2⟩:=hq.split
  have hl2:∀ x∈l2,eqK k x.1=some false:=fun x hx=>by
   rw [hke]
   have:=List.pairwise_append.1 hm.keys
   exact List.rel_of_pairwise_cons this.2.1 hx
  have f1:∀ m'∈r1,KE φ k m' false:=fun m' hm'=>by obtain⟨x,h1,h2,_⟩:=hr1.mem m' hm';exact⟨x.1,h2,hl1 x h1⟩
  have f2:∀ m'∈r2,KE φ k m' false:=fun m' hm'=>by obtain⟨x,h1,h2,_⟩:=hr2.mem m' hm';exact⟨x.1,h2,hl2 x h1⟩
  have ft:KE φ k m true:=⟨e.1,hmk,he⟩
  have hmem:∀ m'∈ens,m'=m∨KE φ k m' false:=fun m' hm'=>by
   have:=hp.mem_iff.2 hm'
   rcases List.mem_append.1 this with h1|h1
   ·exact .inr (f1 m' h1)
   ·rcases List.mem_cons.1 h1 with rfl|h1
    ·exact .inl rfl
    ·exact .inr (f2 m' h1)
  obtain⟨r,h1,h2⟩:=findKey_ok htk hk hv ens (fun m' hm'=>(hmem m' hm').elim (fun e=>⟨true,e▸ft⟩) fun f=>⟨false,f⟩) w
  rcases h2 with⟨rfl,h2⟩|⟨i,m',h3,h4,rfl⟩
  ·exact(ft.not (h2 m (hp.mem_iff.1 (by simp)))).elim
  ·have hm':m'=m:=(hmem m' (List.mem_of_getElem? h3)).elim id fun f=>(h4.not f).elim
   subst hm'
   rw [Nat.zero_add] at h1
   refine .inr ⟨l1,e,l2,r1,m',r2,i,rfl,⟨hke,he,hl1⟩,rfl,hr1,hr2,hmv,?_,hp,h3,?_,h1⟩
   ·exact VRel.det (eqK_keyV he).2 hmk (hke▸hv)
   ·intro j m2 hj hb
    have hnd:=hm.nodup
    have e1:(ens.map (·.born))[j]?=some m'.born:=by simp [hj,hb]
    have e2:(ens.map (·.born))[i]?=some m'.born:=by simp [h3]
    exact(List.getElem?_inj (by obtain⟨hlt,_⟩:=List.getElem?_eq_some_iff.1 e1;exact hlt) hnd).1 (e1.trans e2.symm)
theorem setK_old:∀ {k v:AV} {es es':List (AV×AV)},setK k v es=some (es',false)→∃ l1 e l2,es=l1++e::l2∧es'=l1++(e.1,v)::l2∧eqK k e.1=some true∧(∀ x∈l1,eqK k x.1=some false)∧findK k es=some (some e.2)
 | k,v,[],es',h=>by simp [setK] at h
 | k,v,x::es,es',h=>by
  simp only [setK] at h
  split at h
  ·next hx =>
   simp only [Option.some.injEq,Prod.mk.injEq,and_true] at h
   exact⟨[],x,es,rfl,h.symm,hx,by simp,by simp [findK,hx]⟩
  ·next hx =>
   split at h
   ·next r b hr =>
    simp only [Option.some.injEq,Prod.mk.injEq] at h
    obtain⟨rfl,rfl⟩:=h
    obtain⟨l1,e,l2,h1,h2,h3,h4,h5⟩:=setK_old hr
    refine⟨x::l1,e,l2,by simp [h1],by simp [h2],h3,fun y hy=>?_,by simp only [findK,hx];exact h5⟩
    rcases List.mem_cons.1 hy with rfl|hy
    ·exact hx
    ·exact h4 y hy
   ·simp at h
  ·simp at h
theorem setK_new:∀ {k v:AV} {es es':List (AV×AV)},setK k v es=some (es',true)→es'=es++[(k,v)]∧findK k es=some none
 | k,v,[],es',h=>by simp [setK] at h;exact⟨h.symm,rfl⟩
 | k,v,x::es,es',h=>by
  simp only [setK] at h
  split at h
  ·simp at h
  ·next hx =>
   split at h
   ·next r b hr =>
    simp only [Option.some.injEq,Prod.mk.injEq] at h
    obtain⟨rfl,rfl⟩:=h
    obtain⟨h1,h2⟩:=setK_new hr
    exact⟨by simp [h1],by simp only [findK,hx];exact h2⟩
   ·simp at h
  ·simp at h
theorem eq1_symm {a b:AV} {r:Bool} (h:eq1 a b=some r):eq1 b a=some r:=by
 cases r with
 | true=>have:=eq1_true h;subst this;exact h
 | false =>
  have hs:=eq1_scal h
  cases a<;>cases b<;>simp only [eq1] at h ⊢<;>try (simp at h;done)
  ·next x y=>cases x<;>cases y<;>simp at h ⊢
  ·split at h
   ·next hk =>
    rw [kindEq_iff.2 (kindEq_iff.1 hk).symm]
    simp only [Option.some.injEq] at h ⊢
    rw [intEq_iff] at h ⊢
    simp at h ⊢;exact fun e=>h e.symm
   ·simp at h
  ·simp only [Option.some.injEq] at h ⊢
   rw [← Bool.not_eq_true] at h ⊢
   rw [bytesEq_iff] at h ⊢
   exact fun e=>h e.symm
theorem eqL_symm:∀ {a b:List AV} {r:Bool},eqL a b=some r→eqL b a=some r
 | [],[],r,h=>h
 | [],_::_,r,h=>by simp [eqL] at h
 | _::_,[],r,h=>by simp [eqL] at h
 | x::a,y::b,r,h=>by
  simp only [eqL] at h ⊢
  split at h
  ·next p q hp hq=>rw [eq1_symm hp,eqL_symm hq];exact h
  ·simp at h
theorem eqK_symm {a b:AV} {r:Bool} (h:eqK a b=some r):eqK b a=some r:=by
 unfold eqK at h
 split at h
 ·exact eqL_symm h
 ·next hn =>
  have:=eq1_symm h
  rw [eqK_of_scal]
  ·exact this
  ·intro l e;subst e;simp [eq1] at this
theorem first_unique {k:AV}:∀ {l1 m1:List (AV×AV)} {e e':AV×AV} {l2 m2:List (AV×AV)},l1++e::l2=m1++e'::m2→eqK k e.1=some true→eqK k e'.1=some true →
  (∀ x∈l1,eqK k x.1=some false)→(∀ x∈m1,eqK k x.1=some false)→l1=m1∧e=e'∧l2=m2
 | [],[],e,e',l2,m2,h,_,_,_,_=>by simp at h;exact⟨rfl,h.1,h.2⟩
 | [],y::m1,e,e',l2,m2,h,h1,_,_,h4=>by
  simp at h
  have:=h4 y (by simp)
  rw [← h.1,h1] at this;simp at this
 | x::l1,[],e,e',l2,m2,h,_,h2,h3,_=>by
  simp at h
  have:=h3 x (by simp)
  rw [h.1,h2] at this;simp at this
 | x::l1,y::m1,e,e',l2,m2,h,h1,h2,h3,h4=>by
  simp at h
  obtain⟨rfl,a,b⟩:=first_unique h.2 h1 h2 (fun z hz=>h3 z (by simp [hz])) (fun z hz=>h4 z (by simp [hz]))
  exact⟨by rw [h.1],a,b⟩
theorem MRel.push {es:List (AV×AV)} {ens:List MapEntry} {clk:Nat} (hm:MRel φ es ens clk) {k v:AV} {k' v':Value} (hk:VRel φ k k') (hv:VRel φ v v') (hno:∀ e∈es,eqK k e.1=some false) :
  MRel φ (es++[(k,v)]) (ens++[⟨k',v',clk⟩]) (clk+1):=by
 obtain⟨q,hq,hp⟩:=hm.perm
 refine⟨⟨q++[⟨k',v',clk⟩],hq.append (.cons hk hv .nil),hp.append_right _⟩,?_,?_,?_⟩
 ·intro m h
  rcases List.mem_append.1 h with h|h
  ·have:=hm.born m h;omega
  ·simp at h;subst h;simp
 ·rw [List.map_append,List.nodup_append]
  refine⟨hm.nodup,by simp,?_⟩
  intro a ha b hb
  simp at hb;subst hb
  simp at ha
  obtain⟨m,h1,h2⟩:=ha
  have:=hm.born m h1
  omega
 ·rw [List.pairwise_append]
  refine⟨hm.keys,by simp,?_⟩
  intro a ha b hb
  simp at hb;subst hb
  exact eqK_symm (hno a ha)
theorem modify_perm {α:Type} (f:α→α):∀ {l1 l2:List α} {m:α} {ens:List α} {i:Nat},(l1++m::l2).Perm ens→ens[i]?=some m→(l1++f m::l2).Perm (ens.modify i f):=by
 intro l1 l2 m ens i hp hi
 obtain⟨hlt,he⟩:=List.getElem?_eq_some_iff.1 hi
 have e1:ens=ens.take i++m::ens.drop (i+1):=by
  rw [← he,← List.drop_eq_getElem_cons hlt,List.take_append_drop]
 have e2:ens.modify i f=ens.take i++f m::ens.drop (i+1):=by
  rw [List.modify_eq_take_cons_drop hlt,he]
 rw [e2]
 have a2:(ens.take i++m::ens.drop (i+1)).Perm (m::(ens.take i++ens.drop (i+1))):=List.perm_middle
 rw [← e1] at a2
 have h1:(m::(l1++l2)).Perm (m::(ens.take i++ens.drop (i+1))):=(List.perm_middle.symm.trans hp).trans a2
 have h2:=h1.cons_inv
 exact(List.perm_middle.trans (h2.cons (f m))).trans List.perm_middle.symm
theorem MRel.put {l1 l2:List (AV×AV)} {e:AV×AV} {ens:List MapEntry} {clk:Nat} (hm:MRel φ (l1++e::l2) ens clk) {r1 r2:List MapEntry} {m:MapEntry} (h1:EFor φ l1 r1) (h2:EFor φ l2 r2)
  (hp:(r1++m::r2).Perm ens) {i:Nat} (hi:ens[i]?=some m) {v:AV} {k' v':Value} (hk:VRel φ e.1 k') (hv:VRel φ v v') :
  MRel φ (l1++(e.1,v)::l2) (ens.modify i fun x=>{ x with key:=k',val:=v' }) clk:=by
 have hp':=modify_perm (fun x:MapEntry=>{ x with key:=k',val:=v' }) hp hi
 have hborn:(ens.modify i fun x=>{ x with key:=k',val:=v' }).map (·.born)=ens.map (·.born):=by
  apply List.ext_getElem?
  intro j
  simp only [List.getElem?_map,List.getElem?_modify]
  split<;>(cases ens[j]?<;>simp)
 refine⟨⟨_,h1.append (.cons hk hv h2),hp'⟩,?_,by rw [hborn];exact hm.nodup,?_⟩
 ·intro x hx
  have:x.born∈ens.map (·.born):=by rw [← hborn];exact List.mem_map.2 ⟨x,hx,rfl⟩
  obtain⟨y,h3,h4⟩:=List.mem_map.1 this
  rw [← h4];exact hm.born y h3
 ·have:=hm.keys
  rw [List.pairwise_append] at this ⊢
  refine⟨this.1,?_,?_⟩
  ·rw [List.pairwise_cons] at this ⊢;exact this.2.1
  ·intro a ha b hb
   rcases List.mem_cons.1 hb with rfl|hb
   ·exact this.2.2 a ha e (by simp)
   ·exact this.2.2 a ha b (by simp [hb])
theorem delK_some:∀ {k:AV} {es es':List (AV×AV)},delK k es=some es'→(es'=es∧findK k es=some none)∨∃ l1 e l2,es=l1++e::l2∧es'=l1++l2∧eqK k e.1=some true∧(∀ x∈l1,eqK k x.1=some false)∧findK k es=some (some e.2)
 | k,[],es',h=>by simp [delK] at h;exact .inl ⟨h,rfl⟩
 | k,x::es,es',h=>by
  simp only [delK] at h
  split at h
  ·next hx =>
   simp only [Option.some.injEq] at h
   exact .inr ⟨[],x,es,rfl,h.symm,hx,by simp,by simp [findK,hx]⟩
  ·next hx =>
   split at h
   ·next r hr =>
    simp only [Option.some.injEq] at h
    subst h
    rcases delK_some hr with⟨e1,e2⟩|⟨l1,e,l2,h1,h2,h3,h4,h5⟩
    ·exact .inl ⟨by rw [e1],by simp only [findK,hx];exact e2⟩
    ·refine .inr ⟨x::l1,e,l2,by simp [h1],by simp [h2],h3,fun y hy=>?_,by simp only [findK,hx];exact h5⟩
     rcases List.mem_cons.1 hy with rfl|hy
     ·exact hx
     ·exact h4 y hy
   ·simp at h
  ·simp at h
theorem erase_perm {α:Type}:∀ {l1 l2:List α} {m:α} {ens:List α} {i:Nat},(l1++m::l2).Perm ens→ens[i]?=some m→(l1++l2).Perm (ens.eraseIdx i):=by
 intro l1 l2 m ens i hp hi
 obtain⟨hlt,he⟩:=List.getElem?_eq_some_iff.1 hi
 have e1:ens=ens.take i++m::ens.drop (i+1):=by
  rw [← he,← List.drop_eq_getElem_cons hlt,List.take_append_drop]
 have e2:ens.eraseIdx i=ens.take i++ens.drop (i+1):=List.eraseIdx_eq_take_drop_succ ..
 rw [e2]
 have a2:(ens.take i++m::ens.drop (i+1)).Perm (m::(ens.take i++ens.drop (i+1))):=List.perm_middle
 rw [← e1] at a2
 exact((List.perm_middle.symm.trans hp).trans a2).cons_inv
theorem MRel.erase {φ:Phi} {l1 l2:List (AV×AV)} {e:AV×AV} {ens:List MapEntry} {clk:Nat} (hm:MRel φ (l1++e::l2) ens clk) {r1 r2:List MapEntry} {m:MapEntry} (h1:EFor φ l1 r1) (h2:EFor φ l2 r2)
  (hp:(r1++m::r2).Perm ens) {i:Nat} (hi:ens[i]?=some m):MRel φ (l1++l2) (ens.eraseIdx i) clk:=by
 refine⟨⟨_,h1.append h2,erase_perm hp hi⟩,fun x hx=>hm.born x ((List.eraseIdx_sublist _ _).subset hx),?_,?_⟩
 ·exact((List.eraseIdx_sublist _ _).map _).nodup hm.nodup
 ·have:=hm.keys
  rw [List.pairwise_append] at this ⊢
  refine⟨this.1,(List.pairwise_cons.1 this.2.1).2,fun a ha b hb=>this.2.2 a ha b (by simp [hb])⟩
end
end Ev
namespace Ev
open Go
set_option linter.unusedSimpArgs false
set_option linter.unusedVariables false
section
variable {P:Program} {C:Ctx} {φ:Phi}
theorem evO_rel {tm:T AV} {a:Act} (hg:GOk C φ) (ht:TRel φ tm a.tmps) {x:Option Operand} {v:Option AV} (h:valA.evO C tm x=some v):ORelV φ v (x.map a.eval):=by
 cases x with
 | none=>simp [valA.evO] at h;subst h;exact .none
 | some x =>
  simp only [valA.evO] at h
  split at h
  ·next u hu=>simp at h;subst h;exact .some (ev_rel hg ht hu)
  ·simp at h
theorem bytesOf_extract (s:ByteArray) (l h:Nat):bytesOf (s.extract l h)=((bytesOf s).drop l).take (h - l):=by
 simp [bytesOf,ByteArray.data_extract,Array.toList_extract,List.extract_eq_take_drop,List.map_take,List.map_drop]
theorem str_slice {t:TypeId} {ti:TI} (ht:TIok P t ti) (hk:ti.k=.str) (s:ByteArray) {lo hi:Option AV} {bd:Bnd} (h:bounds (bytesOf s).length (bytesOf s).length true lo hi none=some bd)
  {lo' hi':Option Value} (hlo:ORelV φ lo lo') (hhi:ORelV φ hi hi') (w:World) :
  (Instr.sliceAt t (.string s) lo' hi' none).run P w=.ok (.string (s.extract bd.l bd.h)) w:=by
 rw [bytesOf_len] at h
 obtain⟨m,h2,_⟩:=bounds_ok (P:=P) (c:=s.size) (Nat.le_refl _) (fun _=>rfl) h hlo hhi .none false w
 simp only [Instr.sliceAt,Sem.run_bind,run_underlying (ht.str hk),Result.andThen_ok,Instr.slice]
 simp [h2]
theorem u8s_ok:∀ {l:List AV} {r:List Nat},valA.u8s l=some r→∃ ns:List Int,l=ns.map (AV.int .u8)∧r=ns.map Int.toNat∧∀ n∈ns,0≤n∧n<256
 | [],r,h=>by simp [valA.u8s] at h;subst h;exact⟨[],rfl,rfl,by simp⟩
 | x::l,r,h=>by
  unfold valA.u8s at h
  split at h
  ·next e=>simp at e
  ·next n l' e =>
   cases e
   split at h
   ·next r' h1 h2 =>
    simp only [Option.some.injEq] at h;subst h
    obtain⟨ns,e1,e2,e3⟩:=u8s_ok h2
    rw [Nat.blt_eq] at h1
    exact⟨(n:Int)::ns,by simp [e1],by simp [e2],by simpa using⟨by omega,e3⟩⟩
   ·simp at h
  ·simp at h
theorem VRels.ints {k:IntKind}:∀ {ns:List Int} {vs:List Value},VRels φ (ns.map (AV.int k)) vs→vs=ns.map (Value.int k)
 | [],vs,h=>by cases h;rfl
 | n::ns,vs,h=>by
  cases h with
  | cons h1 h2=>cases h1;rw [VRels.ints h2];rfl
theorem bytes_fold:∀ (ns:List Int) (s:ByteArray),(∀ n∈ns,0≤n∧n<256)→bytesOf (ns.foldl (fun r n=>r.push (UInt8.ofNat n.toNat)) s)=bytesOf s++ns.map Int.toNat
 | [],s,_=>by simp
 | n::ns,s,h=>by
  simp only [List.foldl_cons]
  rw [bytes_fold ns _ fun m hm=>h m (by simp [hm])]
  have hn:=h n (by simp)
  have:bytesOf (s.push (UInt8.ofNat n.toNat))=bytesOf s++[n.toNat]:=by
   simp [bytesOf];omega
  rw [this];simp
theorem run_builtin {ρ:Operand→Value} {o:Oper} {c:Call} {b:Builtin} (ho:o.op=.call c) (hc:c.callee=.builtin b) (w:World) :
  ∃ consts,(execOp ρ o).run P w=(builtin b c.argTypes o.type consts (c.args.map ρ)).run P w:=by
 refine⟨c.args.map fun|.const _=>true|_=>false,?_⟩
 simp only [execOp,ho,Sem.run_bind,resolve,hc,Sem.run_pure,Result.andThen_ok,invoke]
 rfl
theorem EFor.length {es:List (AV×AV)} {r:List MapEntry} (h:EFor φ es r):es.length=r.length:=by
 induction h with
 | nil=>rfl
 | cons _ _ _ ih=>simp [ih]
theorem VRel.inv_bool {b:Bool} {v:Value} (h:VRel φ (.bool b) v):v=.bool b:=by cases h;rfl
theorem VRel.inv_int {k:IntKind} {n:Int} {v:Value} (h:VRel φ (.int k n) v):v=.int k n:=by cases h;rfl
theorem VRel.inv_agg {l:List AV} {v:Value} (h:VRel φ (.agg l) v):∃ xs,v=.agg xs∧VRels φ l xs.toList:=by cases h;exact⟨_,rfl,by assumption⟩
theorem VRel.inv_tup {l:List AV} {v:Value} (h:VRel φ (.tup l) v):∃ xs,v=.tuple xs∧VRels φ l xs.toList:=by cases h;exact⟨_,rfl,by assumption⟩
theorem VRel.inv_map {id:Nat} {v:Value} (h:VRel φ (.map id) v):∃ b,v=.map (some b)∧φ id=some (.obj b):=by cases h;exact⟨_,rfl,by assumption⟩
theorem VRel.inv_nmap {v:Value} (h:VRel φ .nmap v):v=.map none:=by cases h;rfl
theorem VRel.inv_nsl {v:Value} (h:VRel φ .nsl v):v=.slice none 0 0:=by cases h;rfl
theorem VRel.inv_iface {t:Nat} {x:AV} {v:Value} (h:VRel φ (.iface t x) v):∃ y,v=.iface t y∧VRel φ x y:=by cases h;exact⟨_,rfl,by assumption⟩
theorem lenA_ok {hp:T Obj} {nx:Nat} {w:World} (hr:Rel φ hp.get nx w) {t:TypeId} {ti:TI} (ht:TIok P t ti) {v:AV} {n:Nat} (h:lenA hp ti v=some n) {v':Value} (hv:VRel φ v v')
  {ts:Array TypeId} (hts:ts[0]?=some t) {args:Array Value} (ha:args[0]?=some v') (ty:TypeId):(Builtin.len_ ts ty args).run P w=.ok (.int .i64 (n:Int)) w:=by
 have ha':args[0]?=some v':=ha
 unfold lenA at h
 split at h
 ·next s hk =>
  simp at h;subst h
  obtain⟨b,rfl,rfl⟩:=hv.inv_str
  simp [Builtin.len_,hts,ha',run_underlying (ht.str hk),goInt,bytesOf_len]
 ·next m e hk =>
  simp at h;subst h
  simp [Builtin.len_,hts,ha',run_underlying (ht.arr hk),goInt]
 ·next e hk =>
  simp at h;subst h
  cases hv<;>simp [Builtin.len_,hts,ha',run_underlying (ht.sl hk),goInt]
 ·next e hk =>
  simp at h;subst h
  cases hv;simp [Builtin.len_,hts,ha',run_underlying (ht.sl hk),goInt]
 ·next k e hk =>
  simp at h;subst h
  cases hv;simp [Builtin.len_,hts,ha',run_underlying (ht.map hk),goInt]
 ·next k e id hk =>
  split at h
  ·next es clk hes =>
   simp at h;subst h
   cases hv with
   | map hid =>
    obtain⟨l,h1,h2⟩:=hr.dom _ _ hes
    rw [hid] at h1;cases h1
    cases h2 with
    | map hb hm =>
     obtain⟨q,hq,hp⟩:=hm.perm
     have Hn:=hq.length
     have:=hp.length_eq
     simp at this
     simp [Builtin.len_,hts,ha',run_underlying (ht.map hk),goInt,getObj,Sem.run,hb]
     omega
  ·simp at h
 ·simp at h
theorem args_get {c:Call} {ρ:Operand→Value} {x:Operand} {l:List Operand} (h:c.args.toList=x::l):(c.args.map ρ)[0]?=some (ρ x):=by
 have:c.args[0]?=some x:=by rw [← Array.getElem?_toList,h];rfl
 simp [this]
theorem types_get {c:Call} {t:TypeId} {l:List TypeId} (h:c.argTypes.toList=t::l):c.argTypes[0]?=some t:=by rw [← Array.getElem?_toList,h];rfl
theorem zero_default {t:TypeId} {te:TI} (ht:TIok P t te) {z:AV} (h:(match te.k.agg with|true=>some (.agg te.zero)|false=>(match te.zero with|[z]=>some z|_=>none))=some z) (w:World) :
  ∃ z',VRel φ z z'∧(zeroValue t).run P w=.ok z' w:=by
 obtain⟨z',h1,_,h3⟩:=ht.zeroValue w φ
 refine⟨z',?_,h1⟩
 split at h
 ·next e=>simp at h;subst h;rw [if_pos e] at h3;exact h3
 ·next e =>
  split at h
  ·next q hq=>simp at h;subst h;rw [if_neg (by simp [e]),hq] at h3;exact h3
  ·simp at h
theorem places_ok:∀ (fs:List Field),(∀ f∈fs,(P.info? f.type).isSome=true)→∃ places,fs.mapM (fun f=>(P.info? f.type).map fun i=>(f.offset,i.size))=some places ∧
  ∀ (i:Nat) (f:Field),fs[i]?=some f→∃ info,P.info? f.type=some info∧places[i]?=some (f.offset,info.size)
 | [],_=>⟨[],rfl,by simp⟩
 | f::fs,h=>by
  obtain⟨pl,h1,h2⟩:=places_ok fs fun g hg=>h g (by simp [hg])
  obtain⟨info,hi⟩:=Option.isSome_iff_exists.1 (h f (by simp))
  refine⟨(f.offset,info.size)::pl,by simp [List.mapM_cons,hi,h1],?_⟩
  intro i g hg
  cases i with
  | zero=>simp at hg;subst hg;exact⟨info,hi,rfl⟩
  | succ i=>simpa using h2 i g (by simpa using hg)
theorem _root_.Ev.MRel.single {e:AV×AV} {ens:List MapEntry} {clk:Nat} (h:MRel φ [e] ens clk):∃ m,ens=[m]∧VRel φ e.1 m.key∧VRel φ e.2 m.val:=by
 obtain⟨r,h1,h2⟩:=h.perm
 cases h1 with
 | cons hk hv t =>
  cases t
  have:=List.perm_singleton.1 h2.symm
  exact⟨_,this,hk,hv⟩
theorem lookup_some {t kt et:TypeId} {w:World} (hmap:P.underlying t=some (.map kt et)) {x' k':Value} {ens:Array MapEntry}
  (hx:(x'=.map none∧ens=#[])∨∃ b clk,x'=.map (some b)∧w.heap[b]?=some (.map ens clk)) (hck:∀ em w,(Instr.checkKey em 10000 kt k').run P w=.ok () w)
  {p:Nat×Value} (hres:(Instr.findKey kt k' ens.toList).run P w=.ok (some p) w) (ok:Bool) :
  (Instr.lookup t x' k' ok).run P w=.ok (if ok=true then .tuple #[p.2,.bool true] else p.2) w:=by
 rcases hx with⟨rfl,rfl⟩|⟨b,clk,rfl,hb⟩
 ·simp only [Instr.lookup,Sem.run_bind,run_underlying hmap,Result.andThen_ok,Sem.run_pure,hck,hres]
 ·have hg:(getObj b).run P w=.ok (.map ens clk) w:=by simp [getObj,Sem.run,hb]
  simp only [Instr.lookup,Sem.run_bind,run_underlying hmap,Result.andThen_ok,hg,Sem.run_pure,hck,hres]
theorem lookup_none {t kt et:TypeId} {w:World} (hmap:P.underlying t=some (.map kt et)) {x' k':Value} {ens:Array MapEntry}
  (hx:(x'=.map none∧ens=#[])∨∃ b clk,x'=.map (some b)∧w.heap[b]?=some (.map ens clk)) (hck:∀ em w,(Instr.checkKey em 10000 kt k').run P w=.ok () w)
  (hres:(Instr.findKey kt k' ens.toList).run P w=.ok none w) {z:Value} (hz:(zeroValue et).run P w=.ok z w) (ok:Bool) :
  (Instr.lookup t x' k' ok).run P w=.ok (if ok=true then .tuple #[z,.bool false] else z) w:=by
 rcases hx with⟨rfl,rfl⟩|⟨b,clk,rfl,hb⟩
 ·simp only [Instr.lookup,Sem.run_bind,run_underlying hmap,Result.andThen_ok,Sem.run_pure,hck,hres,hz]
 ·have hg:(getObj b).run P w=.ok (.map ens clk) w:=by simp [getObj,Sem.run,hb]
  simp only [Instr.lookup,Sem.run_bind,run_underlying hmap,Result.andThen_ok,hg,Sem.run_pure,hck,hres,hz]
theorem holds_ok {hp:T Obj} {nx:Nat} {w:World} (hr:Rel φ hp.get nx w) {id off k:Nat} (h:holds hp id (off+k)=true):∀ b o N,φ id=some (.cells b o N)→o+off+k≤N:=by
 intro b o N hφ
 unfold holds at h
 split at h
 ·next ob hob =>
  split at h
  ·next c hc =>
   obtain⟨l,h1,h2⟩:=hr.dom id ob hob
   obtain⟨b',o',N',rfl,hN,_⟩:=h2.read hc
   rw [hφ] at h1;cases h1
   have:=Nat.le_of_ble_eq_true h
   omega
  ·simp at h
 ·simp at h
set_option maxHeartbeats 1000000 in
theorem run_eqGuard_nif (w:World) (op:BinOp) (t:TypeId) (x:Operand) (c:Value):(eqGuard op t x (.const c) .nilIface .nilIface).run P w=.ok () w:=by
 unfold eqGuard;cases op<;>simp
theorem run_equalIn_nif (w:World) {n:Nat} {t:TypeId} {ms:Array (String×TypeId)} (h:P.underlying t=some (.interface ms)):(Op.equalIn (n+1) t .nilIface .nilIface).run P w=.ok true w:=by
 unfold Op.equalIn;simp only [Sem.run_bind,run_underlying h,Result.andThen_ok];rfl
theorem valA_ok (hC:CtxOk P C) {hp:T Obj} {nx:Nat} {w:World} (hr:Rel φ hp.get nx w) (hg:GOk C φ) {tm:T AV} {a:Act} (ht:TRel φ tm a.tmps) {o:Oper} {v:AV} (h:valA C tm hp o=some v) :
  ∃ v',VRel φ v v'∧(execOp a.eval o).run P w=.ok (.value v') w:=by
 unfold valA at h
 split at h
 ·next x ho=>exact⟨_,ev_rel hg ht h,by simp [execOp,ho]⟩
 ·next x ho=>exact⟨_,ev_rel hg ht h,by simp [execOp,ho]⟩
 ·next c x y ho =>
  split at h
  ·next hc =>
   have hb:=(ev_rel hg ht hc).inv_bool
   exact⟨_,ev_rel hg ht h,by simp [execOp,ho,hb,asBool]⟩
  ·next hc =>
   have hb:=(ev_rel hg ht hc).inv_bool
   exact⟨_,ev_rel hg ht h,by simp [execOp,ho,hb,asBool]⟩
  ·simp at h
 ·next t parts ho =>
  split at h
  ·next ti hti =>
   have hT:=hC t ti hti
   obtain⟨z,hz,hzr,_⟩:=hT.zeroValue w φ
   have hparts:(parts.map fun p=>(p.1,a.eval p.2)).toList=parts.toList.map fun p=>(p.1,a.eval p.2):=by simp
   split at h
   ·next fs hk =>
    split at h
    ·next l hl =>
     simp only [Option.some.injEq] at h;subst h
     obtain⟨gs,hgs,hfs⟩:=hT.st hk
     obtain⟨places,hp1,hp2⟩:=places_ok (P:=P) gs.toList (fun f hf=>hT.flds fs hk (f.offset,f.type) (by rw [hfs];exact List.mem_map.2 ⟨f,hf,rfl⟩))
     have hpl:∀ i r,placeS C fs i=some r→(fun x=>places.toArray[x]?) i=some r:=by
      intro i r hir
      unfold placeS at hir
      split at hir
      ·next p hp =>
       split at hir
       ·next tf htf =>
        simp only [Option.some.injEq] at hir;subst hir
        rw [nth_eq,hfs,List.getElem?_map] at hp
        cases hg':gs.toList[i]? with
        | none=>rw [hg'] at hp;simp at hp
        | some f =>
         rw [hg'] at hp
         simp only [Option.map_some,Option.some.injEq] at hp;subst hp
         obtain⟨info,h1,h2⟩:=hp2 i f hg'
         have:=(hC _ _ htf).info?
         rw [h1] at this
         simp only [Option.map_some,Option.some.injEq] at this
         simp [h2,this]
       ·simp at hir
      ·simp at hir
     obtain⟨ys,h1,h2⟩:=fill_ok hg ht hpl parts.toList _ _ _ hl hzr
     refine⟨.agg ys,.agg h2,?_⟩
     obtain⟨i0,z0,hi0,_,_,hz0,_⟩:=hT.info
     have hzz:z0=z:=by
      have:=hz
      simp [zeroValue,typeInfo,hi0,hz0] at this;exact this
     subst hzz
     simp only [execOp,ho,Sem.run_bind]
     rw [run_build w t _ ys (by simp only [Program.built,hi0,hgs,hz0,hp1];rw [hparts];exact h1)]
     rfl
    ·simp at h
   ·next m e hk =>
    split at h
    ·next te hte =>
     split at h
     ·next l hl =>
      simp only [Option.some.injEq] at h;subst h
      have hE:=hC e te hte
      obtain⟨ys,h1,h2⟩:=fill_ok hg ht (place':=fun i=>some (i*te.size,te.size)) (fun i r hir=>hir) parts.toList _ _ _ hl hzr
      refine⟨.agg ys,.agg h2,?_⟩
      simp only [execOp,ho,Instr.build,Sem.run_bind,hz,Result.andThen_ok,run_underlying (hT.arr hk),hE.sizeOf,hparts,h1,Sem.run_pure]
     ·simp at h
    ·simp at h
   ·simp at h
  ·simp at h
 ·next t x ho =>
  split at h
  ·next ti v0 hti hv =>
   obtain⟨r',h1,h2⟩:=load_ok hr (hC t ti hti) (ev_rel hg ht hv) h
   exact⟨r',h1,by simp [execOp,ho,h2]⟩
  ·simp at h
 ·next x ho =>
  split at h<;>(try (simp at h;done)) <;>
  ·next hv =>
   simp only [Option.some.injEq] at h;subst h
   have hb:=ev_rel hg ht hv
   refine⟨_,hb,?_⟩
   simp only [execOp,ho]
   generalize a.eval x=q at hb
   cases hb<;>rfl
 ·next op t x y yt ho =>
  split at h
  ·next ti hti hp hq =>
   have e1:=(ev_rel hg ht hp)
   have e2:=(ev_rel hg ht hq)
   generalize hx:a.eval x=q1 at e1
   generalize hy:a.eval y=q2 at e2
   cases e1;cases e2
   obtain⟨d,hd,hk'⟩:=(hC t ti hti).und
   split at h
   ·next c hk =>
    simp only [Option.some.injEq] at h;subst h
    obtain⟨ms,rfl⟩:∃ ms,d=.interface ms:=by
     rw [hk] at hk'
     cases d<;>simp [TK.of] at hk'<;>exact⟨_,rfl⟩
    refine⟨_,.bool _,?_⟩
    simp only [execOp,ho,Sem.run_bind,hx,hy,run_eqGuard_nif,Result.andThen_ok,binOp,Op.equal,Op.maxDepth,run_equalIn_nif w hd,Sem.run_pure]
   ·next c hk =>
    simp only [Option.some.injEq] at h;subst h
    obtain⟨ms,rfl⟩:∃ ms,d=.interface ms:=by
     rw [hk] at hk'
     cases d<;>simp [TK.of] at hk'<;>exact⟨_,rfl⟩
    refine⟨_,.bool _,?_⟩
    simp only [execOp,ho,Sem.run_bind,hx,hy,run_eqGuard_nif,Result.andThen_ok,binOp,Op.equal,Op.maxDepth,run_equalIn_nif w hd,Sem.run_pure]
    rfl
   ·simp at h
  ·next ti p q _ hti hp hq =>
   obtain⟨r',h1,h2⟩:=binA_ok (hC t ti hti) h (ev_rel hg ht hp) (ev_rel hg ht hq) w x y
   exact⟨r',h1,by simp only [execOp,ho,Sem.run_bind] at h2 ⊢;rw [h2];rfl⟩
  ·simp at h
 ·next op t x ho =>
  split at h
  ·next p hp =>
   obtain⟨r',h1,h2⟩:=unA_ok (P:=P) h (ev_rel hg ht hp) w
   exact⟨r',h1,by simp only [execOp,ho,Sem.run_bind,h2];rfl⟩
  ·simp at h
 ·next s d x ho =>
  split at h
  ·next ts td k n hts htd hv =>
   have hb:=(ev_rel hg ht hv).inv_int
   obtain⟨ds,hds,hks⟩:=(hC s _ hts).und
   split at h
   ·next k' hk =>
    simp only [Option.some.injEq] at h;subst h
    refine⟨.int k' (k'.wrap n),by split<;>exact .int _ _,?_⟩
    simp [execOp,ho,convert,run_underlying hds,run_underlying ((hC d _ htd).int hk),hb,Conv.intToInt]
   ·next hk =>
    simp only [Option.some.injEq] at h;subst h
    refine⟨.string (Utf8.encode n),.str _,?_⟩
    simp [execOp,ho,convert,run_underlying hds,run_underlying ((hC d _ htd).str hk),hb,Conv.intToString]
   ·simp at h
  ·next ts td l hts htd hv =>
   split at h
   ·next hk1 hk2 =>
    simp only [Option.some.injEq] at h;subst h
    obtain⟨b,hb,rfl⟩:=(ev_rel hg ht hv).inv_str
    exact⟨_,.str b,by simp [execOp,ho,convert,run_underlying ((hC s _ hts).str hk1),run_underlying ((hC d _ htd).str hk2),hb]⟩
   ·simp at h
  ·next ts td id off n cap ex sz hts htd hv =>
   have hb:=ev_rel hg ht hv
   split at h
   ·next e hk1 hk2 =>
    split at h
    ·next te hte =>
     split at h
     ·next hk3 hsz =>
      simp only [Option.some.injEq] at h;subst h
      refine⟨.string .empty,(show VRel φ (.str (bytesOf .empty)) _ from .str _),?_⟩
      have hl:∀ (q:Addr) (c:Nat),(Conv.bytesToString (.slice (some q) 0 c)).run P w=.ok (.string .empty) w:=fun q c =>
       run_bytesToString (P:=P) w q 0 c [] (by simp [loadCells,loadCellsFrom])
      simp only [execOp,ho,Sem.run_bind]
      generalize a.eval x=q at hb
      cases hb<;>(rw [run_convert_bytes_string w s d e _ _ _ ((hC s _ hts).sl hk1) ((hC e _ hte).int hk3) ((hC d _ htd).str hk2),hl];rfl)
     ·next n' hk3 hsz =>
      split at h
      ·next l hl =>
       split at h
       ·next r hr8 =>
        simp only [Option.some.injEq] at h;subst h
        obtain⟨ns,e1,e2,e3⟩:=u8s_ok hr8
        obtain⟨b,o,N,cs,hφ,h1,h2,h3,_⟩:=rd_ok hr hl
        subst e1
        have hcs:=h1.ints
        subst hcs
        refine⟨.string (ns.foldl (fun r n=>r.push (UInt8.ofNat n.toNat)) ByteArray.empty),?_,?_⟩
        ·have:=bytes_fold ns ByteArray.empty e3
         rw [show bytesOf ByteArray.empty=[] from rfl,List.nil_append] at this
         rw [e2,← this];exact .str _
        ·simp only [execOp,ho,Sem.run_bind]
         generalize a.eval x=q at hb
         cases hb with
         | sl h' _ _ _ _ =>
          rw [hφ] at h';cases h'
          rw [run_convert_bytes_string w s d e _ _ _ ((hC s _ hts).sl hk1) ((hC e _ hte).int hk3) ((hC d _ htd).str hk2),
           run_bytesToString w _ _ _ ns]
          ·rfl
          ·have:=run_loadCells_list (P:=P) w ⟨b,o+off,none⟩ (ns.map (Value.int .u8)) (fun j v hv=>by rw [Addr.add_mid];exact h2 j v hv)
           rw [h3] at this;exact this
       ·simp at h
      ·simp at h
     ·simp at h
    ·simp at h
   ·simp at h
  ·next ts td hts htd hv =>
   have hb:=(ev_rel hg ht hv).inv_nsl
   split at h
   ·next e hk1 hk2 =>
    split at h
    ·next te hte =>
     split at h
     ·next hk3 =>
      simp only [Option.some.injEq] at h;subst h
      refine⟨.string .empty,(show VRel φ (.str (bytesOf .empty)) _ from .str _),?_⟩
      simp only [execOp,ho,Sem.run_bind,hb]
      rw [run_convert_bytes_string w s d e _ _ _ ((hC s _ hts).sl hk1) ((hC e _ hte).int hk3) ((hC d _ htd).str hk2)]
      rfl
     ·simp at h
    ·simp at h
   ·simp at h
  ·simp at h
 ·next t x ho =>
  split at h
  ·next ti p hti hp =>
   have hb:=ev_rel hg ht hp
   obtain⟨d,hd,hk⟩:=(hC t ti hti).und
   have hconc:∀ r,(match ti.k with|.ifc=>none|.other=>none|_=>some (AV.iface t p))=some r→r=.iface t p∧ti.k≠.ifc:=by
    intro r hr'
    split at hr'
    ·simp at hr'
    ·simp at hr'
    ·next h1 h2=>simp only [Option.some.injEq] at hr';exact⟨hr'.symm,h1⟩
   obtain⟨rfl,hne⟩:=hconc _ h
   refine⟨_,.iface t hb,?_⟩
   simp only [execOp,ho,Sem.run_bind,Instr.makeInterface,run_underlying hd,Result.andThen_ok]
   cases d<;>first|rfl|(simp [TK.of] at hk;exact absurd hk.symm hne)
  ·simp at h
 ·next f x y ho =>
  split at h
  ·next p q hp hq =>
   simp only [Option.some.injEq] at h;subst h
   refine⟨_,.fn f (x':=x.map a.eval) (y':=y.map a.eval) (by simpa using evs_rel hg ht hp) (by simpa using evs_rel hg ht hq),?_⟩
   simp [execOp,ho,Instr.makeFunc]
  ·simp at h
 ·next t x lo hi mx ho =>
  split at h
  ·next ti v0 lo0 hi0 mx0 hti hv hlo hhi hmx =>
   have hT:=hC t ti hti
   have hb:=ev_rel hg ht hv
   have rlo:=evO_rel hg ht hlo
   have rhi:=evO_rel hg ht hhi
   have rmx:=evO_rel hg ht hmx
   split at h
   ·next s hk =>
    split at h
    ·split at h
     ·next bd hbd =>
      simp only [Option.some.injEq] at h;subst h
      obtain⟨b,hb',rfl⟩:=hb.inv_str
      refine⟨.string (b.extract bd.l bd.h),by rw [← bytesOf_extract];exact .str _,?_⟩
      have hmx':mx.map a.eval=none:=by generalize mx.map a.eval=q at rmx;cases rmx;rfl
      simp only [execOp,ho,Sem.run_bind,hb',hmx',str_slice hT hk b hbd rlo rhi w];rfl
     ·simp at h
    ·simp at h
   ·next e hk =>
    split at h
    ·next te bd hte hbd =>
     simp only [Option.some.injEq] at h;subst h
     have hb':=hb.inv_nsl
     obtain⟨m,h2,h3,h4,h5,h6,h7,h8⟩:=bounds_ok (P:=P) (c:=0) (Nat.le_refl _) (fun _=>rfl) hbd rlo rhi rmx true w
     refine⟨_,.nsl,?_⟩
     have e1:bd.l=0:=by omega
     have e2:bd.h=0:=by omega
     have e4:m=0:=by omega
     rw [e1,e2,e4] at h2
     have hn:=(hC e te hte).sizeOf w
     simp only [execOp,ho,Sem.run_bind,hb',Instr.sliceAt,run_underlying (hT.sl hk),Result.andThen_ok,Instr.slice,h2,hn]
     rfl
    ·simp at h
   ·next e id off len cap ex sz hk =>
    split at h
    ·next te hte =>
     split at h
     ·next bd hsz hbd =>
      simp only [Option.some.injEq] at h;subst h
      obtain⟨r',h1,h2⟩:=sl_slice hb (hT.sl hk) (hC e te hte) (Nat.eq_of_beq_eq_true hsz) hbd rlo rhi rmx w
      exact⟨r',h1,by simp only [execOp,ho,Sem.run_bind,h2];rfl⟩
     ·simp at h
    ·simp at h
   ·next n e id off hk =>
    split at h
    ·next te hte =>
     split at h
     ·next bd hbd hho =>
      simp only [Option.some.injEq] at h;subst h
      obtain⟨r',h1,h2⟩:=arr_slice hb (hT.arr hk) (hC e te hte) hbd rlo rhi rmx w (holds_ok hr hho)
      exact⟨r',h1,by simp only [execOp,ho,Sem.run_bind,h2];rfl⟩
     ·simp at h
    ·simp at h
   ·simp at h
  ·simp at h
 ·next s x f ho =>
  split at h
  ·next ti id off hti hv =>
   split at h
   ·next fs hk =>
    split at h
    ·next p hp =>
     split at h
     ·next tf htf =>
      split at h
      ·next hz =>
       simp only [Option.some.injEq] at h;subst h
       obtain⟨gs,hgs,hfs⟩:=(hC s ti hti).st hk
       have hb:=ev_rel hg ht hv
       rw [nth_eq,hfs,List.getElem?_map] at hp
       cases hg':gs.toList[f]? with
       | none=>rw [hg'] at hp;simp at hp
       | some fd =>
        rw [hg'] at hp
        simp only [Option.map_some,Option.some.injEq] at hp;subst hp
        have hg'':gs[f]?=some fd:=by simpa using hg'
        have hne:¬ tf.size=0:=by intro e;rw [e] at hz;simp at hz
        have hrun:∀ q:Addr,(execOp a.eval { o with op:=.fieldAddr s (.const (.pointer (some q))) f }).run P w=.ok (.value (.pointer (some (q.add fd.offset)))) w:=by
         intro q
         simp [execOp,Instr.fieldAt,run_underlying hgs,hg'',Instr.sureAddr,fieldPlace,(hC _ _ htf).sizeOf,hne,Act.eval]
        simp only [execOp,Act.eval] at hrun
        simp only [execOp,ho]
        generalize a.eval x=q at hb
        cases hb with
        | ptr h'=>exact⟨_,.ptr h',by rw [hrun,Addr.add_mid,Nat.add_assoc]⟩
      ·simp at h
     ·simp at h
    ·simp at h
   ·simp at h
  ·simp at h
 ·next t x f ho =>
  split at h
  ·next ti cs hti hv =>
   split at h
   ·next fs hk =>
    split at h
    ·next p hp =>
     split at h
     ·next tf htf =>
      obtain⟨gs,hgs,hfs⟩:=(hC t ti hti).st hk
      obtain⟨xs,hx,hxr⟩:=(ev_rel hg ht hv).inv_agg
      rw [nth_eq,hfs,List.getElem?_map] at hp
      cases hg':gs.toList[f]? with
      | none=>rw [hg'] at hp;simp at hp
      | some fd =>
       rw [hg'] at hp
       simp only [Option.map_some,Option.some.injEq] at hp;subst hp
       obtain⟨r',h1,h2⟩:=partOf_ok (hC _ _ htf) h hxr w
       have hg'':gs[f]?=some fd:=by simpa using hg'
       exact⟨r',h1,by simp [execOp,ho,Instr.field,run_underlying hgs,hg'',hx,asAgg,h2]⟩
     ·simp at h
    ·simp at h
   ·simp at h
  ·simp at h
 ·next t x i ho =>
  split at h
  ·next ti v0 iv hti hv hiv =>
   have hT:=hC t ti hti
   have hb:=ev_rel hg ht hv
   split at h
   ·next i0 n e id off hi0 hk =>
    obtain⟨k,hik⟩:=natOf_rel hi0 (ev_rel hg ht hiv)
    split at h
    ·next te hte hlt =>
     simp only [Option.some.injEq] at h;subst h
     rw [Nat.blt_eq] at hlt
     have hd:P.underlying t=some (.array (P.arrayLen t) (P.elem t)):=by
      have:=hT.arr hk
      simp [Program.arrayLen,Program.elem,this]
     have e1:P.elem t=e:=by simp [Program.elem,hT.arr hk]
     have e2:P.arrayLen t=n:=by simp [Program.arrayLen,hT.arr hk]
     simp only [execOp,ho,Sem.run_bind,hik]
     generalize a.eval x=q at hb
     cases hb with
     | ptr h' =>
      refine⟨_,.ptr h',?_⟩
      rw [run_indexAt_array _ _ _ _ _ hd,if_pos (by rw [e2];omega),e1,(hC e te hte).sizeOf]
      simp [Addr.add_mid,Nat.add_assoc]
    ·simp at h
   ·next i0 e id off n cap ex sz hi0 hk =>
    obtain⟨k,hik⟩:=natOf_rel hi0 (ev_rel hg ht hiv)
    split at h
    ·next te hte hlt =>
     split at h
     ·next hsz =>
      simp only [Option.some.injEq] at h;subst h
      have hsz':=Nat.eq_of_beq_eq_true hsz
      rw [Nat.blt_eq] at hlt
      have hd:P.underlying t=some (.slice (P.elem t)):=by
       have:=hT.sl hk
       simp [Program.elem,this]
      have e1:P.elem t=e:=by simp [Program.elem,hT.sl hk]
      simp only [execOp,ho,Sem.run_bind,hik]
      generalize a.eval x=q at hb
      cases hb with
      | sl h' _ _ _ _ =>
       refine⟨_,.ptr h',?_⟩
       rw [run_indexAt_slice _ _ _ _ _ _ _ hd,if_pos (by omega),e1,(hC e te hte).sizeOf,hsz']
       simp [Addr.add_mid,Nat.add_assoc]
      | sl0 h'=>omega
     ·simp at h
    ·simp at h
   ·simp at h
  ·simp at h
 ·next t x i ho =>
  split at h
  ·next ti v0 iv hti hv hiv =>
   have hT:=hC t ti hti
   have hb:=ev_rel hg ht hv
   split at h
   ·next i0 n e cs hi0 hk =>
    obtain⟨k,hik⟩:=natOf_rel hi0 (ev_rel hg ht hiv)
    split at h
    ·next te hte hlt =>
     rw [Nat.blt_eq] at hlt
     obtain⟨xs,hx,hxr⟩:=hb.inv_agg
     obtain⟨r',h1,h2⟩:=partOf_ok (hC e te hte) h hxr w
     refine⟨r',h1,?_⟩
     simp only [execOp,ho,Sem.run_bind,hik,hx,Instr.index,asIntOf,Sem.run_pure,Result.andThen_ok,run_underlying (hT.arr hk)]
     rw [if_pos (by omega)]
     simp [(hC e te hte).sizeOf,h2]
    ·simp at h
   ·next i0 s hi0 hk =>
    obtain⟨k,hik⟩:=natOf_rel hi0 (ev_rel hg ht hiv)
    split at h
    ·next c hc =>
     simp only [Option.some.injEq] at h;subst h
     obtain⟨b,hbx,rfl⟩:=hb.inv_str
     rw [nth_eq] at hc
     simp only [bytesOf,List.getElem?_map] at hc
     cases hq:b.data.toList[i0]? with
     | none=>rw [hq] at hc;simp at hc
     | some u =>
      rw [hq] at hc
      simp only [Option.map_some,Option.some.injEq] at hc;subst hc
      have hu:b[i0]?=some u:=by
       obtain⟨hlt,he⟩:=List.getElem?_eq_some_iff.1 hq
       have hlt':i0<b.size:=by rw [Array.length_toList] at hlt;exact hlt
       rw [getElem?_pos b i0 hlt']
       congr 1
      refine⟨_,.int _ _,?_⟩
      simp only [execOp,ho,Sem.run_bind,hik,hbx,Instr.index,asIntOf,Sem.run_pure,Result.andThen_ok,run_underlying (hT.str hk)]
      simp [hu]
    ·simp at h
   ·simp at h
  ·simp at h
 ·next t x i ok ho =>
  split at h
  ·next ti v0 kv hti hv hkv =>
   have hT:=hC t ti hti
   have hb:=ev_rel hg ht hv
   have hbk:=ev_rel hg ht hkv
   split at h
   ·next kt et hk =>
    split at h
    ·next tk te htk hte =>
     split at h
     ·next es hko hes =>
      have hes':∃ (ens:Array MapEntry) (clk:Nat),MRel φ es ens.toList clk∧((a.eval x=.map none∧ens=#[])∨∃ b clk,a.eval x=.map (some b)∧w.heap[b]?=some (.map ens clk)):=by
       split at hes
       ·simp only [Option.some.injEq] at hes;subst hes
        exact⟨#[],0,⟨⟨[],.nil,.nil⟩,by simp,by simp,.nil⟩,.inl ⟨hb.inv_nmap,rfl⟩⟩
       ·next id =>
        split at hes
        ·next es' clk hob =>
         simp only [Option.some.injEq] at hes;subst hes
         obtain⟨bb,hbb,hφ⟩:=hb.inv_map
         obtain⟨l,h1,h2⟩:=hr.dom id _ hob
         rw [hφ] at h1;cases h1
         cases h2 with
         | map hbk hm=>exact⟨_,clk,hm,.inr ⟨bb,clk,hbb,hbk⟩⟩
        ·simp at hes
       ·simp at hes
      obtain⟨ens,clk,hm,hget⟩:=hes'
      have hck:=checkKey_ok (P:=P) (htk:=hC kt tk htk) hko hbk
      split at h
      ·next u hfk =>
       simp only [Option.some.injEq] at h;subst h
       rcases hm.find (hC kt tk htk) hko hbk hfk w with⟨e,_⟩|⟨l1,e,l2,r1,m,r2,j,h1,h2,h3,h4,h5,h6,h7,h8,h9,h10,h11⟩
       ·simp at e
       ·simp only [Option.some.injEq] at h3;subst h3
        have hh:=lookup_some (hT.map hk) hget hck h11 ok
        cases ok
        ·exact⟨_,h6,by simp only [execOp,ho,Sem.run_bind,hh];rfl⟩
        ·exact⟨_,.tup (.cons h6 (.cons (.bool true) .nil)),by simp only [execOp,ho,Sem.run_bind,hh];rfl⟩
      ·next hfk =>
       split at h
       ·next z hz =>
        simp only [Option.some.injEq] at h;subst h
        obtain⟨z',hz1,hz2⟩:=zero_default (φ:=φ) (hC et te hte) hz w
        rcases hm.find (hC kt tk htk) hko hbk hfk w with⟨_,_,h11⟩|⟨l1,e,l2,r1,m,r2,j,h1,h2,h3,_⟩
        ·have hh:=lookup_none (hT.map hk) hget hck h11 hz2 ok
         cases ok
         ·exact⟨_,hz1,by simp only [execOp,ho,Sem.run_bind,hh];rfl⟩
         ·exact⟨_,.tup (.cons hz1 (.cons (.bool false) .nil)),by simp only [execOp,ho,Sem.run_bind,hh];rfl⟩
        ·simp at h3
       ·simp at h
      ·simp at h
     ·simp at h
    ·simp at h
   ·simp at h
  ·simp at h
 ·next x i ho =>
  split at h
  ·next l hl =>
   rw [nth_eq] at h
   obtain⟨xs,hx,hxr⟩:=(ev_rel hg ht hl).inv_tup
   obtain⟨v',h1,h2⟩:=hxr.get i v h
   have h1':xs[i]?=some v':=by simpa using h1
   exact⟨v',h2,by simp [execOp,ho,hx,Instr.extract,h1']⟩
  ·simp at h
 ·next x ho =>
  split at h
  ·next id hv =>
   split at h
   ·next m clk hob =>
    split at h
    ·next e clk' hom =>
     split at h
     ·next hclk hone =>
      simp only [Option.some.injEq] at h;subst h
      have hclk':=Nat.eq_of_beq_eq_true hclk
      have hone':=Nat.eq_of_beq_eq_true hone
      subst hclk' hone'
      have hb:=ev_rel hg ht hv
      obtain⟨l,h1,h2⟩:=hr.dom id _ hob
      obtain⟨l',h3,h4⟩:=hr.dom m _ hom
      generalize hq:a.eval x=q at hb
      cases hb with
      | it h' =>
       rw [h'] at h1;cases h1
       cases h2 with
       | mIter hm hbk =>
        rw [hm] at h3;cases h3
        cases h4 with
        | map hbm hmr =>
         obtain⟨m0,he0,hk0,hv0⟩:=hmr.single
         refine⟨.tuple #[m0.key,m0.val],.tup (.cons hk0 (.cons hv0 .nil)),?_⟩
         have hens:=Array.toList_inj.1 (he0:_=(#[m0]:Array MapEntry).toList)
         subst hens
         have hb0:m0.born=0:=by have:=hmr.born m0 (by simp);omega
         simp [execOp,ho,hq,Instr.entry,getObj,Sem.run,hbk,hbm,hb0]
     ·simp at h
    ·simp at h
   ·simp at h
  ·simp at h
 ·next x xt at_ ok ho =>
  split at h
  ·next t u ta hv hta =>
   obtain⟨y,hy,hyr⟩:=(ev_rel hg ht hv).inv_iface
   obtain⟨d,hd,hk⟩:=(hC at_ ta hta).und
   have hrun:t=at_→(ta.k=.ifc→False)→(Instr.typeAssert (.iface t y) xt at_ ok).run P w=.ok (if ok then .tuple #[y,.bool true] else y) w:=by
    intro e hne
    simp only [Instr.typeAssert,Sem.run_bind,run_underlying hd,Result.andThen_ok]
    cases d<;>first|(simp [e];done)|(simp [TK.of] at hk;exact(hne hk.symm).elim)
   split at h
   ·simp at h
   ·simp at h
   ·have hrun:=hrun (Nat.eq_of_beq_eq_true (by assumption)) (by assumption)
    simp only [Option.some.injEq] at h;subst h
    cases ok
    ·exact⟨y,hyr,by simp only [execOp,ho,Sem.run_bind,hy,hrun];rfl⟩
    ·exact⟨_,.tup (.cons hyr (.cons (.bool true) .nil)),by simp only [execOp,ho,Sem.run_bind,hy,hrun];rfl⟩
   ·simp at h
  ·simp at h
 ·next c ho =>
  split at h
  ·next hc =>
   split at h
   ·next x t l hargs htys =>
    split at h
    ·next ti v0 hti hv =>
     split at h
     ·next n hn =>
      simp only [Option.some.injEq] at h;subst h
      obtain⟨cs,hcs⟩:=run_builtin (P:=P) (ρ:=a.eval) ho hc w
      refine⟨_,.int .i64 _,?_⟩
      rw [hcs]
      simp only [builtin,Sem.run_bind,lenA_ok hr (hC t ti hti) hn (ev_rel hg ht hv) (types_get htys) (args_get hargs)]
      rfl
     ·simp at h
    ·simp at h
   ·simp at h
  ·next hc =>
   split at h
   ·next hargs =>
    simp only [Option.some.injEq] at h;subst h
    obtain⟨cs,hcs⟩:=run_builtin (P:=P) (ρ:=a.eval) ho hc w
    have hl:=evs_rel hg ht hargs
    have hl':(c.args.map a.eval)=#[.slice none 0 0]:=by
     apply Array.toList_inj.1
     rw [Array.toList_map]
     generalize List.map a.eval c.args.toList=q at hl
     cases hl with
     | cons h1 h2=>cases h2;rw [h1.inv_nsl]
    refine⟨_,.nptr,?_⟩
    rw [hcs,hl']
    simp only [builtin,Sem.run_bind,Lib.run_unsafeSliceData_nil,Result.andThen_ok,Sem.run_pure]
   ·next id off len cap ex sz hargs =>
    simp only [Option.some.injEq] at h;subst h
    obtain⟨cs,hcs⟩:=run_builtin (P:=P) (ρ:=a.eval) ho hc w
    have hl:=evs_rel hg ht hargs
    have hl':∃ b o N n cc,φ id=some (.cells b o N)∧cc≠0∧(c.args.map a.eval)=#[.slice (some ⟨b,o+off,none⟩) n cc]:=by
     generalize hq:List.map a.eval c.args.toList=q at hl
     cases hl with
     | cons h1 h2 =>
      cases h2
      cases h1 with
      | @sl _ _ _ _ _ b o N cc _ h hc' hx hle hN=>exact⟨b,o,N,_,cc,h,by omega,by apply Array.toList_inj.1;rw [Array.toList_map,hq]⟩
    obtain⟨b,o,N,n,cc,hφ,hcc,hl'⟩:=hl'
    refine⟨_,.ptr hφ,?_⟩
    rw [hcs,hl']
    simp only [builtin,Sem.run_bind,Lib.run_unsafeSliceData_row w _ _ _ _ _ hcc,Result.andThen_ok,Sem.run_pure]
   ·simp at h
  ·next hc =>
   split at h
   ·next x t l hargs htys =>
    split at h
    ·next ti v0 hti hv =>
     have hb:=ev_rel hg ht hv
     have hat:=args_get (ρ:=a.eval) hargs
     obtain⟨cs,hcs⟩:=run_builtin (P:=P) (ρ:=a.eval) ho hc w
     split at h
     ·next e id off n cp sz hk =>
      simp only [Option.some.injEq] at h;subst h
      refine⟨_,.int .i64 _,?_⟩
      rw [hcs]
      generalize a.eval x=q at hb hat
      cases hb with
      | sl _ _ hx _ _ =>
       have:=hx rfl
       subst this
       simp [builtin,Builtin.cap_,types_get htys,hat,run_underlying ((hC t ti hti).sl hk),goInt]
      | sl0 _=>simp [builtin,Builtin.cap_,types_get htys,hat,run_underlying ((hC t ti hti).sl hk),goInt]
     ·next e hk =>
      simp only [Option.some.injEq] at h;subst h
      refine⟨_,.int .i64 _,?_⟩
      rw [hcs]
      rw [hb.inv_nsl] at hat
      simp [builtin,Builtin.cap_,types_get htys,hat,run_underlying ((hC t ti hti).sl hk),goInt]
     ·simp at h
    ·simp at h
   ·simp at h
  ·next hc =>
   split at h
   ·next k m k' n hargs =>
    split at h
    ·next hk =>
     have:=kindEq_iff.1 hk
     subst this
     simp only [Option.some.injEq] at h;subst h
     obtain⟨cs,hcs⟩:=run_builtin (P:=P) (ρ:=a.eval) ho hc w
     have hl:=evs_rel hg ht hargs
     have hl':(c.args.map a.eval)=#[.int k m,.int k n]:=by
      apply Array.toList_inj.1
      rw [Array.toList_map]
      generalize List.map a.eval c.args.toList=q at hl
      cases hl with
      | cons h1 h2=>cases h2 with
       | cons h3 h4=>cases h4;rw [h1.inv_int,h3.inv_int]
     refine⟨_,.int k _,?_⟩
     rw [hcs,hl']
     simp only [builtin,Sem.run_bind,run_max_int2,Result.andThen_ok,Sem.run_pure]
     congr 3
     rw [intLt_iff]
     by_cases hlt:m<n<;>simp [hlt]
    ·simp at h
   ·simp at h
  ·next hc =>
   split at h
   ·next k m k' n hargs =>
    split at h
    ·next hk =>
     have:=kindEq_iff.1 hk
     subst this
     simp only [Option.some.injEq] at h;subst h
     obtain⟨cs,hcs⟩:=run_builtin (P:=P) (ρ:=a.eval) ho hc w
     have hl:=evs_rel hg ht hargs
     have hl':(c.args.map a.eval)=#[.int k m,.int k n]:=by
      apply Array.toList_inj.1
      rw [Array.toList_map]
      generalize List.map a.eval c.args.toList=q at hl
      cases hl with
      | cons h1 h2=>cases h2 with
       | cons h3 h4=>cases h4;rw [h1.inv_int,h3.inv_int]
     refine⟨_,.int k _,?_⟩
     rw [hcs,hl']
     simp only [builtin,Sem.run_bind,run_min_int2,Result.andThen_ok,Sem.run_pure]
     congr 3
     rw [intLt_iff]
     by_cases hlt:n<m<;>simp [hlt]
    ·simp at h
   ·simp at h
  ·simp at h
 ·simp at h
end
section
variable {P:Program} {C:Ctx} {φ:Phi}
theorem range_reps (z:Array Value):∀ (c:Nat),((Array.range (c*z.size)).map (fun i=>z[i%z.size]!)).toList=(List.replicate c z.toList).flatten:=by
 intro c
 rw [Array.toList_map,Array.toList_range]
 induction c with
 | zero=>simp
 | succ c ih =>
  rw [List.replicate_succ',List.flatten_append,← ih,Nat.add_mul,Nat.one_mul,List.range_add,List.map_append,List.map_map]
  congr 1
  simp only [List.flatten_cons,List.flatten_nil,List.append_nil]
  apply List.ext_getElem?
  intro i
  by_cases h:i<z.size
  ·have e:(c*z.size+i)%z.size=i:=by rw [Nat.mul_comm,Nat.mul_add_mod,Nat.mod_eq_of_lt h]
   simp [h,e]
  ·simp [h]
theorem made_reps {z:Array Value} {l:List AV} (h:VRels φ l z.toList) (c:Nat):VRels φ (reps c l) ((Array.range (c*z.size)).map (fun i=>z[i%z.size]!)).toList:=by
 rw [range_reps];exact h.flatten_replicate c
theorem new_cells {w:World} {id:Nat} {c:List AV} {vs:Array Value} {e:TypeId} (hle:Le φ (upd φ id (.cells w.heap.size 0 vs.size))) (h:VRels φ c vs.toList) :
  (∀ b o N,Loc.cells w.heap.size 0 vs.size=.cells b o N→∃ t,(w.alloc (.cells vs e)).shape? b=some (t,N)) ∧
  ORel (upd φ id (.cells w.heap.size 0 vs.size)) (w.alloc (.cells vs e)) (.cells c 0) (.cells w.heap.size 0 vs.size):=by
 have hlast:(w.alloc (.cells vs e)).heap[w.heap.size]?=some (.cells vs e):=by simp [World.alloc,-World.alloc_eq]
 constructor
 ·intro b o N hh
  cases hh
  exact⟨e,by simp only [World.shape?,hlast]⟩
 ·have Hn:=h.length
  simp at Hn
  refine .cells (by omega) ?_ ?_
  ·intro j v hj
   obtain⟨v',h1,h2⟩:=h.get j v hj
   exact⟨v',by simp only [World.cell?,hlast];simpa using h1,h2.mono hle⟩
  ·intro j _ _
   simp only [World.frozen?,hlast];simp
def NewOk (P:Program) (φ:Phi) (w:World) (ρ:Operand→Value) (o:Oper) (id:Nat) (ob:Obj) (v:AV):Prop :=
 ∃ v' o' l,(execOp ρ o).run P w=.ok (.value v') (w.alloc o')∧l.block=w.heap.size∧(∀ b o N,l=.cells b o N→∃ e,(w.alloc o').shape? b=some (e,N)) ∧
  ORel (upd φ id l) (w.alloc o') ob l∧VRel (upd φ id l) v v'
theorem newCells_ok {w:World} {id:Nat} (hid:φ id=none) {ρ:Operand→Value} {o:Oper} {c:List AV} {vs:Array Value} {e:TypeId} (h:VRels φ c vs.toList)
  {v:AV} {v':Value} (hrun:(execOp ρ o).run P w=.ok (.value v') (w.alloc (.cells vs e))) (hv:VRel (upd φ id (.cells w.heap.size 0 vs.size)) v v'):NewOk P φ w ρ o id (.cells c 0) v:=by
 obtain⟨h1,h2⟩:=new_cells (e:=e) (le_upd' hid (.cells w.heap.size 0 vs.size)) h
 exact⟨v',.cells vs e,.cells w.heap.size 0 vs.size,hrun,rfl,h1,h2,hv⟩
theorem newTc_ok {w:World} {id:Nat} (hid:φ id=none) {ρ:Operand→Value} {o:Oper} {c:List AV} {vs:Array Value} {e:TypeId} (h:VRels φ c vs.toList)
  {v:AV} {v':Value} (hrun:(execOp ρ o).run P w=.ok (.value v') (w.alloc (.cells vs e))) (hv:VRel (upd φ id (.cells w.heap.size 0 vs.size)) v v'):NewOk P φ w ρ o id (.tc e c 0) v:=by
 obtain⟨h1,h2⟩:=new_cells (e:=e) (le_upd' hid (.cells w.heap.size 0 vs.size)) h
 have hlast:(w.alloc (.cells vs e)).heap[w.heap.size]?=some (.cells vs e):=by simp [World.alloc,-World.alloc_eq]
 refine⟨v',.cells vs e,.cells w.heap.size 0 vs.size,hrun,rfl,h1,?_,hv⟩
 cases h2 with
 | cells hN hc hf=>exact .tc (by simp only [World.shape?,hlast]) (by omega) hc (.new hlast _)
theorem newMk_ok {w:World} {id:Nat} (hid:φ id=none) {ρ:Operand→Value} {o:Oper} {c:List AV} {vs:Array Value} {e:TypeId} {b:Bool} (h:VRels φ c vs.toList)
  {v:AV} {v':Value} (hrun:(execOp ρ o).run P w=.ok (.value v') (w.alloc (.cells vs e))) (hv:VRel (upd φ id (.cells w.heap.size 0 vs.size)) v v'):NewOk P φ w ρ o id (mkO b e c 0) v:=by
 cases b
 ·exact newCells_ok hid h hrun hv
 ·exact newTc_ok hid h hrun hv
theorem new_ptr {w:World} {id N:Nat}:VRel (upd φ id (.cells w.heap.size 0 N)) (.ptr id 0) (.pointer (some ⟨w.heap.size,0,none⟩)):=by
 have:=VRel.ptr (φ:=upd φ id (.cells w.heap.size 0 N)) (off:=0) (upd_same φ id (.cells w.heap.size 0 N))
 simpa using this
theorem new_sl {w:World} {id N len cap sz:Nat} (hl:len≤cap) {c:Nat} {ex:Bool} (hc:cap≤c) (hx:ex=true→c=cap) (hcN:c*sz≤N) :
  VRel (upd φ id (.cells w.heap.size 0 N)) (.sl id 0 len cap ex sz) (.slice (some ⟨w.heap.size,0,none⟩) len c):=by
 have:=VRel.sl (φ:=upd φ id (.cells w.heap.size 0 N)) (off:=0) (len:=len) (cap:=cap) (sz:=sz) (c:=c) (ex:=ex) (upd_same φ id (.cells w.heap.size 0 N)) hc hx hl (by omega)
 simpa using this
theorem newObj_ok {nx:Nat} {w:World} {H:Hp} (_hr:Rel φ H nx w) {id:Nat} {ρ:Operand→Value} {o:Oper} {ob:Obj} {o':Go.Obj}
  {v:AV} {v':Value} (hrun:(execOp ρ o).run P w=.ok (.value v') (w.alloc o')) (ho:ORel (upd φ id (.obj w.heap.size)) (w.alloc o') ob (.obj w.heap.size)) (hv:VRel (upd φ id (.obj w.heap.size)) v v') :
  NewOk P φ w ρ o id ob v :=
 ⟨v',o',.obj w.heap.size,hrun,rfl,fun _ _ _ h=>(by cases h),ho,hv⟩
theorem reps_length (n:Nat) (z:List AV):(reps n z).length=n*z.length:=by
 simp [reps,List.length_flatten]
theorem fillA_length {tm:T AV} {place:Nat→Option (Nat×Nat)}:∀ {ps:List (Nat×Operand)} {cs r:List AV},fillA C tm place cs ps=some r→r.length=cs.length
 | [],cs,r,h=>by simp [fillA] at h;rw [h]
 | p::ps,cs,r,h=>by
  simp only [fillA] at h
  split at h
  ·split at h
   ·split at h
    ·next cs' hcs'=>rw [fillA_length h,wrN_len hcs']
    ·simp at h
   ·simp at h
  ·simp at h
set_option maxHeartbeats 1000000 in
theorem newA_ok (hC:CtxOk P C) {hp:T Obj} {nx:Nat} {w:World} (hr:Rel φ hp.get nx w) (hg:GOk C φ) {tm:T AV} {a:Act} (ht:TRel φ tm a.tmps) {o:Oper} {id:Nat} (hid:φ id=none)
  {ob:Obj} {v:AV} (h:newA C tm hp id o=some (ob,v)):NewOk P φ w a.eval o id ob v:=by
 have hlast:∀ o':Go.Obj,(w.alloc o').heap[w.heap.size]?=some o':=fun o'=>by simp [World.alloc,-World.alloc_eq]
 unfold newA at h
 split at h
 ·next t ho =>
  split at h
  ·next ti hti =>
   simp only [Option.some.injEq,Prod.mk.injEq] at h
   obtain⟨rfl,rfl⟩:=h
   obtain⟨z,hz,hzr,_⟩:=(hC t ti hti).zeroValue w φ
   exact newMk_ok (e:=t) hid hzr (by simp [execOp,ho,Instr.alloc,hz,newVar,newRow]) new_ptr
  ·simp at h
 ·next e x ho =>
  split at h
  ·next u hu =>
   simp only [Option.some.injEq,Prod.mk.injEq] at h
   obtain⟨rfl,rfl⟩:=h
   exact newCells_ok (e:=e) hid (ev_rel hg ht hu).cells (by simp [execOp,ho,Instr.box,newVar,newRow]) new_ptr
  ·simp at h
 ·next t len parts ho =>
  split at h
  ·next ti hti =>
   split at h
   ·next e hk =>
    split at h
    ·next te hte =>
     split at h
     ·next hb1 hb2 =>
      split at h
      ·next l hl =>
       simp only [Option.some.injEq,Prod.mk.injEq] at h
       obtain⟨rfl,rfl⟩:=h
       have hE:=hC e te hte
       obtain⟨z,hz,hzr,_⟩:=hE.zeroValue w φ
       have hbig:=Nat.le_of_ble_eq_true hb1
       have hzl:=hzr.length
       have hsz:=Nat.eq_of_beq_eq_true hb2
       have hzs:z.cells.size=te.size:=by rw [← Array.length_toList,← hzl,← hsz]
       obtain⟨ys,hy1,hy2⟩:=fill_ok hg ht (place':=fun i=>some (i*te.size,te.size)) (fun i r hir=>hir) parts.toList _ _ _ hl (made_reps hzr len)
       have hparts:(parts.map fun p=>(p.1,a.eval p.2)).toList=parts.toList.map fun p=>(p.1,a.eval p.2):=by simp
       have hys:ys.size=len*te.size:=by
        rw [← Array.length_toList,← hy2.length,fillA_length hl,reps_length,← hsz]
       refine newCells_ok (e:=e) hid hy2 (v':=.slice (some ⟨w.heap.size,0,none⟩) len len) ?_ (by rw [hys];exact new_sl (Nat.le_refl _) (Nat.le_refl _) (fun _=>rfl) (Nat.le_refl _))
       simp only [execOp,ho,Sem.run_bind,Instr.buildSlice,run_underlying ((hC t ti hti).sl hk),Result.andThen_ok,hE.sizeOf]
       rw [if_neg (by omega)]
       by_cases e0:len*te.size=0
       ·have hem:∀ f:Nat→Value,Array.map f (Array.range (len*te.size))=(Array.range (len*z.cells.size)).map (fun i=>z.cells[i%z.cells.size]!):=fun f=>by
         apply Array.toList_inj.1;rw [hzs,e0];simp
        rw [if_pos e0]
        simp only [Sem.run_bind,Sem.run_pure,Result.andThen_ok,hem,hparts,hy1]
        rfl
       ·rw [if_neg e0]
        simp only [Sem.run_bind,hz,Sem.run_pure,Result.andThen_ok]
        rw [← hzs] at hy1 ⊢
        simp only [hparts,hy1]
        rfl
      ·simp at h
     ·simp at h
    ·simp at h
   ·simp at h
  ·simp at h
 ·next t l c ho =>
  split at h
  ·next ti lv cv hti hlv hcv =>
   split at h
   ·next e l0 c0 hk hl0 hc0 =>
    split at h
    ·next te hte =>
     split at h
     ·next h1 h2 h3 h4 =>
      simp only [Option.some.injEq,Prod.mk.injEq] at h
      obtain⟨rfl,rfl⟩:=h
      have hE:=hC e te hte
      obtain⟨z,hz,hzr,_⟩:=hE.zeroValue w φ
      obtain⟨i,z0,hi,hisz,hib,hiz,_⟩:=hE.info
      have hzz:z0=z:=by simpa [zeroValue,typeInfo,hi,hiz] using hz
      subst hzz
      obtain⟨kl,hkl⟩:=natOf_rel hl0 (ev_rel hg ht hlv)
      obtain⟨kc,hkc⟩:=natOf_rel hc0 (ev_rel hg ht hcv)
      have h1':=Nat.le_of_ble_eq_true h1
      have h2':=Nat.le_of_ble_eq_true h2
      have h3':=Nat.le_of_ble_eq_true h3
      have h4':=Nat.eq_of_beq_eq_true h4
      have hzs:z0.cells.size=te.size:=by rw [← Array.length_toList,← hzr.length,← h4']
      unfold big at h2'
      have hb:(i.bytes:Int)*(c0:Int)≤281474976710656:=by
       rw [hib]
       have h5:te.bytes*c0≤1024*1073741824:=Nat.mul_le_mul h3' h2'
       rw [← Int.natCast_mul]
       omega
      have hrun:=run_make (P:=P) w t e i z0 ((hC t ti hti).sl hk) hi hiz kl kc (l0:Int) (c0:Int) (by omega) (by omega) hb (by omega)
      have hmc:madeCells z0.cells (c0*te.size)=(Array.range (c0*z0.cells.size)).map (fun i=>z0.cells[i%z0.cells.size]!):=by rw [← hzs];rfl
      have hms:(madeCells z0.cells (c0*te.size)).size=c0*te.size:=size_madeCells _ _
      refine newCells_ok (e:=e) (vs:=madeCells z0.cells (c0*te.size)) hid (by rw [hmc];exact made_reps hzr c0) (v':=.slice (some ⟨w.heap.size,0,none⟩) l0 c0) ?_ ?_
      ·simp only [execOp,ho,Sem.run_bind,hkl,hkc,hrun,Result.andThen_ok,Sem.run_pure,hisz,Int.toNat_natCast]
      ·rw [hms];exact new_sl h1' (Nat.le_refl _) (fun _=>rfl) (Nat.le_refl _)
     ·simp at h
    ·simp at h
   ·simp at h
  ·simp at h
 ·next t ho =>
  split at h
  ·next ti hti =>
   simp only [Option.some.injEq,Prod.mk.injEq] at h
   obtain⟨rfl,rfl⟩:=h
   exact newObj_ok (o':=.map #[] 0) hr (by simp [execOp,ho,Instr.makeMap]) (.map (hlast _) ⟨⟨[],.nil,.nil⟩,by simp,by simp,.nil⟩) (.map (upd_same _ _ _))
  ·simp at h
 ·next t x ho =>
  split at h
  ·next ti k n hti hx =>
   split at h
   ·next kt et hk =>
    simp only [Option.some.injEq,Prod.mk.injEq] at h
    obtain⟨rfl,rfl⟩:=h
    have hb:=(ev_rel hg ht hx).inv_int
    exact newObj_ok (o':=.map #[] 0) hr (by simp [execOp,ho,Instr.makeMap,hb,run_underlying ((hC t ti hti).map hk),asInt,asIntOf])
     (.map (hlast _) ⟨⟨[],.nil,.nil⟩,by simp,by simp,.nil⟩) (.map (upd_same _ _ _))
   ·simp at h
  ·simp at h
 ·next t x ho =>
  split at h
  ·next ti u hti hu =>
   split at h
   ·next s hk =>
    simp only [Option.some.injEq,Prod.mk.injEq] at h
    obtain⟨rfl,rfl⟩:=h
    obtain⟨b,hb,rfl⟩:=(ev_rel hg ht hu).inv_str
    exact newObj_ok (o':=.stringIter b 0) hr (by simp [execOp,ho,Instr.range,hb,run_underlying ((hC t ti hti).str hk)]) (.sIter (hlast _)) (.it (upd_same _ _ _))
   ·next kt et m hk =>
    split at h
    ·next es clk hm =>
     simp only [Option.some.injEq,Prod.mk.injEq] at h
     obtain⟨rfl,rfl⟩:=h
     obtain⟨b,hb,hφ⟩:=(ev_rel hg ht hu).inv_map
     obtain⟨l,h1,h2⟩:=hr.dom m _ hm
     rw [hφ] at h1;cases h1
     cases h2 with
     | map hbk hmr =>
      refine newObj_ok (o':=.mapIter (some b) clk #[] clk) hr ?_ (.mIter (le_upd' hid _ _ _ hφ) (hlast _)) (.it (upd_same _ _ _))
      simp [execOp,ho,Instr.range,hb,run_underlying ((hC t ti hti).map hk),getObj,Sem.run,hbk]
    ·simp at h
   ·simp at h
  ·simp at h
 ·simp at h
end
end Ev
