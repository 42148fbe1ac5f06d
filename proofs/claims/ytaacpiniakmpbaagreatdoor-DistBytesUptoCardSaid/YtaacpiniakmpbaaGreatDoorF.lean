/- Loops over maps, whatever entry comes first. -/
import Derived.Test.YtaacpiniakmpbaaGreatDoorE
import Derived.Maps.RangeRun
namespace Ev
open Go
set_option linter.unusedSimpArgs false
set_option linter.unusedVariables false
inductive ObW:Obj→Obj→Prop
 | refl (o:Obj):ObW o o
 | map {es es':List (AV×AV)} (h:es.Perm es') (clk:Nat):ObW (.map es clk) (.map es' clk)
 | any (m clk st:Nat):ObW (.mIter m clk st) .any
theorem ObW.own {a b:Obj} (h:ObW a b):a.own=b.own:=by cases h<;>rfl
theorem ObW.rel {φ:Phi} {w:World} {a b:Obj} {l:Loc} (h:ObW a b) (k:ORel φ w a l):ORel φ w b l:=by
 cases h with
 | refl=>exact k
 | map hp=>cases k with|map hb hm=>exact .map hb (hm.perm' hp)
 | any=>cases k with|mIter _ _=>exact .any _
theorem Rel.weak {φ:Phi} {H H':Hp} {nx nx':Nat} {w:World} (h:Rel φ H nx w) (hw:∀ i x,H' i=some x→∃ y,H i=some y∧ObW y x) (hn:nx≤nx'):Rel φ H' nx' w∧Step φ H nx w φ H' nx' w:=by
 refine⟨⟨fun i l hi=>⟨Nat.lt_of_lt_of_le (h.lt i l hi).1 hn,(h.lt i l hi).2⟩,h.shp,fun i x hi=>?_,fun i j a b l m hi hj hne ho hl hm=>?_⟩,⟨hn,fun _ _ h=>.inl h,.refl _,.refl _ _ _,?_,?_⟩⟩
 ·obtain⟨y,h1,h2⟩:=hw i x hi
  obtain⟨l,h3,h4⟩:=h.dom i y h1
  exact⟨l,h3,h2.rel h4⟩
 ·obtain⟨y,h1,h2⟩:=hw i a hi
  obtain⟨z,h3,h4⟩:=hw j b hj
  exact h.sep i j y z l m h1 h3 hne (by rw [h2.own];exact ho) hl hm
 ·rintro k hk ⟨i,x,l,h1,h2,h3,h4⟩
  obtain⟨y,h5,h6⟩:=hw i x h1
  exact⟨i,y,l,h5,by rw [h6.own];exact h2,h3,h4⟩
 ·rintro k hk ⟨i,x,l,h1,h3,h4⟩
  obtain⟨y,h5,h6⟩:=hw i x h1
  exact⟨i,y,l,h5,h3,h4⟩
structure StW (s t:St):Prop where
 tm:∀ x v,t.tm.get x=some v→s.tm.get x=some v
 hp:∀ i x,t.hp.get i=some x→∃ y,s.hp.get i=some y∧ObW y x
 nx:s.nx≤t.nx
 df:s.df=t.df
theorem EFor.get {φ:Phi} {es:List (AV×AV)} {r:List MapEntry} (h:EFor φ es r):∀ (i:Nat) (m:MapEntry),r[i]?=some m→∃ e,es[i]?=some e∧VRel φ e.1 m.key∧VRel φ e.2 m.val:=by
 induction h with
 | nil=>intro i m hm;simp at hm
 | @cons e m0 l r hk hv t ih =>
  intro i m hm
  cases i with
  | zero=>simp at hm;subst hm;exact⟨e,rfl,hk,hv⟩
  | succ i=>simp at hm;simpa using ih i m hm
section
variable {P:Program} {C:Ctx} {nt:Nat} {rd:Option Nat}
structure MapLoop (P:Program) (C:Ctx) (nt:Nat) (rd:Option Nat) (st:St) (ops3 ops4:Array Oper) (o0 e0:Oper) (l3 l4:List Oper) (rest:Code) (j tc itx dn de idI idm clk:Nat) (es:List (AV×AV)) (S:Nat→St) (E:Hp) (sF:St):Prop where
 eq3:ops3.toList=o0::l3
 eq4:ops4.toList=e0::l4
 o0op:o0.op=.next (.tmp itx) false
 o0d:o0.dst=some dn
 o0g:o0.guard=none
 e0op:e0.op=.entry (.tmp itx)
 e0d:e0.dst=some de
 e0g:e0.guard=none
 dnlt:dn<nt
 delt:de<nt
 it:st.hp.get idI=some (.mIter idm clk 0)
 mp:st.hp.get idm=some (.map es clk)
 Eit:E idI=some .any
 Emp:E idm=some (.map es clk)
 Edis:∀ mask i x,mask<2 ^ es.length→E i=some x→(S mask).hp.get i=none
 start:∀ i x,un E (S 0).hp.get i=some x→∃ y,st.hp.get i=some y∧ObW y x
 stm:∀ x v,(S 0).tm.get x=some v→st.tm.get x=some v
 snx:st.nx≤(S 0).nx
 sdf:∀ mask,mask<2 ^ es.length→(S mask).df=st.df
 itm:∀ mask,mask<2 ^ es.length→(S mask).tm.get itx=some (.it idI)
 round:∀ mask i e,mask<2 ^ es.length→es[i]?=some e→mask.testBit i=false→∃ s1 s2 s3 ex,
  OpsR P C nt rd.isSome ops3.toList l3 { S mask with tm:=(S mask).tm.set dn (.tup [.bool true,e.1,e.2]) } s1∧s1.tm.get tc=some (.bool true)∧s1.tm.get itx=some (.it idI) ∧
  OpsR P C nt rd.isSome ops4.toList l4 { s1 with tm:=s1.tm.set de (.tup [e.1,e.2]) } s2∧CodeOK P C nt rd rest s2 ex s3∧(ex=.normal∨ex=.exit j)∧StW s3 (S (mask ||| 2 ^ i))
 last:OpsR P C nt rd.isSome ops3.toList l3 { S (2 ^ es.length - 1) with tm:=(S (2 ^ es.length - 1)).tm.set dn (.tup [.bool false]) } sF∧sF.tm.get tc=some (.bool false)
def unset:Nat→Nat→Nat
 | 0,_=>0
 | n+1,mask=>unset n mask+if mask.testBit n then 0 else 1
theorem unset_le {mask i:Nat}:∀ n,unset n (mask ||| 2 ^ i)≤unset n mask
 | 0=>Nat.le_refl _
 | n+1=>by
  have ih:=unset_le (mask:=mask) (i:=i) n
  simp only [unset,Nat.testBit_or]
  cases mask.testBit n<;>cases (2 ^ i).testBit n<;>simp only [Bool.or_false,Bool.or_true,if_true,Bool.false_eq_true,if_false]<;>omega
theorem unset_lt {mask i:Nat}:∀ {n:Nat},i<n→mask.testBit i=false→unset n (mask ||| 2 ^ i)<unset n mask
 | 0,hi,_=>by omega
 | n+1,hi,h=>by
  have hle:=unset_le (mask:=mask) (i:=i) n
  by_cases e:i=n
  ·subst e
   simp only [unset,Nat.testBit_or,h,Nat.testBit_two_pow_self,Bool.or_true,if_true,Bool.false_eq_true,if_false];omega
  ·have ih:=unset_lt (mask:=mask) (i:=i) (n:=n) (by omega) h
   simp only [unset,Nat.testBit_or]
   cases mask.testBit n<;>cases (2 ^ i).testBit n<;>simp only [Bool.or_false,Bool.or_true,if_true,Bool.false_eq_true,if_false]<;>omega
structure LI (C:Ctx) (nt:Nat) (st:St) (idI idm clk:Nat) (es:List (AV×AV)) (S:Nat→St) (E:Hp) (φ0:Phi) (w0:World) (bi bm:Nat) (ens:Array MapEntry) (r0:List MapEntry) (mask:Nat) (φ:Phi) (seen:Array Nat) (a:Act) (w:World):Prop where
 lt:mask<2 ^ es.length
 rel:Rel φ (un E (S mask).hp.get) (S mask).nx w
 glob:BOk C φ0 st.hp.get w0
 tmps:TRel φ (S mask).tm a.tmps
 size:a.tmps.size=nt
 defers:DRels φ st.df a.defers
 step:Step φ0 st.hp.get st.nx w0 φ (un E (S mask).hp.get) (S mask).nx w
 it:w.heap[bi]?=some (.mapIter (some bm) clk seen clk)
 mp:w.heap[bm]?=some (.map ens clk)
 seen:∀ i m,r0[i]?=some m→seen.contains m.born=mask.testBit i
theorem Rel.anyTurn {φ:Phi} {H:Hp} {nx:Nat} {w w':World} (h:Rel φ H nx w) {id b:Nat} (hi:H id=some .any) (hl:φ id=some (.obj b)) (hos:w'.os=w.os) (htape:w'.tape=w.tape) (hout:w'.output=w.output)
  (hsize:w'.heap.size=w.heap.size) (hshape:∀ r,w'.shape? r=w.shape? r) (hblk:∀ k,k≠b→w'.heap[k]?=w.heap[k]?):Rel φ H nx w'∧Step φ H nx w φ H nx w':=by
 have hu:upd H id .any=H:=by
  funext i
  by_cases e:id=i
  ·subst e;rw [upd_same,hi]
  ·rw [upd_ne _ _ e]
 have:=h.turn (w':=w') (ob':=.any) hi rfl rfl hl (.any b) hos htape hout hsize hshape hblk
 rwa [hu] at this
theorem setBlock_same {w:World} {r:Nat} {o o':Go.Obj} (h:w.heap[r]?=some o):(ChangeMaps.setBlock w r o').heap[r]?=some o':=by
 have hlt:r<w.heap.size:=(Array.getElem?_eq_some_iff.1 h).1
 simp [ChangeMaps.setBlock,hlt]
theorem setBlock_other {w:World} {r k:Nat} {o':Go.Obj} (h:k≠r):(ChangeMaps.setBlock w r o').heap[k]?=w.heap[k]?:=by
 simp [ChangeMaps.setBlock,Array.getElem?_setIfInBounds_ne (Ne.symm h)]
theorem setBlock_shape {w:World} {r:Nat} {m m':Option Nat} {s s' c c':Nat} {seen seen':Array Nat} (h:w.heap[r]?=some (.mapIter m s seen c)) (k:Nat):(ChangeMaps.setBlock w r (.mapIter m' s' seen' c')).shape? k=w.shape? k:=by
 by_cases e:k=r
 ·subst e;simp only [World.shape?,setBlock_same h,h]
 ·simp only [World.shape?,setBlock_other e]
theorem tmps_get {φ:Phi} {tm:T AV} {tmps:Array Value} (h:TRel φ tm tmps) {t:Nat} {v:AV} (ht:tm.get t=some v):VRel φ v (tmps.getD t undef):=by
 obtain⟨v',h1,h2⟩:=h t v ht
 have:tmps.getD t undef=v':=by simp [Array.getD_eq_getD_getElem?,h1]
 rw [this];exact h2
theorem tmp_eval {φ:Phi} {tm:T AV} {a:Act} (ht:TRel φ tm a.tmps) {t:Nat} {v:AV} (h:tm.get t=some v):VRel φ v (a.eval (.tmp t)):=tmps_get ht h
theorem CodeOK.mapLoop {st:St} {ops3 ops4:Array Oper} {o0 e0:Oper} {l3 l4:List Oper} {rest:Code} {j tc itx dn de idI idm clk:Nat} {es:List (AV×AV)} {S:Nat→St} {E:Hp} {sF:St}
  (D:MapLoop P C nt rd st ops3 ops4 o0 e0 l3 l4 rest j tc itx dn de idI idm clk es S E sF) {i3 i4 k:Nat} {st':St} (f1:st'.tm=sF.tm) (f2:∀ i x,st'.hp.get i=some x→un E sF.hp.get i=some x) (f3:st'.nx=sF.nx) (f4:st'.df=sF.df) :
  CodeOK P C nt rd (.loop (.seq (.region i3 ops3 false) (.seq (.cond (.tmp tc) .skip (.exit k)) (.block j (.seq (.region i4 ops4 false) rest))))) st (.exit k) st':=by
 intro φ0 a0 w0 hl r n hr Q hQ
 obtain⟨l1,k1,k2⟩:=hl.rel.dom idI _ D.it
 obtain⟨l2,k3,k4⟩:=hl.rel.dom idm _ D.mp
 cases k2 with
 | @mIter _ _ _ bi bm hm0 hbi =>
 cases k4 with
 | @map _ _ bm' ens hbm hmr =>
 rw [hm0] at k3;simp only [Option.some.injEq,Loc.obj.injEq] at k3;subst k3
 obtain⟨r0,hef,hperm⟩:=hmr.perm
 have hnd:(r0.map (·.born)).Nodup:=(hperm.map (·.born)).nodup_iff.2 hmr.nodup
 have Hn:es.length=r0.length:=hef.length
 have hinj:∀ (i i':Nat) (m m':MapEntry),r0[i]?=some m→r0[i']?=some m'→m.born=m'.born→i=i':=by
  intro i i' m m' h1 h2 h3
  have g1:(r0.map (·.born))[i]?=some m.born:=by simp [h1]
  have g2:(r0.map (·.born))[i']?=some m.born:=by simp [h2,h3]
  exact(List.getElem?_inj (List.getElem?_eq_some_iff.1 g1).1 hnd).1 (g1.trans g2.symm)
 let Tod:Nat→Act→World→Prop:=fun c a w=>∃ mask φ seen,LI C nt st idI idm clk es S E φ0 w0 bi bm ens r0 mask φ seen a w∧unset es.length mask=c
 have hpos:0<2 ^ es.length:=Nat.two_pow_pos _
 refine wpIn_loop (fun a w=>∃ c,Tod c a w) (fun a w=>few fun c=>Tod c a w) ?_ ?_
 ·obtain⟨t1,t2⟩:=hl.rel.weak D.start D.snx
  exact⟨_,0,φ0,#[],⟨hpos,t1,hl.glob,fun x v hx=>hl.tmps x v (D.stm x v hx),hl.size,hl.defers,t2,hbi,hbm,fun i m _=>by simp⟩,rfl⟩
 intro a w hex
 obtain⟨⟨mask,φ,seen,L,hc⟩,hmin⟩:=few_spec hex
 have hμ:∀ a' w' mask' φ' seen',LI C nt st idI idm clk es S E φ0 w0 bi bm ens r0 mask' φ' seen' a' w'→unset es.length mask'<unset es.length mask→(∃ c,Tod c a' w')∧(few fun c=>Tod c a' w')<(few fun c=>Tod c a w):=by
  intro a' w' mask' φ' seen' L' hlt
  have h1:∃ c,Tod c a' w':=⟨_,mask',φ',seen',L',rfl⟩
  refine⟨h1,?_⟩
  have:=(few_spec h1).2 _ ⟨mask',φ',seen',L',rfl⟩
  omega
 generalize hgen:(few fun c=>Tod c a w)=μ0 at *
 clear hgen hmin hex
 have hφI:φ idI=some (.obj bi):=L.step.le _ _ k1
 have hφm:φ idm=some (.obj bm):=L.step.le _ _ hm0
 have hSI:(S mask).hp.get idI=none:=D.Edis mask idI _ L.lt D.Eit
 have hSm:(S mask).hp.get idm=none:=D.Edis mask idm _ L.lt D.Emp
 have hsub:∀ i x,(S mask).hp.get i=some x→un E (S mask).hp.get i=some x:=by
  intro i x hi
  cases he:E i with
  | none=>rw [un_none he];exact hi
  | some y=>rw [D.Edis mask i y L.lt he] at hi;cases hi
 have hown:∀ {b:Nat} {w':World} {idx:Nat} {ob:Obj},Rel φ (un E (S mask).hp.get) (S mask).nx w'→E idx=some ob→ob.own=true→φ idx=some (.obj b)→(S mask).hp.get idx=none→¬ OwnB φ (S mask).hp.get b:=by
  rintro b w' idx ob hrel hE ho hφ hS ⟨i,x,l,h1,h2,h3,h4⟩
  have hne:idx≠i:=fun q=>by subst q;rw [hS] at h1;cases h1
  exact hrel.sep idx i ob x (.obj b) l (un_some hE) (hsub i x h1) hne ho hφ h3 h4.symm
 have hbiOwn:¬ OwnB φ (S mask).hp.get bi:=hown L.rel D.Eit rfl hφI hSI
 have hbmOwn:¬ OwnB φ (S mask).hp.get bm:=hown L.rel D.Emp rfl hφm hSm
 have hbilt:bi<w.heap.size:=(Array.getElem?_eq_some_iff.1 L.it).1
 have hbmlt:bm<w.heap.size:=(Array.getElem?_eq_some_iff.1 L.mp).1
 have hbne:bm≠bi:=by
  intro q
  have h1:=L.mp
  rw [q,L.it] at h1
  cases h1
 have ho0:ops3[0]?=some o0:=by rw [← Array.getElem?_toList,D.eq3];rfl
 have he0:ops4[0]?=some e0:=by rw [← Array.getElem?_toList,D.eq4];rfl
 have hs3:ops3.size=l3.length+1:=by rw [← Array.length_toList,D.eq3];rfl
 have hs4:ops4.size=l4.length+1:=by rw [← Array.length_toList,D.eq4];rfl
 have hd3:ops3.toList.drop 1=l3:=by rw [D.eq3];rfl
 have hd4:ops4.toList.drop 1=l4:=by rw [D.eq4];rfl
 have hborn:∀ x∈ens.toList,x.born<clk:=hmr.born
 have hevI:a.eval (.tmp itx)=.pointer (some ⟨bi,0,none⟩):=by
  have:=tmp_eval (a:=a) L.tmps (D.itm mask L.lt)
  generalize a.eval (.tmp itx)=q at this
  cases this with
  | it h=>rw [hφI] at h;cases h;rfl
 have hex3:∀ rv w',(Instr.next (.pointer (some ⟨bi,0,none⟩)) false o0.type).run P w=.ok rv w'→(execOp a.eval o0).run P w=.ok (.value rv) w':=by
  intro rv w' h
  simp only [execOp,D.o0op,Sem.run_bind,hevI,h];rfl
 refine wpIn_seq (wpIn_region ?_)
 rw [List.range_eq_range',hs3,List.range'_succ,wpOpsIn_cons]
 refine wpOpIn_of ho0 D.o0g (wpIn_fw (fun c q=>by rw [D.o0op] at q;cases q) ?_)
 rcases run_next_at w o0.type bi bm clk clk seen ens clk L.it L.mp hborn (Nat.le_refl _) with⟨h0,hrun⟩|⟨e,he,w1,hw1,hrun⟩
 ·
  rw [hex3 _ _ hrun,Oper.uponIn_value,D.o0d]
  have hall:∀ i,i<es.length→mask.testBit i=true:=by
   intro i hi
   have hi':i<r0.length:=by omega
   have hget:r0[i]?=some r0[i]:=List.getElem?_eq_getElem hi'
   rw [← L.seen i _ hget]
   have hmem:r0[i]∈ens.toList:=hperm.mem_iff.1 (List.getElem_mem hi')
   cases hcn:seen.contains r0[i].born with
   | true=>rfl
   | false =>
    have:r0[i]∈(leftOf ens seen).toList:=by
     unfold leftOf
     simp only [Array.toList_filter,List.mem_filter]
     exact⟨hmem,by rw [hcn];rfl⟩
    rw [Array.eq_empty_of_size_eq_zero h0] at this
    simp at this
  have hmask:mask=2 ^ es.length - 1:=by
   apply Nat.eq_of_testBit_eq
   intro i
   rw [Nat.testBit_two_pow_sub_one]
   by_cases hi:i<es.length
   ·simp [hi,hall i hi]
   ·simp [hi]
    exact Nat.testBit_lt_two_pow (Nat.lt_of_lt_of_le L.lt (Nat.pow_le_pow_right (by omega) (by omega)))
  obtain⟨g1,g2⟩:=D.last
  rw [← hmask] at g1
  have hlies:Lies C nt φ { S mask with tm:=(S mask).tm.set dn (.tup [.bool false]) } (a.put (some dn) (.tuple #[.bool false])) w :=
   ⟨L.rel.less hsub (Nat.le_refl _),(L.glob.step L.step).less hsub,TRel.put (d:=some dn) L.tmps L.size (fun _ q=>by cases q;exact D.dnlt) (.tup (x':=#[.bool false]) (.cons (.bool false) .nil)),by rw [put_size];exact L.size,by rw [put_defers,D.sdf mask L.lt];exact L.defers⟩
  refine ops_sound g1 1 hd3 φ _ w hlies r n (fun h=>hr.none h) _ ?_
  intro φ' a' w' hl' hs'
  have hev:a'.eval (.tmp tc)=.bool false:=by
   have:=tmp_eval (a:=a') hl'.tmps g2
   generalize a'.eval (.tmp tc)=q at this
   cases this;rfl
  refine wpIn_seq (wpIn_cond hev (wpIn_exit ?_))
  obtain⟨t1,t2⟩:=Step.frame L.rel (fun i x=>D.Edis mask i x L.lt) hl'.rel hs'
  have hw':∀ i x,st'.hp.get i=some x→∃ y,un E sF.hp.get i=some y∧ObW y x:=fun i x hx=>⟨x,f2 i x hx,.refl _⟩
  obtain⟨t3,t4⟩:=t1.weak (nx':=st'.nx) hw' (by rw [f3];exact Nat.le_refl _)
  refine hQ φ' a' w' ⟨t3,L.glob.step ((L.step.trans t2).trans t4),by rw [f1];exact hl'.tmps,hl'.size,by rw [f4];exact hl'.defers⟩ ((L.step.trans t2).trans t4)
 ·
  rw [hex3 _ _ hrun,Oper.uponIn_value,D.o0d]
  have hemem:e∈ens.toList∧seen.contains e.born=false:=by
   unfold leftOf at he
   simp only [Array.toList_filter,List.mem_filter] at he
   exact⟨he.1,by simpa using he.2⟩
  obtain⟨i,hi⟩:=List.mem_iff_getElem?.1 (hperm.mem_iff.2 hemem.1)
  obtain⟨ea,hea,hk,hv⟩:=hef.get i e hi
  have hilt:i<es.length:=(List.getElem?_eq_some_iff.1 hea).1
  have hbit:mask.testBit i=false:=by rw [← L.seen i e hi];exact hemem.2
  obtain⟨s1,s2,s3,ex,g1,g2,g3,g4,g5,g6,g7⟩:=D.round mask i ea L.lt hea hbit
  have hw1it:w1.heap[bi]?=some (.mapIter (some bm) clk seen clk):=by rcases hw1 with rfl|rfl<;>exact L.it
  have hw1mp:w1.heap[bm]?=some (.map ens clk):=by rcases hw1 with rfl|rfl<;>exact L.mp
  have hrel1:Rel φ (un E (S mask).hp.get) (S mask).nx w1∧Step φ (un E (S mask).hp.get) (S mask).nx w φ (un E (S mask).hp.get) (S mask).nx w1:=by
   rcases hw1 with rfl|rfl
   ·exact⟨L.rel,.refl _ _ _ _⟩
   ·exact⟨L.rel.drew _,Step.drew _ _ _ _ _⟩
  obtain⟨t1,t2⟩:=hrel1.1.anyTurn (w':=ChangeMaps.setBlock w1 bi (.mapIter (some bm) clk (seen.push e.born) clk)) (un_some D.Eit) hφI rfl rfl rfl (by simp [ChangeMaps.setBlock]) (setBlock_shape hw1it) fun k hk=>setBlock_other hk
  generalize hW:ChangeMaps.setBlock w1 bi (.mapIter (some bm) clk (seen.push e.born) clk)=W at *
  have hWit:W.heap[bi]?=some (.mapIter (some bm) clk (seen.push e.born) clk):=by rw [← hW];exact setBlock_same hw1it
  have hWmp:W.heap[bm]?=some (.map ens clk):=by rw [← hW,setBlock_other hbne];exact hw1mp
  have hkφ:=hk.mono L.step.le
  have hvφ:=hv.mono L.step.le
  have hlies:Lies C nt φ { S mask with tm:=(S mask).tm.set dn (.tup [.bool true,ea.1,ea.2]) } (a.put (some dn) (.tuple #[.bool true,e.key,e.val])) W :=
   ⟨t1.less hsub (Nat.le_refl _),(L.glob.step (L.step.trans (hrel1.2.trans t2))).less hsub,TRel.put (d:=some dn) L.tmps L.size (fun _ q=>by cases q;exact D.dnlt) (.tup (x':=#[.bool true,e.key,e.val]) (.cons (.bool true) (.cons hkφ (.cons hvφ .nil)))),by rw [put_size];exact L.size,by rw [put_defers,D.sdf mask L.lt];exact L.defers⟩
  refine ops_sound g1 1 hd3 φ _ W hlies r n (fun h=>hr.none h) _ ?_
  intro φ1 a1 w2 hl1 hs1
  have hev:a1.eval (.tmp tc)=.bool true:=by
   have:=tmp_eval (a:=a1) hl1.tmps g2
   generalize a1.eval (.tmp tc)=q at this
   cases this;rfl
  have hWlt:∀ {b},b<w.heap.size→b<W.heap.size:=fun {b} hb=>by
   have:=t2.keeps.size;have:=hrel1.2.keeps.size;omega
  have hw2it:w2.heap[bi]?=some (.mapIter (some bm) clk (seen.push e.born) clk):=by rw [hs1.keeps.block bi (hWlt hbilt) hbiOwn];exact hWit
  have hw2mp:w2.heap[bm]?=some (.map ens clk):=by rw [hs1.keeps.block bm (hWlt hbmlt) hbmOwn];exact hWmp
  have hevI1:a1.eval (.tmp itx)=.pointer (some ⟨bi,0,none⟩):=by
   have:=tmp_eval (a:=a1) hl1.tmps g3
   generalize a1.eval (.tmp itx)=q at this
   cases this with
   | it h=>rw [hs1.le _ _ hφI] at h;cases h;rfl
  refine wpIn_seq (wpIn_cond hev (wpIn_skip ?_))
  refine wpIn_block (wpIn_seq (wpIn_region ?_))
  rw [List.range_eq_range',hs4,List.range'_succ,wpOpsIn_cons]
  refine wpOpIn_of he0 D.e0g (wpIn_fw (fun c q=>by rw [D.e0op] at q;cases q) ?_)
  have hrun4:(execOp a1.eval e0).run P w2=.ok (.value (.tuple #[e.key,e.val])) w2:=by
   have:=run_entry_at (P:=P) w2 bi bm clk seen ens clk e hw2it hw2mp hemem.1 hmr.nodup
   simp only [execOp,D.e0op,Sem.run_bind,hevI1,this];rfl
  rw [hrun4,Oper.uponIn_value,D.e0d]
  have hlies2:Lies C nt φ1 { s1 with tm:=s1.tm.set de (.tup [ea.1,ea.2]) } (a1.put (some de) (.tuple #[e.key,e.val])) w2 :=
   ⟨hl1.rel,hl1.glob,TRel.put (d:=some de) hl1.tmps hl1.size (fun _ q=>by cases q;exact D.delt) (.tup (x':=#[e.key,e.val]) (.cons (hkφ.mono hs1.le) (.cons (hvφ.mono hs1.le) .nil))),by rw [put_size];exact hl1.size,by rw [put_defers];exact hl1.defers⟩
  refine ops_sound g4 1 hd4 φ1 _ w2 hlies2 r n (fun h=>hr.none h) _ ?_
  intro φ2 a2 w3 hl2 hs2
  have hrd:RdOk φ2 rd r:=hr.mono (L.step.le.trans (hs1.le.trans hs2.le))
  refine g5 φ2 a2 w3 hl2 r n hrd _ ?_
  intro φ3 a3 w4 hl3 hs3
  have hsm:Step φ (S mask).hp.get (S mask).nx W φ3 s3.hp.get s3.nx w4:=hs1.trans (hs2.trans hs3)
  obtain⟨u1,u2⟩:=Step.frame t1 (fun i x=>D.Edis mask i x L.lt) hl3.rel hsm
  have hmask':mask ||| 2 ^ i<2 ^ es.length:=Nat.or_lt_two_pow L.lt (Nat.pow_lt_pow_right (by omega) hilt)
  have hweak:∀ i' x,un E (S (mask ||| 2 ^ i)).hp.get i'=some x→∃ y,un E s3.hp.get i'=some y∧ObW y x:=by
   intro i' x hx
   cases hE:E i' with
   | some z=>rw [un_some hE] at hx ⊢;exact⟨x,hx,.refl _⟩
   | none =>
    rw [un_none hE] at hx
    obtain⟨y,h1,h2⟩:=g7.hp i' x hx
    exact⟨y,by rw [un_none hE];exact h1,h2⟩
  obtain⟨u3,u4⟩:=u1.weak hweak g7.nx
  have hLI:LI C nt st idI idm clk es S E φ0 w0 bi bm ens r0 (mask ||| 2 ^ i) φ3 (seen.push e.born) a3 w4:=by
   refine⟨hmask',u3,L.glob,fun x v hx=>hl3.tmps x v (g7.tm x v hx),hl3.size,?_,L.step.trans (hrel1.2.trans (t2.trans (u2.trans u4))),?_,?_,?_⟩
   ·have:=hl3.defers
    rw [g7.df,D.sdf _ hmask'] at this;exact this
   ·rw [hsm.keeps.block bi (hWlt hbilt) hbiOwn];exact hWit
   ·rw [hsm.keeps.block bm (hWlt hbmlt) hbmOwn];exact hWmp
   ·intro i' m hm
    rw [Nat.testBit_or,Nat.testBit_two_pow,← L.seen i' m hm]
    have hiff:(m.born=e.born)↔i=i':=⟨fun q=>(hinj i i' e m hi hm q.symm),fun q=>by subst q;rw [hi] at hm;cases hm;rfl⟩
    rw [Bool.eq_iff_iff]
    simp only [Array.contains_push,Bool.or_eq_true,beq_iff_eq,decide_eq_true_eq]
    rw [← hiff]
  have hfin:=hμ a3 w4 _ _ _ hLI (unset_lt hilt hbit)
  rcases g6 with rfl|rfl
  ·exact hfin
  ·show Exit.inBlock j _ (.exit j) a3 w4
   simp only [Exit.inBlock,if_true]
   exact hfin
end
def split3:List Oper→Option (List Oper×Oper×Oper×Oper)
 | []=>none
 | x::l=>match l with
  | [b,c]=>some ([],x,b,c)
  | l=>match split3 l with
   | some (p,q)=>some (x::p,q)
   | none=>none
theorem split3_eq:∀ {l p:List Oper} {a b c:Oper},split3 l=some (p,a,b,c)→l=p++[a,b,c]
 | [],_,_,_,_,h=>by simp [split3] at h
 | x::l,p,a,b,c,h=>by
  unfold split3 at h
  split at h
  ·simp only [Option.some.injEq,Prod.mk.injEq] at h
   obtain⟨rfl,rfl,rfl,rfl⟩:=h;rfl
  ·split at h
   ·next p' q hq =>
    simp only [Option.some.injEq,Prod.mk.injEq] at h
    obtain⟨rfl,rfl⟩:=h
    rw [split3_eq hq];rfl
   ·simp at h
def preB (n:Nat):Nat→List Oper→Bool
 | _,[]=>true
 | i,o::l=>match guardB n o,ordB i o.after.toList with|true,true=>preB n (i+1) l|_,_=>false
theorem preB_ok {n:Nat}:∀ {l:List Oper} {k:Nat},preB n k l=true→(∀ o∈l,guardB n o=true)∧∀ (i:Nat) (o:Oper),l[i]?=some o→ordB (k+i) o.after.toList=true
 | [],_,_=>⟨(fun o h=>by cases h),(fun i o h=>by simp at h)⟩
 | x::l,k,h=>by
  unfold preB at h
  split at h
  ·next h1 h2 =>
   obtain⟨g1,g2⟩:=preB_ok h
   refine⟨fun o ho=>?_,fun i o ho=>?_⟩
   ·rcases List.mem_cons.1 ho with rfl|q
    ·exact h1
    ·exact g1 o q
   ·cases i with
    | zero=>simp at ho;subst ho;exact h2
    | succ i=>simp at ho;have:=g2 i o ho;rwa [Nat.add_right_comm,Nat.add_assoc] at this
  ·simp at h
def tailB (nt:Nat) (pre:List Oper) (ix s1 s2:Oper) (d:Nat) (x2 y2:Operand):Bool :=
 let p:=pre.length
 preB p 0 pre&&noneB ix.guard&&noneB s1.guard&&noneB s2.guard&&noneB s1.dst&&noneB s2.dst&&Nat.blt d nt&&edgesAll p ix.after.toList&&edgesAll (p+1) s1.after.toList&&edgesAll p s2.after.toList &&
  ordB p ix.after.toList&&ordB (p+1) s1.after.toList&&ordB (p+2) s2.after.toList&&plainB ix&&!isTmp d x2&&!isTmp d y2
noncomputable def drawT (C:Ctx) (call:CallF) (nt:Nat) (ops:List Oper) (st:St):Option St :=
 match split3 ops with
 | none=>none
 | some (pre,ix,s1,s2)=>match ix.dst,s1.op,s2.op with
  | some d,.store _ x1 _,.store _ x2 y2=>match tailB nt pre ix s1 s2 d x2 y2,drawA C call nt pre st with
   | true,some st1=>match valA C st1.tm st1.hp ix with
    | some v=>match chgA C (st1.tm.set d v) st1.hp st1.nx s1 with
     | some r1=>match chgA C (st1.tm.set d v) r1.hp st1.nx s2,ev C (st1.tm.set d v) x1,ev C st1.tm x2 with
      | some r2,some (.ptr i1 _),some (.ptr i2 _)=>match Nat.beq i1 i2 with
       | false=>some ⟨st1.tm.set d v,r2.hp,st1.nx,st1.df⟩
       | true=>none
      | _,_,_=>none
     | none=>none
    | none=>none
   | _,_=>none
  | _,_,_=>none
def optB {α:Type} (f:α→Bool):Option α→Bool
 | some x=>f x
 | none=>true
noncomputable def T.allB {α:Type} (f:Nat→α→Bool) (t:T α):(Nat→Nat)→Bool :=
 T.rec (motive:=fun _=>(Nat→Nat)→Bool) (fun _=>true)
  (fun _ v _ il ir g=>optB (f (g 0)) v&&(il (fun j=>g (2*j+1))&&ir (fun j=>g (2*j+2)))) t
theorem T.allB_ok {α:Type} {f:Nat→α→Bool}:∀ {t:T α} {g:Nat→Nat},t.allB f g=true→∀ i x,t.get i=some x→f (g i) x=true:=by
 intro t
 induction t with
 | leaf=>intro g _ i x h;cases h
 | node l v r ihl ihr =>
  intro g h i x hx
  have h':(optB (f (g 0)) v&&(l.allB f (fun j=>g (2*j+1))&&r.allB f (fun j=>g (2*j+2))))=true:=h
  simp only [Bool.and_eq_true] at h'
  obtain⟨h1,h2,h3⟩:=h'
  cases i with
  | zero=>rw [T.get_zero] at hx;subst hx;exact h1
  | succ n =>
   rw [T.get_succ] at hx
   split at hx
   ·have:=ihl h2 _ _ hx
    rwa [show 2*(n / 2)+1=n+1 by omega] at this
   ·have:=ihr h3 _ _ hx
    rwa [show 2*(n / 2)+2=n+1 by omega] at this
noncomputable def keepH (h:T Obj):List Nat→T Obj
 | []=>.leaf
 | i::l=>match h.get i with|some x=>(keepH h l).set i x|none=>keepH h l
noncomputable def putH (h t:T Obj):List Nat→T Obj
 | []=>t
 | i::l=>match h.get i with|some x=>(putH h t l).set i x|none=>(putH h t l).del i
theorem keepH_get {h:T Obj}:∀ {l:List Nat} {i:Nat} {x:Obj},(keepH h l).get i=some x→i∈l∧h.get i=some x
 | [],i,x,q=>by cases q
 | j::l,i,x,q=>by
  unfold keepH at q
  split at q
  ·next y hy =>
   rw [T.get_set] at q
   split at q
   ·next e=>subst e;cases q;exact⟨List.mem_cons_self,hy⟩
   ·obtain⟨h1,h2⟩:=keepH_get q;exact⟨List.mem_cons_of_mem _ h1,h2⟩
  ·obtain⟨h1,h2⟩:=keepH_get q;exact⟨List.mem_cons_of_mem _ h1,h2⟩
theorem putH_get {h t:T Obj} {i:Nat}:∀ {l:List Nat},(putH h t l).get i=if i∈l then h.get i else t.get i
 | []=>by simp [putH]
 | j::l=>by
  unfold putH
  split
  ·next y hy =>
   rw [T.get_set]
   by_cases e:j=i
   ·subst e;simp [hy]
   ·rw [if_neg e,putH_get];simp [List.mem_cons,Ne.symm e]
  ·next hy =>
   rw [T.get_del]
   by_cases e:j=i
   ·subst e;simp [hy]
   ·rw [if_neg e,putH_get];simp [List.mem_cons,Ne.symm e]
def dropE (e:AV×AV):List (AV×AV)→Option (List (AV×AV))
 | []=>none
 | x::l=>match AV.same e.1 x.1,AV.same e.2 x.2 with
  | true,true=>some l
  | _,_=>match dropE e l with|some r=>some (x::r)|none=>none
theorem dropE_perm {e:AV×AV}:∀ {l r:List (AV×AV)},dropE e l=some r→l.Perm (e::r)
 | [],r,h=>by simp [dropE] at h
 | x::l,r,h=>by
  unfold dropE at h
  split at h
  ·next h1 h2 =>
   simp only [Option.some.injEq] at h;subst h
   have:e=x:=Prod.ext (AV.same_eq h1) (AV.same_eq h2)
   subst this;exact .refl _
  ·split at h
   ·next r' hr =>
    simp only [Option.some.injEq] at h;subst h
    exact(List.Perm.cons x (dropE_perm hr)).trans (List.Perm.swap _ _ _)
   ·simp at h
def permB:List (AV×AV)→List (AV×AV)→Bool
 | [],[]=>true
 | e::l,m=>match dropE e m with|some r=>permB l r|none=>false
 | _,_=>false
theorem permB_ok:∀ {l m:List (AV×AV)},permB l m=true→l.Perm m
 | [],[],_=>.refl _
 | e::l,m,h=>by
  unfold permB at h
  split at h
  ·next r hr=>exact(List.Perm.cons e (permB_ok h)).trans (dropE_perm hr).symm
  ·simp at h
def obwB:Obj→Obj→Bool
 | .map es c,.map es' c'=>match Nat.beq c c' with|true=>permB es es'|false=>false
 | a,b=>Obj.same a b
theorem obwB_ok {a b:Obj} (h:obwB a b=true):ObW a b:=by
 unfold obwB at h
 split at h
 ·split at h
  ·next hc=>rw [Nat.eq_of_beq_eq_true hc];exact .map (permB_ok h) _
  ·simp at h
 ·rw [Obj.same_eq h];exact .refl _
def nilB:List DA→Bool
 | []=>true
 | _=>false
noncomputable def famS (st:St) (fp:List Nat) (FT:T (T Obj×Nat)) (mask:Nat):St :=
 match mask with
 | 0=>⟨st.tm,keepH st.hp fp,st.nx,st.df⟩
 | m+1=>match FT.get (m+1) with
  | some q=>⟨st.tm,keepH q.1 fp,q.2,st.df⟩
  | none=>⟨st.tm,.leaf,st.nx,st.df⟩
noncomputable def stwB (fp:List Nat) (s t:St):Bool :=
 (nilB s.df&&nilB t.df&&Nat.ble s.nx t.nx) &&
  (t.tm.allB (fun x v=>match s.tm.get x with|some v'=>AV.same v' v|none=>false) (fun j=>j) &&
   fp.all fun i=>match t.hp.get i with|none=>true|some x=>match s.hp.get i with|some y=>obwB y x|none=>false)
structure MLoop where
 ops3:List Oper
 ops4:List Oper
 l3:List Oper
 l4:List Oper
 rest:Code
 j:Nat
 tc:Nat
 itx:Nat
 dn:Nat
 de:Nat
 k:Nat
 idI:Nat
 idm:Nat
 clk:Nat
 es:List (AV×AV)
noncomputable def roundM (og:List Oper→List Oper→St→Option St) (cg:Code→St→Option (Ex×St)) (m:MLoop) (e:AV×AV) (s:St):Option St :=
 match og m.ops3 m.l3 { s with tm:=s.tm.set m.dn (.tup [.bool true,e.1,e.2]) } with
 | none=>none
 | some s1=>match s1.tm.get m.tc,s1.tm.get m.itx with
  | some (.bool true),some (.it i)=>match Nat.beq i m.idI,og m.ops4 m.l4 { s1 with tm:=s1.tm.set m.de (.tup [e.1,e.2]) } with
   | true,some s2=>match cg m.rest s2 with
    | some (.normal,s3)=>some s3
    | some (.exit j,s3)=>match Nat.beq j m.j with|true=>some s3|false=>none
    | _=>none
   | _,_=>none
  | _,_=>none
noncomputable def checkM (og:List Oper→List Oper→St→Option St) (cg:Code→St→Option (Ex×St)) (m:MLoop) (fp:List Nat) (S:Nat→St) (mask:Nat):Nat→List (AV×AV)→Bool
 | _,[]=>true
 | i,e::l=>match Nat.testBit mask i with
  | true=>checkM og cg m fp S mask (i+1) l
  | false=>match roundM og cg m e (S mask) with
   | some s3=>match stwB fp s3 (S (mask ||| 2 ^ i)) with
    | true=>checkM og cg m fp S mask (i+1) l
    | false=>false
   | none=>false
def lowBit (mask:Nat):Nat→Nat→Nat
 | 0,i=>i
 | f+1,i=>match Nat.testBit mask i with|true=>i|false=>lowBit mask f (i+1)
noncomputable def famM (og:List Oper→List Oper→St→Option St) (cg:Code→St→Option (Ex×St)) (m:MLoop) (st:St) (fp:List Nat):List Nat→T (T Obj×Nat)→T (T Obj×Nat)
 | [],t=>t
 | mask::l,t=>match nth m.es (lowBit mask m.es.length 0) with
  | some e=>match roundM og cg m e (famS st fp t (mask - 2 ^ lowBit mask m.es.length 0)) with
   | some s3=>famM og cg m st fp l (t.set mask (s3.hp,s3.nx))
   | none=>t
  | none=>t
def idsOf:AV→List Nat
 | .sl id _ _ _ _ _=>[id]
 | .ptr id _=>[id]
 | _=>[]
def idsE:List (AV×AV)→List Nat
 | []=>[]
 | e::l=>idsOf e.1++idsOf e.2++idsE l
noncomputable def mapsIn (t:T AV):List Nat:=T.rec (motive:=fun _=>List Nat) [] (fun _ v _ il ir=>(match v with|some (.map i)=>[i]|_=>[])++(il++ir)) t
noncomputable def fnIds (hp:T Obj):List AV→List Nat
 | []=>[]
 | .ptr i _::l=>i::((match hp.get i with|some (.cells c _)=>c.flatMap idsOf|_=>[])++fnIds hp l)
 | _::l=>fnIds hp l
noncomputable def fnsIn (hp:T Obj) (t:T AV):List Nat:=T.rec (motive:=fun _=>List Nat) [] (fun _ v _ il ir=>(match v with|some (.fn _ _ l)=>fnIds hp l|_=>[])++(il++ir)) t
noncomputable def mloopOf (nt:Nat) (st:St) (c:Code):Option MLoop :=
 match c with
 | .seq (.region _ ops3 false) (.seq (.cond (.tmp tc) .skip (.exit k)) (.block j (.seq (.region _ ops4 false) rest))) =>
  match ops3.toList,ops4.toList with
  | o0::l3,e0::l4=>match o0.op,o0.dst,o0.guard,e0.op,e0.dst,e0.guard with
   | .next (.tmp itx) false,some dn,none,.entry (.tmp ity),some de,none=>match Nat.beq itx ity,Nat.blt dn nt,Nat.blt de nt,st.tm.get itx with
    | true,true,true,some (.it idI)=>match st.hp.get idI with
     | some (.mIter idm clk 0)=>match st.hp.get idm with
      | some (.map es clk')=>match Nat.beq clk clk' with
       | true=>some ⟨o0::l3,e0::l4,l3,l4,rest,j,tc,itx,dn,de,k,idI,idm,clk,es⟩
       | false=>none
      | _=>none
     | _=>none
    | _,_,_,_=>none
   | _,_,_,_,_,_=>none
  | _,_=>none
 | _=>none
noncomputable def mapE (og:List Oper→List Oper→St→Option St) (cg:Code→St→Option (Ex×St)) (m:MLoop) (st:St) (fp:List Nat) (S:Nat→St):Option (Ex×St) :=
 match (List.range (2 ^ m.es.length)).all fun mask=>checkM og cg m fp S mask 0 m.es with
 | false=>none
 | true=>match og m.ops3 m.l3 { S (2 ^ m.es.length - 1) with tm:=(S (2 ^ m.es.length - 1)).tm.set m.dn (.tup [.bool false]) } with
  | none=>none
  | some sF=>match sF.tm.get m.tc with
   | some (.bool false)=>some (.exit m.k,⟨sF.tm,putH sF.hp (st.hp.del m.idI) fp,sF.nx,sF.df⟩)
   | _=>none
noncomputable def mapD (og:List Oper→List Oper→St→Option St) (cg:Code→St→Option (Ex×St)) (m:MLoop) (st:St) (fp:List Nat):Option (Ex×St) :=
 mapE og cg m st fp (famS st fp (famM og cg m st fp ((List.range (2 ^ m.es.length)).drop 1) .leaf))
noncomputable def mapA (nt:Nat) (og:List Oper→List Oper→St→Option St) (cg:Code→St→Option (Ex×St)) (c:Code) (st:St):Option (Ex×St) :=
 match mloopOf nt st c with
 | none=>none
 | some m=>mapD og cg m st ((mapsIn st.tm++(fnsIn st.hp st.tm++idsE m.es)).filter fun i=>!Nat.beq i m.idI&&!Nat.beq i m.idm)
theorem stwB_ok {fp:List Nat} {s t:St} (h:stwB fp s t=true) (hfp:∀ i x,t.hp.get i=some x→i∈fp):StW s t:=by
 unfold stwB at h
 simp only [Bool.and_eq_true] at h
 obtain⟨⟨⟨h1,h2⟩,h3⟩,h4,h5⟩:=h
 refine⟨fun x v hx=>?_,fun i x hx=>?_,Nat.le_of_ble_eq_true h3,?_⟩
 ·have:=T.allB_ok h4 x v hx
  split at this
  ·next v' hv=>rw [hv,AV.same_eq this]
  ·simp at this
 ·have:=List.all_eq_true.1 h5 i (hfp i x hx)
  rw [hx] at this
  simp only at this
  split at this
  ·next y hy=>exact⟨y,hy,obwB_ok this⟩
  ·simp at this
 ·cases h6:s.df with
  | nil=>cases h7:t.df with
   | nil=>rfl
   | cons _ _=>rw [h7] at h2;simp [nilB] at h2
  | cons _ _=>rw [h6] at h1;simp [nilB] at h1
theorem famS_tm (st:St) (fp:List Nat) (FT:T (T Obj×Nat)) (mask:Nat):(famS st fp FT mask).tm=st.tm∧(famS st fp FT mask).df=st.df:=by
 unfold famS
 split
 ·exact⟨rfl,rfl⟩
 ·split<;>exact⟨rfl,rfl⟩
theorem famS_hp {st:St} {fp:List Nat} {FT:T (T Obj×Nat)} {mask i:Nat} {x:Obj} (h:(famS st fp FT mask).hp.get i=some x):i∈fp:=by
 unfold famS at h
 split at h
 ·exact(keepH_get h).1
 ·split at h
  ·exact(keepH_get h).1
  ·cases h
section
variable {P:Program} {C:Ctx} {nt:Nat} {rd:Option Nat}
theorem drawT_ok (hC:CtxOk P C) (hm:P.follows .mixedOrders=true) {call:CallF} (hc:CallSound P C call) {id:Nat} {ops:Array Oper} {st st':St} (h:drawT C call nt ops.toList st=some st') :
  CodeOK P C nt rd (.region id ops true) st .normal st':=by
 unfold drawT at h
 split at h
 ·simp at h
 ·next pre ix s1 s2 hs =>
  split at h
  ·next d t1 x1 y1 t2 x2 y2 hd ho1 ho2 =>
   split at h
   ·next st1 hB hD =>
    split at h
    ·next v hv =>
     split at h
     ·next r1 hr1 =>
      split at h
      ·next r2 i1 f1 i2 f2 hr2 he1 he2 =>
       split at h
       ·next hne =>
        simp only [Option.some.injEq] at h;subst h
        simp only [tailB,Bool.and_eq_true,Bool.not_eq_true'] at hB
        obtain⟨⟨⟨⟨⟨⟨⟨⟨⟨⟨⟨⟨⟨⟨⟨b1,b2⟩,b3⟩,b4⟩,b5⟩,b6⟩,b7⟩,b8⟩,b9⟩,b10⟩,b11⟩,b12⟩,b13⟩,b14⟩,b15⟩,b16⟩:=hB
        have nn:∀ {α:Type} {o:Option α},noneB o=true→o=none:=fun {α o} q=>by cases o with|none=>rfl|some _=>simp [noneB] at q
        obtain⟨g1,g2⟩:=preB_ok b1
        obtain⟨R,m,c,M,N,G,hDo,_⟩:=drawA_ok (ops:=pre.toArray) hC hc (by simpa using hD)
        refine CodeOK.tail hC hm (pre:=pre) (d:=d) ⟨split3_eq hs,g1,nn b2,nn b3,nn b4,hd,nn b5,nn b6,by simpa [Nat.blt_eq] using b7,b8,b9,b10,b11,b12,b13,fun i o ho=>by have:=g2 i o ho;rwa [Nat.zero_add] at this⟩ hDo b14 hv ho1 ho2 b15 b16 hr1 hr2 he1 he2 ?_
        intro q;subst q;simp at hne
       ·simp at h
      ·simp at h
     ·simp at h
    ·simp at h
   ·simp at h
  ·simp at h
theorem roundM_ok {og:List Oper→List Oper→St→Option St} (hog:∀ ops l s s',og ops l s=some s'→OpsR P C nt rd.isSome ops l s s') {cg:Code→St→Option (Ex×St)} (hcg:∀ c s r,cg c s=some r→CodeOK P C nt rd c s r.1 r.2)
  {m:MLoop} {e:AV×AV} {s s3:St} (h:roundM og cg m e s=some s3):∃ s1 s2 ex,
  OpsR P C nt rd.isSome m.ops3 m.l3 { s with tm:=s.tm.set m.dn (.tup [.bool true,e.1,e.2]) } s1∧s1.tm.get m.tc=some (.bool true)∧s1.tm.get m.itx=some (.it m.idI) ∧
  OpsR P C nt rd.isSome m.ops4 m.l4 { s1 with tm:=s1.tm.set m.de (.tup [e.1,e.2]) } s2∧CodeOK P C nt rd m.rest s2 ex s3∧(ex=.normal∨ex=.exit m.j):=by
 unfold roundM at h
 split at h
 ·simp at h
 ·next s1 h1 =>
  split at h
  ·next i hb hi =>
   split at h
   ·next s2 hi2 h2 =>
    rw [Nat.eq_of_beq_eq_true hi2] at hi
    split at h
    ·next s3' h3 =>
     simp only [Option.some.injEq] at h;subst h
     exact⟨s1,s2,.normal,hog _ _ _ _ h1,hb,hi,hog _ _ _ _ h2,hcg _ _ _ h3,.inl rfl⟩
    ·next j s3' h3 =>
     split at h
     ·next hj =>
      simp only [Option.some.injEq] at h;subst h
      rw [Nat.eq_of_beq_eq_true hj] at h3
      exact⟨s1,s2,.exit m.j,hog _ _ _ _ h1,hb,hi,hog _ _ _ _ h2,hcg _ _ _ h3,.inr rfl⟩
     ·simp at h
    ·simp at h
   ·simp at h
  ·simp at h
theorem checkM_ok {og:List Oper→List Oper→St→Option St} {cg:Code→St→Option (Ex×St)} {m:MLoop} {fp:List Nat} {S:Nat→St} {mask:Nat}:∀ {l:List (AV×AV)} {k:Nat},checkM og cg m fp S mask k l=true →
  ∀ i e,l[i]?=some e→mask.testBit (k+i)=false→∃ s3,roundM og cg m e (S mask)=some s3∧stwB fp s3 (S (mask ||| 2 ^ (k+i)))=true
 | [],_,_,i,e,he,_=>by simp at he
 | x::l,k,h,i,e,he,hb=>by
  unfold checkM at h
  split at h
  ·next hk =>
   cases i with
   | zero=>rw [Nat.add_zero,hk] at hb;cases hb
   | succ i =>
    simp at he
    have:=checkM_ok h i e he (by rw [show k+1+i=k+(i+1) by omega];exact hb)
    rwa [show k+1+i=k+(i+1) by omega] at this
  ·split at h
   ·next s3 hs =>
    split at h
    ·next hst =>
     cases i with
     | zero=>simp at he;subst he;exact⟨s3,hs,hst⟩
     | succ i =>
      simp at he
      have:=checkM_ok h i e he (by rw [show k+1+i=k+(i+1) by omega];exact hb)
      rwa [show k+1+i=k+(i+1) by omega] at this
    ·simp at h
   ·simp at h
theorem mapA_ok {og:List Oper→List Oper→St→Option St} (hog:∀ ops l s s',og ops l s=some s'→OpsR P C nt rd.isSome ops l s s') {cg:Code→St→Option (Ex×St)} (hcg:∀ c s r,cg c s=some r→CodeOK P C nt rd c s r.1 r.2)
  {c:Code} {st:St} {r:Ex×St} (h:mapA nt og cg c st=some r):CodeOK P C nt rd (.loop c) st r.1 r.2:=by
 unfold mapA at h
 split at h
 ·simp at h
 ·next m hm =>
  unfold mapD mapE at h
  generalize hfp:((mapsIn st.tm++(fnsIn st.hp st.tm++idsE m.es)).filter fun i=>!Nat.beq i m.idI&&!Nat.beq i m.idm)=fp at h
  generalize famM og cg m st fp ((List.range (2 ^ m.es.length)).drop 1) .leaf=FT at h
  have hnI:m.idI ∉ fp:=fun q=>by rw [← hfp,List.mem_filter] at q;simp at q
  have hnm:m.idm ∉ fp:=fun q=>by rw [← hfp,List.mem_filter] at q;simp at q
  split at h
  ·simp at h
  ·next hall =>
   split at h
   ·simp at h
   ·next sF hsF =>
    split at h
    ·next htc =>
     simp only [Option.some.injEq] at h;subst h
     unfold mloopOf at hm
     split at hm
     ·next i3 ops3 tc k j i4 ops4 rest =>
      split at hm
      ·next o0 l3 e0 l4 e3 e4 =>
       split at hm
       ·next itx dn ity de q1 q2 q3 q4 q5 q6 =>
        split at hm
        ·next idI p1 p2 p3 p4 =>
         split at hm
         ·next idm clk p5 =>
          split at hm
          ·next es clk' p6 =>
           split at hm
           ·next p7 =>
            simp only [Option.some.injEq] at hm
            have:=Nat.eq_of_beq_eq_true p1;subst this
            have:=Nat.eq_of_beq_eq_true p7;subst this
            subst hm
            simp only at *
            let E:Hp:=fun i=>if i∈fp then none else if i=idI then some .any else st.hp.get i
            have D:MapLoop P C nt rd st ops3 ops4 o0 e0 l3 l4 rest j tc itx dn de idI idm clk es (famS st fp FT) E sF:={
             eq3:=e3,eq4:=e4,o0op:=q1,o0d:=q2,o0g:=q3,e0op:=q4,e0d:=q5,e0g:=q6
             dnlt:=by simpa [Nat.blt_eq] using p2
             delt:=by simpa [Nat.blt_eq] using p3
             it:=p5,mp:=p6
             Eit:=by simp [E,hnI]
             Emp:=by
              have:idm≠idI:=fun q=>by subst q;rw [p5] at p6;cases p6
              simp [E,hnm,this,p6]
             Edis:=fun mask i x _ hE=>by
              cases hS:(famS st fp FT mask).hp.get i with
              | none=>rfl
              | some y=>have:=famS_hp hS;simp [E,this] at hE
             start:=fun i x hx=>by
              by_cases hi:i∈fp
              ·rw [un_none (by simp [E,hi])] at hx
               exact⟨x,(keepH_get hx).2,.refl _⟩
              ·by_cases hI:i=idI
               ·subst hI
                rw [un_some (x:=.any) (by simp [E,hi])] at hx
                cases hx
                exact⟨_,p5,.any _ _ _⟩
               ·have hE:E i=st.hp.get i:=by simp [E,hi,hI]
                cases hg:st.hp.get i with
                | none =>
                 rw [un_none (by rw [hE,hg])] at hx
                 exact(hi (famS_hp (mask:=0) hx)).elim
                | some y =>
                 rw [un_some (x:=y) (by rw [hE,hg])] at hx
                 cases hx;exact⟨_,rfl,.refl _⟩
             stm:=fun x v hx=>by rwa [(famS_tm st fp FT 0).1] at hx
             snx:=Nat.le_refl _
             sdf:=fun mask _=>(famS_tm st fp FT mask).2
             itm:=fun mask _=>by rw [(famS_tm st fp FT mask).1];exact p4
             round:=fun mask i e hmk he hb=>by
              have h1:=List.all_eq_true.1 hall mask (List.mem_range.2 hmk)
              obtain⟨s3,h2,h3⟩:=checkM_ok h1 i e he (by rwa [Nat.zero_add])
              rw [Nat.zero_add] at h3
              obtain⟨s1,s2,ex,g1,g2,g3,g4,g5,g6⟩:=roundM_ok hog hcg h2
              refine⟨s1,s2,s3,ex,?_,g2,g3,?_,g5,g6,stwB_ok h3 fun i x hx=>famS_hp hx⟩
              ·rw [e3];exact g1
              ·rw [e4];exact g4
             last:=⟨by rw [e3];exact hog _ _ _ _ hsF,htc⟩ }
            refine CodeOK.mapLoop D rfl (fun i x hx=>?_) rfl rfl
            simp only [putH_get] at hx
            by_cases hi:i∈fp
            ·rw [if_pos hi] at hx
             rw [un_none (by simp [E,hi])];exact hx
            ·rw [if_neg hi,T.get_del] at hx
             split at hx
             ·cases hx
             ·next hI=>exact un_some (by simp [E,hi,Ne.symm hI,hx])
           ·simp at hm
          ·simp at hm
         ·simp at hm
        ·simp at hm
       ·simp at hm
      ·simp at hm
     ·simp at hm
    ·simp at h
end
noncomputable def loopA (f:St→Option (Ex×St)):Nat→St→Option (Ex×St)
 | 0,_=>none
 | k+1,st=>match f st with
  | none=>none
  | some r=>match r.1 with
   | .normal=>loopA f k r.2
   | _=>some r
noncomputable def jumpA (f:St→Option (Ex×St)) (l:Nat):Nat→St→Option (Ex×St)
 | 0,_=>none
 | k+1,st=>match f st with
  | none=>none
  | some r=>match r.1 with
   | .goto l'=>match Nat.beq l' l with|true=>jumpA f l k r.2|false=>none
   | _=>some r
noncomputable def optNone {α:Type}:Option α→Bool
 | none=>true
 | some _=>false
def stReady:LoopState→Bool
 | .ready=>true
 | _=>false
def stBusy:LoopState→Bool
 | .busy=>true
 | _=>false
def exOf:Option Code→Option Ex
 | none=>some .normal
 | some (.exit id)=>some (.exit id)
 | some (.goto l)=>some (.goto l)
 | some .ret=>some .ret
 | _=>none
noncomputable def rangeA (C:Ctx) (call:CallF) (nt:Nat) (rd:Option Nat) (g:Operand) (ps:List Nat) (assign body:Code) (st:St):Option (Ex×St) :=
 match ev C st.tm g with
 | some (.fn (.func f) first cap)=>match rd with
  | none=>match call (.fn f) (first++[.yld (st.nx+1)]++cap) ((st.hp.set st.nx .dfr).set (st.nx+1) (.loop .ready none st.tm nt ps assign body st.nx)) (st.nx+2) with
   | none=>none
   | some r=>match r.hp.get (st.nx+1) with
    | some (.loop s2 pend _ _ _ _ _ _)=>match stBusy s2,exOf pend with
     | false,some e=>some (e,⟨st.tm,r.hp.del (st.nx+1),r.nx,.mark st.nx::st.df⟩)
     | _,_=>none
    | _=>none
  | some idr=>match st.hp.get idr with
   | some (.loop _ _ _ _ _ _ _ df0)=>match call (.fn f) (first++[.yld st.nx]++cap) (st.hp.set st.nx (.loop .ready none st.tm nt ps assign body df0)) (st.nx+1) with
    | none=>none
    | some r=>match r.hp.get st.nx with
     | some (.loop s2 pend _ _ _ _ _ _)=>match stBusy s2,exOf pend with
      | false,some e=>some (e,⟨st.tm,r.hp.del st.nx,r.nx,st.df⟩)
      | _,_=>none
     | _=>none
   | _=>none
 | _=>none
noncomputable def codeA (C:Ctx) (call:CallF) (nt:Nat) (rd:Option Nat) (n:Nat):Code→St→Option (Ex×St) :=
 Nat.rec (motive:=fun _=>Code→St→Option (Ex×St)) (fun _ _=>none) (fun n ih c st=>match c with
  | .skip=>some (.normal,st)
  | .label _=>some (.normal,st)
  | .region _ ops draw=>match draw with
   | false=>match opsA C call nt rd.isSome ops.toList ops.toList st with
    | some st'=>some (.normal,st')
    | none=>none
   | true=>match drawA C call nt ops.toList st with
    | some st'=>some (.normal,st')
    | none=>match drawT C call nt ops.toList st with
     | some st'=>some (.normal,st')
     | none=>none
  | .seq a b=>match ih a st with
   | none=>none
   | some r=>match r.1 with
    | .normal=>ih b r.2
    | _=>some r
  | .cond c a b=>match ev C st.tm c with
   | some (.bool t)=>ih (bif t then a else b) st
   | _=>none
  | .block id c=>match ih c st with
   | none=>none
   | some r=>match r.1 with
    | .exit i=>match Nat.beq i id with
     | true=>some (.normal,r.2)
     | false=>some r
    | _=>some r
  | .loop c=>match loopA (ih c) n st with
   | some r=>some r
   | none=>mapA nt (opsA C call nt rd.isSome) ih c st
  | .scope c=>match rd with
   | some _=>none
   | none=>match ih c st with
    | none=>none
    | some r=>match r.1 with
     | .goto l=>match findLabel c l with
      | some rest=>match jumpA (ih rest) l n r.2 with
       | some r2=>match r2.1 with|.goto _=>none|_=>some r2
       | none=>none
      | none=>none
     | _=>some r
  | .exit id=>some (.exit id,st)
  | .goto l=>some (.goto l,st)
  | .ret=>some (.ret,st)
  | .rangeFunc g ps assign body=>rangeA C call nt rd g ps.toList assign body st
  | _=>none) n
noncomputable def recB (nt:Nat) (o:Oper):Bool:=match o.op,o.guard,dstB nt o.dst with
 | .call c',none,true=>match c'.callee with|.builtin .recover=>true|_=>false
 | _,_,_=>false
noncomputable def codeD (C:Ctx) (call:CallF) (nt:Nat) (n:Nat):Nat→Code→St→Option (Ex×St)
 | 0,_,_=>none
 | k+1,c,st=>match c with
  | .seq a b=>match codeD C call nt n k a st with
   | none=>none
   | some r=>match r.1 with
    | .normal=>codeD C call nt n k b r.2
    | _=>some r
  | .region id ops false=>match ops with
   | ⟨[o]⟩=>match o.op,o.guard,dstB nt o.dst with
    | .call c',none,true=>match c'.callee with
     | .builtin .recover=>some (.normal,{ st with tm:=putT st.tm o.dst .nif })
     | _=>codeA C call nt none n (.region id ⟨[o]⟩ false) st
    | _,_,_=>codeA C call nt none n (.region id ⟨[o]⟩ false) st
   | ⟨[o,p]⟩=>match recB nt o,p.op,p.guard,dstB nt p.dst with
    | true,.assign x,none,true=>match ev C (putT st.tm o.dst .nif) x with
     | some v=>some (.normal,{ st with tm:=putT (putT st.tm o.dst .nif) p.dst v })
     | none=>none
    | _,_,_,_=>codeA C call nt none n (.region id ⟨[o,p]⟩ false) st
   | ops=>codeA C call nt none n (.region id ops false) st
  | c=>codeA C call nt none n c st
noncomputable def resA (C:Ctx) (st:St):List ResultVar→Option (List AV)
 | []=>some []
 | .tmp t::l=>match st.tm.get t,resA C st l with
  | some v,some r=>some (v::r)
  | _,_=>none
 | .cell a t::l=>match st.tm.get a,C.tt.get t with
  | some av,some ti=>match loadT ti st.hp av,resA C st l with
   | some v,some r=>some (v::r)
   | _,_=>none
  | _,_=>none
def retA:List AV→AV
 | [v]=>v
 | l=>.tup l
noncomputable def argA:List AV→Nat→T AV→T AV
 | [],_,t=>t
 | x::l,i,t=>argA l (i+1) (t.set i x)
def maxA (a b:Nat):Nat:=match Nat.ble a b with|true=>b|false=>a
noncomputable def exEnd:Ex→Bool
 | .normal|.ret=>true
 | _=>false
noncomputable def dcallA (C:Ctx) (call:CallF) (n:Nat) (f:FuncId) (args:List AV) (hp:T Obj) (nx:Nat):Option (T Obj×Nat) :=
 match C.ft.get f with
 | none=>none
 | some fn=>match fn.body with
  | none=>none
  | some body=>match codeD C call (maxA args.length fn.ntmps) n n body ⟨argA args 0 .leaf,hp,nx,[]⟩ with
   | none=>none
   | some r=>match exEnd r.1,r.2.df,resA C r.2 fn.results.toList,Nat.ble nx r.2.nx with
    | true,[],some _,true=>some (r.2.hp,r.2.nx)
    | _,_,_,_=>none
noncomputable def leaveA (C:Ctx) (call:CallF) (n:Nat):List DA→T Obj→Nat→Option (T Obj×Nat)
 | [],hp,nx=>some (hp,nx)
 | .mark id::ds,hp,nx=>match hp.get id with
  | some .dfr=>leaveA C call n ds (hp.del id) nx
  | _=>none
 | .call f args cap::ds,hp,nx=>match dcallA C call n f (args++cap) hp nx with
  | some r=>leaveA C call n ds r.1 r.2
  | none=>none
noncomputable def bodyA (C:Ctx) (call:CallF) (n:Nat) (f:FuncId) (args:List AV) (hp:T Obj) (nx:Nat):Option R3 :=
 match C.ft.get f with
 | none=>none
 | some fn=>match fn.body with
  | none=>none
  | some body=>match codeA C call (maxA args.length fn.ntmps) none n body ⟨argA args 0 .leaf,hp,nx,[]⟩ with
   | none=>none
   | some r=>match exEnd r.1 with
    | false=>none
    | true=>match leaveA C call n r.2.df r.2.hp r.2.nx with
     | none=>none
     | some q=>match resA C ⟨r.2.tm,q.1,q.2,[]⟩ fn.results.toList with
      | none=>none
      | some vs=>match Nat.ble nx q.2 with
       | true=>some ⟨retA vs,q.1,q.2⟩
       | false=>none
noncomputable def yieldA (C:Ctx) (call:CallF) (n:Nat) (id:Nat) (args:List AV) (hp:T Obj) (nx:Nat):Option R3 :=
 match hp.get id with
 | some (.loop s _ tm nt ps assign body _)=>match stReady s,Nat.beq args.length ps.length,ps.all (fun p=>Nat.blt p nt) with
  | true,true,true=>match codeA C call nt (some id) n assign ⟨putsA tm ps args,hp,nx,[]⟩ with
   | some (.normal,st1)=>match st1.hp.get id with
    | some (.loop s1 p1 tm1 nt1 ps1 as1 bd1 df1)=>match stReady s1 with
     | true=>match codeA C call nt (some id) n body ⟨st1.tm,st1.hp.set id (.loop .busy p1 tm1 nt1 ps1 as1 bd1 df1),st1.nx,st1.df⟩ with
      | some r=>match r.2.hp.get id with
       | some (.loop _ _ tm2 nt2 ps2 as2 bd2 df2)=>match Nat.ble nx r.2.nx with
        | true=>some ⟨.bool (optNone r.1.jump),r.2.hp.set id (.loop (match r.1.jump with|none=>.ready|some _=>.done) r.1.jump tm2 nt2 ps2 as2 bd2 df2),r.2.nx⟩
        | false=>none
       | _=>none
      | none=>none
     | false=>none
    | _=>none
   | _=>none
  | _,_,_=>none
 | _=>none
abbrev Prim:=T (List AV→T Obj→Nat→Option R3)
structure ProgOk (P:Program) (C:Ctx):Prop where
 ctx:CtxOk P C
 mixed:P.follows .mixedOrders=true
 ft:∀ f fn,C.ft.get f=some fn→P.funcs[f]?=some fn∧Enters P f
def PrimOk (P:Program) (C:Ctx) (pr:Prim):Prop:=∀ f g,pr.get f=some g→Enters P f∧∀ args hp nx r,g args hp nx=some r→nx≤r.nx∧CallOK P C f args hp.get nx r.v r.hp.get r.nx
section
variable {P:Program} {C:Ctx} {call:CallF} {nt:Nat}
theorem loopA_ok {rd:Option Nat} {c:Code} {f:St→Option (Ex×St)} (hf:∀ st r,f st=some r→CodeOK P C nt rd c st r.1 r.2):∀ {k:Nat} {st:St} {r:Ex×St},loopA f k st=some r→∃ n,Rounds P C nt rd c .normal r.1 r.2 n st:=by
 intro k
 induction k with
 | zero=>intro st r h;simp [loopA] at h
 | succ k ih =>
  intro st r h
  unfold loopA at h
  split at h
  ·simp at h
  ·next r1 hr1 =>
   have h1:=hf _ _ hr1
   split at h
   ·next he =>
    obtain⟨n,hn⟩:=ih h
    rw [he] at h1
    exact⟨n+1,.round h1 hn⟩
   ·next he=>simp only [Option.some.injEq] at h;subst h;exact⟨0,.stop he h1⟩
theorem jumpA_ok {rd:Option Nat} {c:Code} {l:Nat} {f:St→Option (Ex×St)} (hf:∀ st r,f st=some r→CodeOK P C nt rd c st r.1 r.2):∀ {k:Nat} {st:St} {r:Ex×St},jumpA f l k st=some r→(∀ i,r.1≠.goto i)∧∃ n,Rounds P C nt rd c (.goto l) r.1 r.2 n st:=by
 intro k
 induction k with
 | zero=>intro st r h;simp [jumpA] at h
 | succ k ih =>
  intro st r h
  unfold jumpA at h
  split at h
  ·simp at h
  ·next r1 hr1 =>
   have h1:=hf _ _ hr1
   split at h
   ·next l' he =>
    split at h
    ·next hl =>
     have:=Nat.eq_of_beq_eq_true hl;subst this
     obtain⟨h2,n,hn⟩:=ih h
     rw [he] at h1
     exact⟨h2,n+1,.round h1 hn⟩
    ·simp at h
   ·next he=>simp only [Option.some.injEq] at h;subst h;exact⟨fun i q=>he i q,0,.stop (fun q=>he l q) h1⟩
theorem exOf_jump {p:Option Code} {e:Ex} (h:exOf p=some e):p=e.jump:=by
 unfold exOf at h
 split at h<;>first|(simp only [Option.some.injEq] at h;subst h;rfl)|simp at h
theorem stBusy_ne {s:LoopState} (h:stBusy s=false):s≠.busy:=by intro q;subst q;simp [stBusy] at h
theorem stReady_eq {s:LoopState} (h:stReady s=true):s=.ready:=by cases s<;>simp [stReady] at h;rfl
theorem optNone_eq {α:Type} (o:Option α):optNone o=o.isNone:=by cases o<;>rfl
theorem rangeA_ok (hc:CallSound P C call) {rd:Option Nat} {g:Operand} {ps:Array Tmp} {assign body:Code} {st:St} {r:Ex×St} (h:rangeA C call nt rd g ps.toList assign body st=some r) :
  CodeOK P C nt rd (.rangeFunc g ps assign body) st r.1 r.2:=by
 unfold rangeA at h
 split at h
 ·next f first cap hg =>
  split at h
  ·split at h
   ·simp at h
   ·next r1 hr1 =>
    obtain⟨_,h1,h2⟩:=hc _ _ _ _ _ hr1
    split at h
    ·next s2 pend tm2 nt2 ps2 as2 bd2 df2 hl =>
     split at h
     ·next e hb he =>
      simp only [Option.some.injEq] at h;subst h
      rw [exOf_jump he] at hl
      exact .range0 hg h1 h2 hl (stBusy_ne hb)
     ·simp at h
    ·simp at h
  ·next idr =>
   split at h
   ·next df0 h0 =>
    split at h
    ·simp at h
    ·next r1 hr1 =>
     obtain⟨_,h1,h2⟩:=hc _ _ _ _ _ hr1
     split at h
     ·next s2 pend tm2 nt2 ps2 as2 bd2 df2 hl =>
      split at h
      ·next e hb he =>
       simp only [Option.some.injEq] at h;subst h
       rw [exOf_jump he] at hl
       exact .range1 h0 hg h1 h2 hl (stBusy_ne hb)
      ·simp at h
     ·simp at h
   ·simp at h
 ·simp at h
theorem codeA_succ (C:Ctx) (call:CallF) (nt:Nat) (rd:Option Nat) (n:Nat) (c:Code) (st:St):codeA C call nt rd (n+1) c st=match c with
  | .skip=>some (.normal,st)
  | .label _=>some (.normal,st)
  | .region _ ops draw=>match draw with
   | false=>match opsA C call nt rd.isSome ops.toList ops.toList st with
    | some st'=>some (.normal,st')
    | none=>none
   | true=>match drawA C call nt ops.toList st with
    | some st'=>some (.normal,st')
    | none=>match drawT C call nt ops.toList st with
     | some st'=>some (.normal,st')
     | none=>none
  | .seq a b=>match codeA C call nt rd n a st with
   | none=>none
   | some r=>match r.1 with
    | .normal=>codeA C call nt rd n b r.2
    | _=>some r
  | .cond c a b=>match ev C st.tm c with
   | some (.bool t)=>codeA C call nt rd n (bif t then a else b) st
   | _=>none
  | .block id c=>match codeA C call nt rd n c st with
   | none=>none
   | some r=>match r.1 with
    | .exit i=>match Nat.beq i id with
     | true=>some (.normal,r.2)
     | false=>some r
    | _=>some r
  | .loop c=>match loopA (codeA C call nt rd n c) n st with
   | some r=>some r
   | none=>mapA nt (opsA C call nt rd.isSome) (codeA C call nt rd n) c st
  | .scope c=>match rd with
   | some _=>none
   | none=>match codeA C call nt none n c st with
    | none=>none
    | some r=>match r.1 with
     | .goto l=>match findLabel c l with
      | some rest=>match jumpA (codeA C call nt none n rest) l n r.2 with
       | some r2=>match r2.1 with|.goto _=>none|_=>some r2
       | none=>none
      | none=>none
     | _=>some r
  | .exit id=>some (.exit id,st)
  | .goto l=>some (.goto l,st)
  | .ret=>some (.ret,st)
  | .rangeFunc g ps assign body=>rangeA C call nt rd g ps.toList assign body st
  | _=>none:=by
 cases c<;>first|rfl|(cases rd<;>rfl)
theorem codeA_ok (hP:ProgOk P C) (hc:CallSound P C call) {rd:Option Nat}:∀ {n:Nat} {c:Code} {st:St} {r:Ex×St},codeA C call nt rd n c st=some r→CodeOK P C nt rd c st r.1 r.2:=by
 intro n
 induction n generalizing rd with
 | zero=>intro c st r h;simp [codeA] at h
 | succ n ih =>
  intro c st r h
  rw [codeA_succ] at h
  split at h
  ·simp only [Option.some.injEq] at h;subst h;exact .skip st
  ·simp only [Option.some.injEq] at h;subst h;exact .label _ st
  ·split at h
   ·split at h
    ·next st' hs=>simp only [Option.some.injEq] at h;subst h;exact .region (opsA_ok hP.ctx hc hs).2
    ·simp at h
   ·split at h
    ·next st' hs =>
     simp only [Option.some.injEq] at h;subst h
     obtain⟨R,m,c,M,N,G,hD,_⟩:=drawA_ok hP.ctx hc hs
     exact .draw hP.ctx hP.mixed hD
    ·split at h
     ·next st' hs=>simp only [Option.some.injEq] at h;subst h;exact drawT_ok hP.ctx hP.mixed hc hs
     ·simp at h
  ·split at h
   ·simp at h
   ·next r1 hr1 =>
    have h1:=ih hr1
    split at h
    ·next he=>rw [he] at h1;exact h1.seq (ih h)
    ·next he=>simp only [Option.some.injEq] at h;subst h;exact .seq_out he h1
  ·split at h
   ·next t ht=>exact .cond ht (ih h)
   ·simp at h
  ·split at h
   ·simp at h
   ·next r1 hr1 =>
    have h1:=ih hr1
    split at h
    ·next i he =>
     rw [he] at h1
     split at h
     ·next hi=>simp only [Option.some.injEq] at h;subst h;rw [Nat.eq_of_beq_eq_true hi] at h1;exact .block_in h1
     ·next hi =>
      simp only [Option.some.injEq] at h;subst h
      rw [he]
      exact .block_out (fun q=>by subst q;simp at hi) h1
    ·next he=>simp only [Option.some.injEq] at h;subst h;exact .block (fun i q=>he i q) h1
  ·split at h
   ·next r' hl =>
    simp only [Option.some.injEq] at h;subst h
    obtain⟨k,hk⟩:=loopA_ok (fun st r hr=>ih hr) hl
    exact .loop hk
   ·exact mapA_ok (fun ops l s s' hs=>(opsA_ok hP.ctx hc hs).2) (fun c s r hr=>ih hr) h
  ·split at h
   ·simp at h
   ·split at h
    ·simp at h
    ·next r1 hr1 =>
     have h1:=ih hr1
     split at h
     ·next l he =>
      rw [he] at h1
      split at h
      ·next rest hf =>
       split at h
       ·next r2 hr2 =>
        split at h
        ·simp at h
        ·next hng =>
         simp only [Option.some.injEq] at h;subst h
         obtain⟨h2,k,hk⟩:=jumpA_ok (fun st r hr=>ih hr) hr2
         exact .jumps hf (fun l q=>hng l q) h1 hk
       ·simp at h
      ·simp at h
     ·next he=>simp only [Option.some.injEq] at h;subst h;exact .scope (fun l q=>he l q) h1
  ·simp only [Option.some.injEq] at h;subst h;exact .exit _ st
  ·simp only [Option.some.injEq] at h;subst h;exact .goto _ st
  ·simp only [Option.some.injEq] at h;subst h;exact .ret st
  ·exact rangeA_ok hc h
  ·simp at h
theorem recB_ok {nt:Nat} {o:Oper} (h:recB nt o=true):∃ c',o.op=.call c'∧c'.callee=.builtin .recover∧o.guard=none∧dstB nt o.dst=true:=by
 unfold recB at h
 split at h
 ·next c' h1 h2 h3 =>
  split at h
  ·next h4=>exact⟨c',h1,h4,h2,h3⟩
  ·simp at h
 ·simp at h
theorem codeD_ok (hP:ProgOk P C) (hc:CallSound P C call) {n:Nat}:∀ {k:Nat} {c:Code} {st:St} {r:Ex×St},codeD C call nt n k c st=some r→CodeDOK P C nt c st r.1 r.2:=by
 intro k
 induction k with
 | zero=>intro c st r h;simp [codeD] at h
 | succ k ih =>
  intro c st r h
  unfold codeD at h
  split at h
  ·split at h
   ·simp at h
   ·next r1 hr1 =>
    have h1:=ih hr1
    split at h
    ·next he=>rw [he] at h1;exact h1.seq (ih h)
    ·next he=>simp only [Option.some.injEq] at h;subst h;exact .seq_out he h1
  ·split at h
   ·next o =>
    split at h
    ·next c' ho hg hd =>
     split at h
     ·next hcal=>simp only [Option.some.injEq] at h;subst h;exact .recover ho hcal hg (dstB_ok hd)
     ·exact .lift (codeA_ok hP hc h)
    ·exact .lift (codeA_ok hP hc h)
   ·next o p =>
    split at h
    ·next x hr hp hpg hpd =>
     split at h
     ·next v hv =>
      simp only [Option.some.injEq] at h;subst h
      obtain⟨c',h1,h2,h3,h4⟩:=recB_ok hr
      exact .recover2 h1 h2 h3 (dstB_ok h4) hp hpg (dstB_ok hpd) hv
     ·simp at h
    ·exact .lift (codeA_ok hP hc h)
   ·exact .lift (codeA_ok hP hc h)
  ·exact .lift (codeA_ok hP hc h)
theorem ret_rel {φ:Phi} {l:List AV} {l':Array Value} (h:VRels φ l l'.toList):VRel φ (retA l) (if h:l'.size=1 then l'[0] else .tuple l'):=by
 have Hn:=h.length
 simp at Hn
 unfold retA
 split
 ·next v =>
  have h1:l'.size=1:=by simpa using Hn.symm
  rw [dif_pos h1]
  obtain⟨x',h2,h3⟩:=h.get 0 v rfl
  rw [Array.getElem?_toList,Array.getElem?_eq_getElem (by omega)] at h2
  cases h2;exact h3
 ·next hne =>
  rw [dif_neg]
  ·exact .tup h
  ·intro h1
   match l,Hn with
   | [v],_=>exact hne v rfl
   | [],h=>simp at h;omega
   | _::_::_,h=>simp at h;omega
def resOne (tmps:Array Value):ResultVar→Sem Value
 | .tmp t=>pure (tmps.getD t undef)
 | .cell b t=>do loadVar t (← asAddr (tmps.getD b undef))
theorem load_ptr {hp:T Obj} {nx:Nat} {w:World} {φ:Phi} (hr:Rel φ hp.get nx w) {t:Nat} {ti:TI} (ht:TIok P t ti) {v r:AV} {v':Value} (hv:VRel φ v v')
  (h:loadT ti hp v=some r):∃ r',VRel φ r r'∧(do loadVar t (← asAddr v'):Sem Value).run P w=.ok r' w:=by
 obtain⟨r',h1,h2⟩:=load_ok hr ht hv h
 refine⟨r',h1,?_⟩
 cases hv<;>first
  | (simp [loadT] at h;done)
  | (simp only [Instr.loadAt,Instr.sureAddr,Sem.run_bind,Sem.run_pure,Result.andThen_ok,asAddr] at h2 ⊢;exact h2)
theorem tmps_getD {φ:Phi} {tm:T AV} {tmps:Array Value} (h:TRel φ tm tmps) {t:Nat} {v:AV} (ht:tm.get t=some v):VRel φ v (tmps.getD t undef):=by
 obtain⟨v',h1,h2⟩:=h t v ht
 have:tmps.getD t undef=v':=by simp [Array.getD_eq_getD_getElem?,h1]
 rw [this];exact h2
theorem resA_ok (hC:CtxOk P C) {φ:Phi} {st:St} {a:Act} {w:World} (hl:Lies C nt φ st a w):∀ {rs:List ResultVar} {vs:List AV},resA C st rs=some vs →
  ∃ vs':List Value,VRels φ vs vs'∧(rs.mapM (resOne a.tmps)).run P w=.ok vs' w:=by
 intro rs
 induction rs with
 | nil=>intro vs h;simp only [resA,Option.some.injEq] at h;subst h;exact⟨[],.nil,rfl⟩
 | cons x rs ih =>
  intro vs h
  cases x with
  | tmp t =>
   simp only [resA] at h
   split at h
   ·next v r hv hr =>
    simp only [Option.some.injEq] at h;subst h
    obtain⟨vs',h1,h2⟩:=ih hr
    refine⟨_::vs',.cons (tmps_getD hl.tmps hv) h1,?_⟩
    rw [List.mapM_cons]
    simp only [resOne,Sem.run_bind,Sem.run_pure,Result.andThen_ok,h2]
   ·simp at h
  | cell b t =>
   simp only [resA] at h
   split at h
   ·next av ti hav hti =>
    split at h
    ·next v r hv hr =>
     simp only [Option.some.injEq] at h;subst h
     obtain⟨vs',h1,h2⟩:=ih hr
     obtain⟨r',h3,h4⟩:=load_ptr hl.rel (hC t ti hti) (tmps_getD hl.tmps hav) hv
     refine⟨r'::vs',.cons h3 h1,?_⟩
     rw [List.mapM_cons]
     rw [Sem.run_bind,show resOne a.tmps (.cell b t)=(do loadVar t (← asAddr (a.tmps.getD b undef)):Sem Value) from rfl,h4]
     simp only [Result.andThen_ok,Sem.run_bind,h2,Sem.run_pure]
    ·simp at h
   ·simp at h
theorem results_ok (hC:CtxOk P C) {φ:Phi} {st:St} {a:Act} {w:World} (hl:Lies C nt φ st a w) {fn:Func} {vs:List AV} (h:resA C st fn.results.toList=some vs) :
  ∃ v',VRel φ (retA vs) v'∧(results fn a.tmps).run P w=.ok v' w:=by
 obtain⟨vs',h1,h2⟩:=resA_ok hC hl h
 refine⟨_,ret_rel (l':=vs'.toArray) (by simpa using h1),?_⟩
 have:results fn a.tmps=(do
   let vs ← fn.results.mapM (resOne a.tmps)
   pure (if h:vs.size=1 then vs[0] else .tuple vs)):=by
  unfold results
  congr 1
 rw [this,Array.mapM_eq_mapM_toList]
 simp [h2]
theorem argA_get:∀ {l:List AV} {i:Nat} {t:T AV} {j:Nat},(argA l i t).get j=if i≤j∧j<i+l.length then l[j - i]? else t.get j:=by
 intro l
 induction l with
 | nil=>intro i t j;simp [argA];omega
 | cons x l ih =>
  intro i t j
  simp only [argA]
  rw [ih,T.get_set]
  by_cases h1:i+1≤j∧j<i+1+l.length
  ·rw [if_pos h1,if_pos (by simp;omega)]
   rw [show j - i=(j - (i+1))+1 by omega]
   simp
  ·rw [if_neg h1]
   by_cases h2:i=j
   ·subst h2
    rw [if_pos rfl,if_pos (by simp)]
    simp
   ·rw [if_neg h2,if_neg (by simp;omega)]
theorem args_rel {φ:Phi} {args:List AV} {args':Array Value} (h:VRels φ args args'.toList) (n:Nat):TRel φ (argA args 0 .leaf) (args'++Array.replicate n undef):=by
 intro t v hv
 rw [argA_get] at hv
 have Hn:=h.length
 split at hv
 ·next ht =>
  obtain⟨v',h1,h2⟩:=h.get (t - 0) v hv
  refine⟨v',?_,h2⟩
  simp at h1 Hn
  rw [Array.getElem?_append_left (by omega)]
  exact h1
 ·simp at hv
theorem frame0 {φ:Phi} {w:World} {H:T Obj} {nx:Nat} (hrel:Rel φ H.get nx w) (hg:BOk C φ H.get w) {args:List AV} {args':Array Value} (ha:VRels φ args args'.toList) (m:Nat) :
  Lies C (maxA args.length m) φ ⟨argA args 0 .leaf,H,nx,[]⟩ ⟨args'++Array.replicate (m - args'.size) undef,[]⟩ w:=by
 have Hn:=ha.length
 simp at Hn
 refine⟨hrel,hg,args_rel ha _,?_,.nil⟩
 simp [maxA]
 split
 ·next h=>have:=Nat.le_of_ble_eq_true h;omega
 ·next h=>have:¬ args.length≤m:=fun q=>by rw [Nat.ble_eq_true_of_le q] at h;simp at h
          omega
theorem CallOK.body {f:FuncId} {fn:Func} {body:Code} (hf:P.funcs[f]?=some fn) (hb:fn.body=some body) {args:List AV} {H:T Obj} {nx:Nat} {st':St} {e:Ex} (he:e=.normal∨e=.ret) {hp2:T Obj} {nx2:Nat}
  {vs:List AV} (hC:CtxOk P C) (hl:LeavesA P C st'.df st'.hp st'.nx hp2 nx2)
  (hr:resA C ⟨st'.tm,hp2,nx2,[]⟩ fn.results.toList=some vs) (h:CodeOK P C (maxA args.length fn.ntmps) none body ⟨argA args 0 .leaf,H,nx,[]⟩ e st') :
  CallOK P C f args H.get nx (retA vs) hp2.get nx2:=by
 intro φ w args' hrel hg ha
 refine calls_fw (r:=none) (n:=0) (callsIn_of_wp_marks hf hb trivial ?_)
 refine h φ _ w (frame0 hrel hg ha fn.ntmps) none 0 rfl _ fun φ' a' w' hl' hs=>?_
 have fin:LeavesInM (Fw none) 0 P fn a'.tmps (fun e w'=>∃ v' φ',e=.returned v'∧VRel φ' (retA vs) v'∧Rel φ' hp2.get nx2 w'∧Step φ H.get nx w φ' hp2.get nx2 w') a'.defers .returning w':=by
  refine leaves_ok hl hl'.rel hl'.glob hl'.defers fun φ2 w2 r2 s2=>?_
  obtain⟨v',h1,h2⟩:=results_ok (nt:=maxA args.length fn.ntmps) (st:=⟨st'.tm,hp2,nx2,[]⟩) (a:=⟨a'.tmps,[]⟩) hC ⟨r2,hl'.glob.step s2,hl'.tmps.mono s2.le,hl'.size,.nil⟩ hr
  exact⟨v',h2,v',φ2,rfl,h1,r2,hs.trans s2⟩
 rcases he with rfl|rfl<;>exact fin
theorem DCallOK.body {f:FuncId} {fn:Func} {body:Code} (hf:P.funcs[f]?=some fn) (hb:fn.body=some body) {args:List AV} {H:T Obj} {nx:Nat} {st':St} {e:Ex} (he:e=.normal∨e=.ret) (hd:st'.df=[])
  {vs:List AV} (hC:CtxOk P C) (hr:resA C st' fn.results.toList=some vs) (h:CodeDOK P C (maxA args.length fn.ntmps) body ⟨argA args 0 .leaf,H,nx,[]⟩ e st') :
  DCallOK P C f args H.get nx st'.hp.get st'.nx:=by
 intro φ w args' hrel hg ha n
 refine callsDIn_of_wpSIn hf hb trivial fun c₀ cs hm=>?_
 refine h φ _ w (frame0 hrel hg ha fn.ntmps) n c₀ cs hm _ fun φ' a' w' hl' hs=>?_
 obtain⟨v',h1,h2⟩:=results_ok hC hl' hr
 have hdf:a'.defers=[]:=by
  have:=hl'.defers
  rw [hd] at this
  generalize a'.defers=q at this
  cases this;rfl
 have hc:({ c₀ with mode:=.returning }:Frame)=c₀:=by rw [← hm]
 have fin:a'.defers=[]∧∃ u',c₀::cs={ c₀ with mode:=u' }::cs∧∃ v,(results fn a'.tmps).run P w'=.ok v w'∧(u'=.returning∧∃ v φ',Ending.returned v'=.returned v∧Rel φ' st'.hp.get st'.nx w'∧Step φ H.get nx w φ' st'.hp.get st'.nx w'):=by
  refine⟨hdf,.returning,by rw [hc],v',h2,rfl,v',φ',rfl,hl'.rel,hs⟩
 obtain⟨f1,u',f2,v,f3,f4,v2,φ2,f5⟩:=fin
 rcases he with rfl|rfl<;>exact⟨f1,u',f2,v',h2,f4,v',φ2,rfl,f5.2⟩
theorem exEnd_ok {e:Ex} (h:exEnd e=true):e=.normal∨e=.ret:=by cases e<;>simp [exEnd] at h<;>simp
theorem dcallA_ok (hP:ProgOk P C) (hc:CallSound P C call) {n:Nat} {f:FuncId} {args:List AV} {hp:T Obj} {nx:Nat} {r:T Obj×Nat} (h:dcallA C call n f args hp nx=some r) :
  Enters P f∧nx≤r.2∧DCallOK P C f args hp.get nx r.1.get r.2:=by
 unfold dcallA at h
 split at h
 ·simp at h
 ·next fn hft =>
  obtain⟨hf,hent⟩:=hP.ft f fn hft
  split at h
  ·simp at h
  ·next body hb =>
   split at h
   ·simp at h
   ·next r1 hr1 =>
    split at h
    ·next vs he hdf hvs hn =>
     simp only [Option.some.injEq] at h;subst h
     exact⟨hent,Nat.le_of_ble_eq_true hn,DCallOK.body hf hb (exEnd_ok he) hdf hP.ctx hvs (codeD_ok hP hc hr1)⟩
    ·simp at h
theorem leaveA_ok (hP:ProgOk P C) (hc:CallSound P C call) {n:Nat}:∀ {ds:List DA} {hp:T Obj} {nx:Nat} {r:T Obj×Nat},leaveA C call n ds hp nx=some r→nx≤r.2∧LeavesA P C ds hp nx r.1 r.2:=by
 intro ds
 induction ds with
 | nil=>intro hp nx r h;simp only [leaveA,Option.some.injEq] at h;subst h;exact⟨Nat.le_refl _,.nil _ _⟩
 | cons d ds ih =>
  intro hp nx r h
  cases d with
  | mark id =>
   simp only [leaveA] at h
   split at h
   ·next hd=>obtain⟨h1,h2⟩:=ih h;exact⟨h1,.mark hd h2⟩
   ·simp at h
  | call f args cap =>
   simp only [leaveA] at h
   split at h
   ·next r1 hr1 =>
    obtain⟨h1,h2⟩:=ih h
    obtain⟨h3,h4,h5⟩:=dcallA_ok hP hc hr1
    exact⟨Nat.le_trans h4 h1,.call h3 h5 h2⟩
   ·simp at h
theorem bodyA_ok (hP:ProgOk P C) (hc:CallSound P C call) {n:Nat} {f:FuncId} {args:List AV} {hp:T Obj} {nx:Nat} {r:R3} (h:bodyA C call n f args hp nx=some r) :
  Enters P f∧nx≤r.nx∧CallOK P C f args hp.get nx r.v r.hp.get r.nx:=by
 unfold bodyA at h
 split at h
 ·simp at h
 ·next fn hft =>
  obtain⟨hf,hent⟩:=hP.ft f fn hft
  split at h
  ·simp at h
  ·next body hb =>
   split at h
   ·simp at h
   ·next r1 hr1 =>
    split at h
    ·simp at h
    ·next he =>
     split at h
     ·simp at h
     ·next q hq =>
      split at h
      ·simp at h
      ·next vs hvs =>
       split at h
       ·next hn =>
        simp only [Option.some.injEq] at h;subst h
        exact⟨hent,Nat.le_of_ble_eq_true hn,CallOK.body hf hb (exEnd_ok he) hP.ctx (leaveA_ok hP hc hq).2 hvs (codeA_ok hP hc hr1)⟩
       ·simp at h
theorem yieldA_ok (hP:ProgOk P C) (hc:CallSound P C call) {n:Nat} {id:Nat} {args:List AV} {hp:T Obj} {nx:Nat} {r:R3} (h:yieldA C call n id args hp nx=some r) :
  nx≤r.nx∧YieldOK P C id args hp.get nx r.v r.hp.get r.nx:=by
 unfold yieldA at h
 split at h
 ·next s pend tm nt ps assign body df h0 =>
  split at h
  ·next hs Hn hlt =>
   split at h
   ·next st1 hst1 =>
    split at h
    ·next s1 p1 tm1 nt1 ps1 as1 bd1 df1 h1 =>
     split at h
     ·next hs1 =>
      split at h
      ·next r2 hr2 =>
       split at h
       ·next s2 p2 tm2 nt2 ps2 as2 bd2 df2 h2 =>
        split at h
        ·next hn =>
         simp only [Option.some.injEq] at h;subst h
         rw [stReady_eq hs] at h0
         rw [stReady_eq hs1] at h1
         refine⟨Nat.le_of_ble_eq_true hn,?_⟩
         rw [optNone_eq]
         exact YieldOK.round h0 (Nat.eq_of_beq_eq_true Hn) (fun p hp=>by simpa [Nat.blt_eq] using List.all_eq_true.1 hlt p hp) (codeA_ok hP hc hst1) h1 (codeA_ok hP hc hr2) h2
        ·simp at h
       ·simp at h
      ·simp at h
     ·simp at h
    ·simp at h
   ·simp at h
  ·simp at h
 ·simp at h
end
def AllAt {α:Type} (p:Nat→α→Prop):T α→(Nat→Nat)→Prop
 | .leaf,_=>True
 | .node l v r,g=>(∀ x,v=some x→p (g 0) x)∧AllAt p l (fun n=>g (2*n+1))∧AllAt p r (fun n=>g (2*n+2))
theorem AllAt.get {α:Type} {p:Nat→α→Prop}:∀ {t:T α} {g:Nat→Nat},AllAt p t g→∀ i x,t.get i=some x→p (g i) x
 | .leaf,_,_,i,x,h=>by simp at h
 | .node l v r,g,⟨h1,h2,h3⟩,i,x,h=>by
  cases i with
  | zero=>exact h1 x h
  | succ n =>
   rw [T.get_succ] at h
   split at h
   ·next hn =>
    have:=h2.get _ x h
    rwa [show 2*(n / 2)+1=n+1 by omega] at this
   ·next hn =>
    have:=h3.get _ x h
    rwa [show 2*(n / 2)+2=n+1 by omega] at this
theorem AllAt.nil {α:Type} {p:Nat→α→Prop} {g:Nat→Nat}:AllAt p .leaf g:=trivial
theorem AllAt.one {α:Type} {p:Nat→α→Prop} {g:Nat→Nat} {l r:T α} {x:α} (i:Nat) (hi:g 0=i) (h:p i x) (hl:AllAt p l (fun n=>g (2*n+1))) (hr:AllAt p r (fun n=>g (2*n+2))):AllAt p (.node l (some x) r) g :=
 ⟨fun y hy=>by cases hy;rw [hi];exact h,hl,hr⟩
theorem AllAt.o {α:Type} {p:Nat→α→Prop} {g:Nat→Nat} {l r:T α} {x:α} {i:Nat} (h:p i x) (hl:AllAt p l (fun n=>g (2*n+1))) (hr:AllAt p r (fun n=>g (2*n+2))) (hi:g 0=i:=by exact rfl):AllAt p (.node l (some x) r) g :=
 .one i hi h hl hr
theorem AllAt.none {α:Type} {p:Nat→α→Prop} {g:Nat→Nat} {l r:T α} (hl:AllAt p l (fun n=>g (2*n+1))) (hr:AllAt p r (fun n=>g (2*n+2))):AllAt p (.node l .none r) g :=
 ⟨fun y hy=>(by cases hy),hl,hr⟩
section
variable {P:Program}
def fldsIn (n:Nat):TK→Bool
 | .st fs=>fs.all fun p=>Nat.blt p.2 n
 | _=>true
theorem info?_at {t:Nat} {i:TypeInfo} (h:P.types[t]?=some i):P.info? t=some i:=by
 have hlt:t<P.types.size:=(Array.getElem?_eq_some_iff.1 h).1
 show Tables.info? _ _=_
 unfold Tables.info?
 simp_all
theorem info?_lt {t:Nat} (h:t<P.types.size):(P.info? t).isSome=true:=by
 rw [info?_at (Array.getElem?_eq_getElem h)];rfl
theorem TIok.plain {t:Nat} {i:TypeInfo} {d:TypeDesc} {ti:TI} (h1:P.types[t]?=some i) (h2:P.underlying t=some d) (hk:TK.of d=ti.k) (hs:i.size=ti.size) (hb:i.bytes=ti.bytes)
  {a:AV} {z:Value} (hz:i.zero=some z) (hagg:ti.k.agg=false) (ha:ofV1 z=some a) (hzz:ti.zero=[a]) (hl:ti.size=1) (hf:ti.fl=none):TIok P t ti where
 und:=⟨d,h2,hk⟩
 info:=⟨i,z,info?_at h1,hs,hb,hz,by rw [hagg];simp;exact⟨a,ha,hzz⟩⟩
 zlen:=by rw [hzz,hl];rfl
 flat:=fun ks h=>by rw [hf] at h;cases h
 flds:=fun fs h p hp=>by rw [h] at hagg;simp [TK.agg] at hagg
theorem TIok.agg {t n:Nat} {i:TypeInfo} {d:TypeDesc} {ti:TI} (hn:P.types.size=n) (h1:P.types[t]?=some i) (h2:P.underlying t=some d) (hk:TK.of d=ti.k) (hs:i.size=ti.size) (hb:i.bytes=ti.bytes)
  {cs:Array Value} (hz:i.zero=some (.agg cs)) (hagg:ti.k.agg=true) (ha:ofVs cs.toList=some ti.zero) (hl:ti.zero.length=ti.size) (hfl:fldsIn n ti.k=true) (hf:∀ ks,ti.fl=some ks→FlatOk P t ks):TIok P t ti where
 und:=⟨d,h2,hk⟩
 info:=⟨i,.agg cs,info?_at h1,hs,hb,hz,by rw [hagg];simp;exact ha⟩
 zlen:=hl
 flat:=hf
 flds:=fun fs h p hp=>by
  rw [h] at hfl
  simp only [fldsIn,List.all_eq_true] at hfl
  refine info?_lt ?_
  rw [hn]
  simpa [Nat.blt_eq] using hfl p hp
theorem TIok.p {t:Nat} {i:TypeInfo} {d:TypeDesc} {ti:TI} (h1:P.types[t]?=some i) (h2:P.underlying t=some d)
  (h:∃ a z,TK.of d=ti.k∧i.size=ti.size∧i.bytes=ti.bytes∧i.zero=some z∧ti.k.agg=false∧ofV1 z=some a∧ti.zero=[a]∧ti.size=1∧ti.fl=none:=by exact⟨_,_,rfl,rfl,rfl,rfl,rfl,rfl,rfl,rfl,rfl⟩):TIok P t ti:=by
 obtain⟨a,z,r1,r2,r3,r4,r5,r6,r7,r8,r9⟩:=h
 exact .plain h1 h2 r1 r2 r3 r4 r5 r6 r7 r8 r9
theorem TIok.g {t n:Nat} {i:TypeInfo} {d:TypeDesc} {ti:TI} (hn:P.types.size=n) (h1:P.types[t]?=some i) (h2:P.underlying t=some d)
  (h:∃ cs:Array Value,TK.of d=ti.k∧i.size=ti.size∧i.bytes=ti.bytes∧i.zero=some (.agg cs)∧ti.k.agg=true∧ofVs cs.toList=some ti.zero∧ti.zero.length=ti.size∧fldsIn n ti.k=true∧ti.fl=none:=by exact⟨_,rfl,rfl,rfl,rfl,rfl,rfl,rfl,rfl,rfl⟩):TIok P t ti:=by
 obtain⟨cs,r1,r2,r3,r4,r5,r6,r7,r8,r9⟩:=h
 exact .agg hn h1 h2 r1 r2 r3 r4 r5 r6 r7 r8 (fun ks h=>by rw [r9] at h;cases h)
end
end Ev
