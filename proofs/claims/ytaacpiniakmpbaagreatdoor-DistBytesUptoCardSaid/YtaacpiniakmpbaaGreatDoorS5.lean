/- What is a term, as the program tells it. -/
import Derived.Test.YtaacpiniakmpbaaGreatDoorS2
import Derived.Test.YtaacpiniakmpbaaGreatDoorS3
import Derived.Test.YtaacpiniakmpbaaGreatDoorS0
import Derived.Test.YtaacpiniakmpbaaGreatDoorL
namespace Go.Proofs.YtaacpiniakmpbaaGreatDoor
open Go Ev Tryz
set_option linter.unusedSimpArgs false
set_option linter.unusedVariables false
set_option maxHeartbeats 8000000
set_option maxRecDepth 10000
theorem count_ret (N:Nat):∀ (t:Tm),tsz t<N→∀ (left deep:Nat),left≤4000→deep≤600→∀ {w:World} {cs:List Value} {p:Addr},Env w→TmAt (hb w) t cs→BareAt (hb w) p→Ret Tryz.prog 203 #[.agg cs.toArray,.int .i64 (Int.ofNat left),.int .i64 (Int.ofNat deep),formsV p] w (.int .i64 (Int.ofNat (cntS left deep t))):=by
 induction N with
 | zero=>intro t h;omega
 | succ N ih =>
  rintro⟨k,n,s,l⟩ hN left deep hleft hdeep w cs p hE ht hp
  obtain⟨a,m,c,rfl,hl⟩:=ht.out
  have hs:=ht.sz
  rw [tsz] at hN
  by_cases h1:k=1
  ·subst h1;exact count_k.1 N ih hN hleft hdeep hE hl hs hp _ rfl rfl
  by_cases h2:k=2
  ·subst h2;exact count_k.2.1 N ih hN hleft hdeep hE hl hs hp _ rfl rfl
  by_cases h3:k=3
  ·subst h3;exact count_k.2.2 N ih hN hleft hdeep hE hl hs hp _ rfl rfl
  by_cases h4:k=4
  ·subst h4;exact count_m.1 N ih hN hleft hdeep hE hl hs hp _ rfl rfl
  by_cases h5:k=5
  ·subst h5;exact count_m.2.1 N ih hN hleft hdeep hE hl hs hp _ rfl rfl
  by_cases h6:k=6
  ·subst h6;exact count_m.2.2 N ih hN hleft hdeep hE hl hs hp _ rfl rfl
  obtain⟨r,hr⟩:∃ r,r=cntS left deep (.mk k n s l):=⟨_,rfl⟩
  rw [← hr]
  have hno:nodeS k n s l.length=false:=by simp [nodeS,h1,h2,h3,h4,h5,h6]
  have hrr:r=left+1:=by rw [hr,cntS,if_neg];intro q;rw [nodesS,hno] at q;exact absurd q.2.2 (by simp)
  refine ret_of hE func203 rfl [.agg [.val (.int .i64 k),.val (.int .i64 n),.val (.string s),.val (.slice a m c)],.val (.int .i64 (Int.ofNat left)),.val (.int .i64 (Int.ofNat deep)),FA p] rfl fun Q hQ=>?_
  refine .sy (prog_okB _) ?_
  intro _ _ _ _ _ _ _ _ _ _ _ _ _ _ Hc Hs Ha Hw Hd Ho Hl Hn Hi Hk Hv Hz Hr Hx
  cbv
  repeat'(first|((with_reducible refine hQ _ _ ?_);refine⟨rfl,rfl,_,rfl,rfl,?_⟩)|((with_reducible first|refine Hc _ _ _ _ ?_|refine Hs _ _ _ _ ?_);rintro(_|_) hq0<;>cbv)|((with_reducible first|refine Ha _ _ _ _ _ ?_|refine Hw _ _ _ ?_);intro _ hn;cbv)|((with_reducible refine Hn _ _ _ ?_);(first|refine len_sl rfl rfl ?_|(refine len_st ?_;intro _ hm));cbv))
  all_goals(clear Hc Hs Ha Hw Hd Ho Hl Hn Hi Hk Hv Hz Hr Hx;clear hQ)
  all_goals first
   | (exfalso;simp [cmp0] at *;omega)
   | (rw [hn,ar0_suc (by omega),hrr];rfl)
def formsA (i:Nat):AV:=.agg [.nfn,.fn (.func 317) [] [.ptr i 0],.fn (.func 318) [] [.ptr i 0],.fn (.func 319) [] [.ptr i 0],.fn (.func 321) [] [.ptr i 0],.fn (.func 322) [] [.ptr i 0],.fn (.func 323) [] [.ptr i 0]]
theorem forms_ret {w:World} (hE:Env w):RetO Tryz.prog 202 #[] w (formsA 0) (.cells [.fn (.func 316) [] []] 0):=by
 refine retO_of hE func202 rfl [] rfl (mk:=formsA 0) (ob:=.cells [.fn (.func 316) [] []] 0) rfl rfl rfl fun Q hQ=>?_
 refine .sy (prog_okB _) ?_
 intro _ _ _ _ _ _ _ _ _ _ _ _ _ _ Hc Hs Ha Hw Hd Ho Hl Hn Hi Hk Hv Hz Hr Hx
 cbv
 exact hQ _ _ 2 ⟨rfl,rfl,_,rfl,rfl,rfl,by decide,rfl⟩
theorem nil_vr {φ:Phi} {a:Array Value} (h:VRels φ [] a.toList):a=#[]:=by
 obtain⟨a⟩:=a
 cases h;rfl
theorem fn_own {φ:Phi} {i b o N:Nat} (hi:φ i=some (.cells b o N)) {f:Nat} {v:Value} (h:VRel φ (.fn (.func f) [] [.ptr i 0]) v):v=.func (.func f) #[] #[.pointer (some ⟨b,o,none⟩)]:=by
 cases h with
 | @fn _ _ _ x' y' hx hy =>
  rw [nil_vr hx]
  obtain⟨y'⟩:=y'
  cases hy with
  | cons q t =>
   cases t
   cases q with
   | ptr q=>rw [hi] at q;cases q;rfl
theorem forms_own {φ:Phi} {H:Hp} {nx:Nat} {w:World} (hr:Rel φ H nx w) {i fz:Nat} (ho:H i=some (.cells [.fn (.func 316) [] []] fz)) {v:Value} (hv:VRel φ (formsA i) v):∃ p,v=formsV p∧BareAt (hb w) p:=by
 obtain⟨l,h1,h2⟩:=hr.dom i _ ho
 unfold formsA at hv
 cases h2 with
 | @cells _ _ b o N hN hc hf =>
  refine⟨⟨b,o,none⟩,?_,?_⟩
  ·cases hv with
   | @agg _ x' hx =>
    obtain⟨x'⟩:=x'
    cases hx with
    | cons q0 t=>cases t with
     | cons q1 t=>cases t with
      | cons q2 t=>cases t with
       | cons q3 t=>cases t with
        | cons q4 t=>cases t with
         | cons q5 t=>cases t with
          | cons q6 t =>
           cases t
           cases q0
           rw [fn_own h1 q1,fn_own h1 q2,fn_own h1 q3,fn_own h1 q4,fn_own h1 q5,fn_own h1 q6]
           rfl
  ·obtain⟨v',g1,g2⟩:=hc 0 _ rfl
   cases g2 with
   | @fn _ _ _ x' y' hx hy =>
    rw [nil_vr hx,nil_vr hy] at g1
    obtain⟨arr,e,fz',hb,ha⟩:=cell_block g1
    refine⟨rfl,arr,e,fz',hb,fun j v hj=>?_⟩
    cases j with
    | zero=>cases hj;exact ha
    | succ j=>simp at hj
theorem vrel4 {φ:Phi} {a b c d:AV} {args:Array Value} (h:VRels φ [a,b,c,d] args.toList):∃ v u x y,args=#[v,u,x,y]∧VRel φ a v∧VRel φ b u∧VRel φ c x∧VRel φ d y:=by
 obtain⟨args⟩:=args
 cases h with
 | cons h t=>cases t with
  | cons h2 t=>cases t with
   | cons h3 t=>cases t with
    | cons h4 t=>cases t;exact⟨_,_,_,_,rfl,h,h2,h3,h4⟩
theorem cnt_is (t:Tm):cntS 4000 600 t≤4000↔isS t=true:=by
 rw [isS,cntS]
 simp only [Bool.and_eq_true,decide_eq_true_eq]
 split
 ·next h=>exact⟨fun _=>⟨⟨h.1,h.2.1⟩,h.2.2⟩,fun _=>h.1⟩
 ·next h=>exact⟨fun q=>(by omega),fun q=>(h ⟨q.1.1,q.1.2,q.2⟩).elim⟩
theorem checkAll_ret {w:World} (hE:Env w) {t:Tm} {a:Option Addr} {m c:Nat} (hl:TmsAt (hb w) [t] a m):Ret Tryz.prog 125 #[.slice a m c] w (.int .i64 (if isS t then 0 else 3)):=by
 obtain⟨r,hr⟩:∃ r:Int,r=if isS t then 0 else 3:=⟨_,rfl⟩
 rw [← hr]
 have hm:m=1:=hl.1
 refine ret_of hE func125 rfl [.val (.slice a m c)] rfl fun Q hQ=>?_
 refine .sy (prog_okB _) ?_
 intro _ _ _ _ _ _ _ _ _ _ _ _ _ _ Hc Hs Ha Hw Hd Ho Hl Hn Hi Hk Hv Hz Hr Hx
 cbv
 refine Hk _ _ _ _ _ (callR_obj call202 rfl rfl (fun w' hx=>forms_ret (hE.ext hx)) ?_)
 cbv
 refine Hn _ _ _ (len_sl rfl rfl ?_)
 cbv
 refine Hr _ _ _ (CodeP.loopN 3 (fun x:Nat×Nat=>mkS [(3,.val (.int .i64 (Int.ofNat x.2))),(4,.ptr 2 0),(9,.val (.slice a m c)),(10,.val (.int .i64 (Int.ofNat m))),(11,.val (.int .i64 (Int.ofNat x.1)))] [(0,.ro calcAVs),(1,.cells [.fn (.func 316) [] []] 0),(2,.cells [.nfn,.fn (.func 317) [] [.ptr 1 0],.fn (.func 318) [] [.ptr 1 0],.fn (.func 319) [] [.ptr 1 0],.fn (.func 321) [] [.ptr 1 0],.fn (.func 322) [] [.ptr 1 0],.fn (.func 323) [] [.ptr 1 0]] 0)] 3)
  (fun x=>1 - x.1) (fun x=>(x.1=0∧x.2=4000∧r=if isS t then 0 else 3)∨(x.1=1∧r=0)) (0,4000) (.inl ⟨rfl,rfl,hr⟩) (sub_mk sbt sbh) rfl rfl (fun _=>⟨rfl,rfl⟩) ?_)
 rintro G ⟨i,j⟩ hinv hG
 simp only at hinv
 refine .sy (prog_okB _) ?_
 intro _ _ _ _ _ _ _ _ _ _ _ _ _ _ Hc2 Hs2 Ha2 Hw2 Hd2 Ho2 Hl2 Hn2 Hi2 Hk2 Hv2 Hz2 Hr2 Hx2
 cbv
 refine Hc2 _ _ _ _ ?_
 rintro(_|_) h2<;>cbv
 ·have hge:m≤i:=by simpa [cmp0] using h2
  rcases hinv with⟨h0,_⟩|⟨h1,h0⟩
  ·omega
  (with_reducible refine hQ _ _ ?_);refine⟨rfl,rfl,_,rfl,rfl,?_⟩
  rw [h0];rfl
 ·have hlt:i<m:=by simpa [cmp0] using h2
  rcases hinv with⟨rfl,rfl,hri⟩|⟨h1,h0⟩
  rotate_left
  ·omega
  refine Hi2 _ _ _ _ (idx_tm hl hlt ?_)
  rintro p2 ⟨k1,n1,s1,l1⟩ cs1 hg hc ht1
  obtain rfl:t=.mk k1 n1 s1 l1:=by simpa using hg
  cbv
  refine Hl2 _ _ _ (load_tm hc ht1 ?_)
  obtain⟨a1,m1,c1,rfl,hl1⟩:=ht1.out
  cbv
  refine Hk2 _ _ _ _ _ (callR_ownG (Int.ofNat (cntS 4000 600 (.mk k1 n1 s1 l1))) (fun u=>.val (.int .i64 u)) call203 (fun _=>rfl) (fun φ w2 args' hr hx hv=>?_) ?_)
  ·obtain⟨v1,v2,v3,v4,rfl,g1,g2,g3,g4⟩:=vrel4 hv
   have e1:=okV_inv (a:=.agg [.val (.int .i64 k1),.val (.int .i64 n1),.val (.string s1),.val (.slice a1 m1 c1)]) rfl g1
   have e2:=okV_inv (a:=.val (.int .i64 (Int.ofNat 4000))) rfl g2
   have e3:=okV_inv (a:=.int .i64 600) rfl g3
   obtain⟨p,rfl,hp⟩:=forms_own hr rfl g4
   subst e1 e2 e3
   exact count_ret _ _ (Nat.lt_succ_self _) 4000 600 (by decide) (by decide) (hE.ext hx) (ht1.mono (ext_hb hx)) hp
  have hcb:cntS 4000 600 (.mk k1 n1 s1 l1)≤4001:=by unfold cntS;split<;>omega
  have hci:=cnt_is (.mk k1 n1 s1 l1)
  obtain⟨z,hz⟩:∃ z,z=cntS 4000 600 (.mk k1 n1 s1 l1):=⟨_,rfl⟩
  rw [← hz] at hcb hci ⊢
  intro q hq
  subst hq
  cbv
  refine Hc2 _ _ _ _ ?_
  rintro(_|_) h4<;>cbv
  ·have h4:z≤4000:=by simp [cmp0] at h4;omega
   rw [if_pos (hci.1 h4)] at hri
   refine Ha2 _ _ _ _ _ ?_
   intro q hq
   obtain⟨j2,hj2⟩:∃ j2,j2=4000 - z:=⟨_,rfl⟩
   obtain rfl:q=Int.ofNat j2:=by rw [hq,hj2,ar0_sub (by simp<;>omega) (by simp<;>omega)];simp;omega
   clear hq
   cbv
   refine Ha2 _ _ _ _ _ ?_
   rintro q rfl
   rw [ar0_suc (by omega)]
   cbv
   exact hG _ (1,j2) rfl (by simp only;omega) (.inr ⟨rfl,hri⟩) (sub_mk sbt sbh) (lt_mk rfl rfl)
  ·have h4:¬ z≤4000:=by simp [cmp0] at h4;omega
   rw [if_neg fun q=>h4 (hci.2 q)] at hri
   (with_reducible refine hQ _ _ ?_);refine⟨rfl,rfl,_,rfl,rfl,?_⟩
   rw [hri];rfl
theorem check_ret {w:World} (hE:Env w) {k n:Int} {s:ByteArray} {l:List Tm} {a:Option Addr} {m c:Nat} (ht:TmAt (hb w) (.mk k n s l) [.int .i64 k,.int .i64 n,.string s,.slice a m c]):Ret Tryz.prog 70 #[.agg #[.int .i64 k,.int .i64 n,.string s,.slice a m c]] w (.int .i64 (if isS (.mk k n s l) then 0 else 3)):=by
 obtain⟨r,hr⟩:∃ r:Int,r=if isS (.mk k n s l) then 0 else 3:=⟨_,rfl⟩
 rw [← hr]
 refine ret_of hE func70 rfl [.agg [.val (.int .i64 k),.val (.int .i64 n),.val (.string s),.val (.slice a m c)]] rfl fun Q hQ=>?_
 refine .sy (prog_okB _) ?_
 intro _ _ _ _ _ _ _ _ _ _ _ _ _ _ Hc Hs Ha Hw Hd Ho Hl Hn Hi Hk Hv Hz Hr Hx
 cbv
 refine Hk _ _ _ _ _ (callR_ownG r (fun u=>.val (.int .i64 u)) call125 (fun _=>rfl) (fun φ w2 args' hrl hx hv=>?_) ?_)
 ·obtain⟨v,rfl,h1⟩:=vrel1 hv
  obtain⟨a2,cp,rfl,hsl⟩:=own_sl (R:=TmAt (hb w2)) (l:=[.mk k n s l]) (c:=[.val (.int .i64 k),.val (.int .i64 n),.val (.string s),.val (.slice a m c)]) hrl rfl h1 rfl (by decide) (by decide) ⟨ht.mono (ext_hb hx),rfl,rfl,trivial⟩
  rw [hr]
  exact checkAll_ret (hE.ext hx) (tms_of_sl hsl)
 intro q hq
 subst hq
 cbv
 (with_reducible refine hQ _ _ ?_);refine⟨rfl,rfl,_,rfl,rfl,?_⟩
 rfl
end Go.Proofs.YtaacpiniakmpbaaGreatDoor
namespace Go.Proofs.YtaacpiniakmpbaaGreatDoor
open Go Ev Tryz
set_option linter.unusedSimpArgs false
set_option linter.unusedVariables false
set_option maxHeartbeats 4000000
set_option maxRecDepth 10000
def symR (x:List Nat×Nat) (cs:List Value):Prop:=∃ u,bytesOf u=x.1∧cs=[.string u,.int .i64 (Int.ofNat x.2)]
theorem told_sym {tm:T AV} {t:Nat} {s:ByteArray} {n:Int} {tl:List (Nat×AV)} (h:tm.get t=some (.agg [.val (.string s),.val (.int .i64 n)])) (k':toldL tm tl):toldL tm ((t,.agg [.str (bytesOf s),.int .i64 n])::tl):=fun e he=>by
 rcases List.mem_cons.1 he with rfl|he
 ·refine⟨_,h,fun φ x q=>?_⟩
  cases q with
  | @agg _ z q =>
   obtain⟨z⟩:=z
   cases q with
   | cons q t =>
    cases q
    cases t with
    | cons q t =>
     cases q;cases t
     exact .agg (.cons (.str _) (.cons (.int _ _) .nil))
 ·exact k' e he
theorem pure_to {P:Program} {C:Ctx} (hC:CtxOk P C) {o:Oper} {tm:T AV} {tl:List (Nat×AV)} {v:AV} {K:AV→Prop} (h:toldL tm tl) (hv:valA C (mkT tl) .leaf o=some v) (hK:K v):PureR P C o tm K:=by
 refine⟨v,fun H nx=>?_,hK⟩
 refine OpOK.tm (told_tm h) ?_
 have h1':OpOK P C o (mkT tl) (T.leaf:T Ev.Obj).get nx v (T.leaf:T Ev.Obj).get nx:=OpOK.val hC hv nx
 have h2:=h1'.frame (E:=H) (fun i x _=>rfl)
 have e:un H (T.leaf:T Ev.Obj).get=H:=by funext i;cases hi:H i with|some x=>exact un_some hi|none=>rw [un_none hi];rfl
 rwa [e] at h2
theorem intEq_iff (a b:Int):intEq a b=decide (a=b):=by
 apply Bool.eq_iff_iff.2
 cases a<;>cases b<;>simp [intEq,Nat.beq_eq]<;>omega
theorem sym_eq {P:Program} {C:Ctx} (hC:CtxOk P C) {o:Oper} {tm:T AV} {t a b:Nat} {q:TypeId} {ti:TI} {fs:List (Nat×Nat)} (ho:o.op=.binOp .eql t (.tmp a) (.tmp b) q) (ht:C.tt.get t=some ti) (hfs:ti.k=.st fs) (hfl:ti.fl=some [.str,.int .i64]) (hab:a≠b) {s u:ByteArray} {n m:Int}
  (hx:tm.get a=some (.agg [.val (.string s),.val (.int .i64 n)])) (hy:tm.get b=some (.agg [.val (.string u),.val (.int .i64 m)])) {K:AV→Prop} (hK:∀ z,z=decide (bytesOf s=bytesOf u∧n=m)→K (.bool z)):PureR P C o tm K:=by
 refine pure_to hC (told_sym hx (told_sym hy told_nil)) (v:=.bool (match bytesEq (bytesOf s) (bytesOf u) with|true=>(match intEq n m with|true=>true|false=>false)|false=>false)) ?_ (hK _ ?_)
 ·unfold valA
  simp only [ho,ht,ev,mkT,T.get_set,if_true,if_neg hab,if_neg hab.symm,binA,eqT,hfs,hfl,typedL,kindEq,eqL,eq1]
  rfl
 ·rw [intEq_iff]
  cases h:bytesEq (bytesOf s) (bytesOf u) with
  | true=>rw [bytesEq_iff] at h;by_cases q:n=m<;>simp [h,q]
  | false =>
   have:¬ bytesOf s=bytesOf u:=fun q=>by rw [← bytesEq_iff,h] at q;cases q
   simp [this]
section
variable {w:World}
theorem isIn_ret (hE:Env w) {xs:List (List Nat×Nat)} {a:Option Addr} {m c:Nat} (hl:SlAt 2 symR (hb w) xs a m) (s:ByteArray) (j:Nat):Ret Tryz.prog 330 #[.slice a m c,.agg #[.string s,.int .i64 (Int.ofNat j)]] w (.bool (decide ((bytesOf s,j)∈xs))):=by
 obtain⟨r,hr⟩:∃ r,r=decide ((bytesOf s,j)∈xs):=⟨_,rfl⟩
 rw [← hr]
 refine ret_of hE func330 rfl [.val (.slice a m c),.agg [.val (.string s),.val (.int .i64 (Int.ofNat j))]] rfl fun Q hQ=>?_
 refine .sy (prog_okB _) ?_
 intro _ _ _ _ _ _ _ _ _ _ _ _ _ _ Hc Hs Ha Hw Hd Ho Hl Hn Hi Hk Hv Hz Hr Hx
 cbv
 refine Hr _ _ _ (CodeP.loopN 2 (fun i:Nat=>mkS [(0,.val (.slice a m c)),(3,.ptr 1 0),(5,.val (.int .i64 (Int.ofNat i)))] [(0,.ro calcAVs),(1,.cells [.val (.string s),.val (.int .i64 (Int.ofNat j))] 0)] 2)
  (fun i=>m - i) (fun i=>i≤m∧r=decide ((bytesOf s,j)∈xs.drop i)) 0 ⟨Nat.zero_le _,hr⟩ (sub_mk sbt sbh) rfl rfl (fun _=>⟨rfl,rfl⟩) ?_)
 rintro G i ⟨hi,hri⟩ hG
 have hmb:=hl.2.1
 refine .sy (prog_okB _) ?_
 intro _ _ _ _ _ _ _ _ _ _ _ _ _ _ Hc2 Hs2 Ha2 Hw2 Hd2 Ho2 Hl2 Hn2 Hi2 Hk2 Hv2 Hz2 Hr2 Hx2
 cbv
 refine Hn2 _ _ _ (len_sl rfl rfl ?_)
 cbv
 refine Hc2 _ _ _ _ ?_
 rintro(_|_) h2<;>cbv
 ·have hge:m≤i:=by simpa [cmp0] using h2
  (with_reducible refine hQ _ _ ?_);refine⟨rfl,rfl,_,rfl,rfl,?_⟩
  rw [hri,List.drop_of_length_le (by have:=hl.1;omega)];simp [toV,toVs,retA]
 ·have hlt:i<m:=by simpa [cmp0] using h2
  refine Hi2 _ _ _ _ (idx_sl rfl rfl rfl rfl hl hlt ?_)
  rintro p ⟨x,n⟩ cs hg hc ⟨u,hu,rfl⟩
  rw [drop_get hg] at hri
  simp only at hu
  subst hu
  cbv
  refine Hl2 _ _ _ ⟨_,_,rfl,hc,.inl ⟨rfl,rfl,rfl,?_⟩⟩
  cbv
  refine Hz2 _ _ _ (sym_eq (prog_okB _).ctx rfl rfl rfl rfl (by decide) rfl rfl ?_)
  rintro(_|_) hq<;>cbv
  ·refine Ha2 _ _ _ _ _ ?_
   rintro q rfl
   rw [ar0_suc (by omega)]
   cbv
   refine hG _ (i+1) rfl (by omega) ⟨by omega,?_⟩ (sub_mk sbt sbh) (lt_mk rfl rfl)
   have hne:¬ (bytesOf s=bytesOf u∧j=n):=fun e=>by
    have:decide (bytesOf u=bytesOf s∧Int.ofNat n=Int.ofNat j)=true:=decide_eq_true ⟨e.1.symm,by rw [e.2]⟩
    rw [← hq] at this;cases this
   rw [hri]
   simp only [List.mem_cons,Prod.mk.injEq,hne,false_or]
  ·(with_reducible refine hQ _ _ ?_);refine⟨rfl,rfl,_,rfl,rfl,?_⟩
   have hqt:=of_decide_eq_true hq.symm
   have hj:n=j:=by have:=hqt.2;simp at this;omega
   rw [hri,hj,hqt.1];simp [toV,toVs,retA]
end
end Go.Proofs.YtaacpiniakmpbaaGreatDoor
