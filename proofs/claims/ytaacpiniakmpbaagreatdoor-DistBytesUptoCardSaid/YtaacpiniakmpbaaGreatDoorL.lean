/- Names, as the program asks for them; how many nodes a term has. -/
import Derived.Test.YtaacpiniakmpbaaGreatDoorK
namespace Go.Proofs.YtaacpiniakmpbaaGreatDoor
open Go Ev Tryz
set_option linter.unusedSimpArgs false
set_option linter.unusedVariables false
set_option maxHeartbeats 4000000
set_option maxRecDepth 10000
section
variable {w:World}
def badAt:List Nat→Nat→Int
 | [],_=>-1
 | c::r,p=>if goodB c then badAt r (p+1) else p
theorem badAt_lt:∀ (l:List Nat) (p:Nat),decide (badAt l p<0)=l.all goodB
 | [],p=>rfl
 | c::r,p=>by
  unfold badAt
  cases h:goodB c with
  | true=>simp only [if_true,List.all_cons,h,badAt_lt r (p+1),Bool.true_and]
  | false=>simp [h]
theorem decode_big {l:List Nat} {p c:Nat} {r:List Nat} (hl:(l.all fun n=>Nat.blt n 256)=true) (hd:l.drop p=c::r) (hc:128≤c):128≤(Utf8.decode ⟨(l.map UInt8.ofNat).toArray⟩ p).1:=by
 have hp:l[p]?=some c:=by
  have:=congrArg (fun x:List Nat=>x[0]?) hd
  simpa [List.getElem?_drop] using this
 obtain⟨hlt,hpe⟩:=List.getElem?_eq_some_iff.1 hp
 have hc2:c<256:=by
  have:=List.all_eq_true.1 hl c (List.mem_of_getElem? hp)
  simpa [Nat.blt_eq] using this
 have hat:((⟨(l.map UInt8.ofNat).toArray⟩:ByteArray).get! (p+0)).toNat=c:=by
  show(((l.map UInt8.ofNat).toArray)[p+0]!).toNat=c
  simp [hlt,hpe]
  omega
 unfold Utf8.decode
 simp only [hat,Utf8.runeError]
 rw [if_neg (by omega)]
 split
 ·split<;>simp_all
 ·split
  ·split<;>simp_all<;>omega
  ·split
   ·split<;>simp_all<;>omega
   ·simp
theorem indexFunc_ret (hE:Env w) (s:ByteArray) (hs:s.size≤1048576):Ret Tryz.prog 461 #[.string s,.func (.func 406) #[] #[],.bool true] w (.int .i64 (badAt (bytesOf s) 0)):=by
 refine ret_of hE func461 rfl [.val (.string s),.fn (.func 406) [] [],.bool true] rfl fun Q hQ=>?_
 obtain⟨r,hr⟩:∃ r,r=badAt (bytesOf s) 0:=⟨_,rfl⟩
 rw [← hr] at hQ
 refine .sy (prog_okB _) ?_
 intro _ _ _ _ _ _ _ _ _ _ _ _ _ _ Hc Hs Ha Hw Hd Ho Hl Hn Hi Hk Hv Hz Hr Hx
 cbv
 refine Ho _ _ _ (range_str (prog_okB _).ctx rfl rfl rfl rfl ?_)
 intro l hl
 rw [← hl] at hr
 have hln:l.length≤1048576:=by rw [hl,bytesOf_len];exact hs
 have hlb:(l.all fun n=>Nat.blt n 256)=true:=by
  rw [hl,List.all_eq_true];intro x hx;obtain⟨b,_,rfl⟩:=List.mem_map.1 hx;simp [Nat.blt_eq];exact UInt8.toNat_lt b
 cbv
 refine Hr _ _ _ (CodeP.loopN 2 (fun i:Nat=>mkS [(1,.fn (.func 406) [] []),(2,.bool true),(10,.it 1)] [(0,.ro calcAVs),(1,.sIter l i)] 2)
  (fun i=>l.length - i) (fun i=>i≤l.length∧r=badAt (l.drop i) i) 0 ⟨Nat.zero_le _,by rw [hr];rfl⟩ (sub_mk sbt sbh) rfl rfl (fun _=>⟨rfl,rfl⟩) ?_)
 rintro G i ⟨hi,hri⟩ hG
 refine .sy (prog_okB _) ?_
 intro _ _ _ _ _ _ _ _ _ _ _ _ _ _ Hc2 Hs2 Ha2 Hw2 Hd2 Ho2 Hl2 Hn2 Hi2 Hk2 Hv2 Hz2 Hr2 Hx2
 cbv
 refine Ho2 _ _ _ (next_str (prog_okB _).ctx rfl rfl rfl ?_ ?_ ?_)
 ·intro hd
  rw [hd] at hri
  cbv
  (with_reducible refine hQ _ _ ?_);refine⟨rfl,rfl,_,rfl,rfl,?_⟩
  rw [hri];rfl
 ·intro c q hd hc
  have hlt:i<l.length:=by
   rcases Nat.lt_or_ge i l.length with h|h
   ·exact h
   ·rw [List.drop_of_length_le h] at hd;cases hd
  have hd1:l.drop (i+1)=q:=by
   have:=congrArg (List.drop 1) hd
   simpa [List.drop_drop] using this
  rw [hd] at hri
  cbv
  refine Hk2 _ _ _ _ _ (callBo _ call406 rfl (fun w' hx=>outside_ret (hE.ext hx) _) ?_)
  rintro(_|_) hu<;>cbv
  ·have hg:goodB c=true:=by simp at hu;simp [goodB];omega
   refine hG _ (i+1) rfl (by omega) ⟨by omega,?_⟩ (sub_mk sbt sbh) (lt_mk rfl rfl)
   rw [hri,badAt,hg,hd1];rfl
  ·(with_reducible refine hQ _ _ ?_);refine⟨rfl,rfl,_,rfl,rfl,?_⟩
   have hg:goodB c=false:=by simp at hu;simp [goodB];omega
   rw [hri,badAt,hg];rfl
 ·intro c q n d hd hc hn
  have hbig:=decode_big hlb hd hc
  have hn2:128≤n:=by rw [hn];simp;omega
  have hg:goodB c=false:=by simp [goodB];omega
  rw [hd] at hri
  clear hn hbig
  cbv
  refine Hk2 _ _ _ _ _ (callBo _ call406 rfl (fun w' hx=>outside_ret (hE.ext hx) _) ?_)
  rintro(_|_) hu<;>cbv
  ·simp at hu;omega
  ·(with_reducible refine hQ _ _ ?_);refine⟨rfl,rfl,_,rfl,rfl,?_⟩
   rw [hri,badAt,hg];rfl
theorem strIndexFunc_ret (hE:Env w) (s:ByteArray) (hs:s.size≤1048576):Ret Tryz.prog 407 #[.string s,.func (.func 406) #[] #[]] w (.int .i64 (badAt (bytesOf s) 0)):=by
 refine ret_of hE func407 rfl [.val (.string s),.fn (.func 406) [] []] rfl fun Q hQ=>?_
 refine .sy (prog_okB _) ?_
 intro _ _ _ _ _ _ _ _ _ _ _ _ _ _ Hc Hs Ha Hw Hd Ho Hl Hn Hi Hk Hv Hz Hr Hx
 cbv
 refine Hk _ _ _ _ _ (callIn _ call461 rfl (fun w' hx=>indexFunc_ret (hE.ext hx) s hs) ?_)
 intro u hu
 cbv
 (with_reducible refine hQ _ _ ?_);refine⟨rfl,rfl,_,rfl,rfl,?_⟩
 rw [hu];rfl
theorem name_ret (hE:Env w) (s:ByteArray) (hs:s.size≤1048576):Ret Tryz.prog 320 #[.string s] w (.bool (nameS s)):=by
 refine ret_of hE func320 rfl [.val (.string s)] rfl fun Q hQ=>?_
 refine .sy (prog_okB _) ?_
 intro _ _ _ _ _ _ _ _ _ _ _ _ _ _ Hc Hs Ha Hw Hd Ho Hl Hn Hi Hk Hv Hz Hr Hx
 cbv
 repeat'(first|((with_reducible refine hQ _ _ ?_);refine⟨rfl,rfl,_,rfl,rfl,?_⟩)|((with_reducible first|refine Hc _ _ _ _ ?_|refine Hs _ _ _ _ ?_);rintro(_|_) hq0<;>cbv)|((with_reducible first|refine Ha _ _ _ _ _ ?_|refine Hw _ _ _ ?_);intro _ hn;cbv)|((with_reducible refine Hn _ _ _ ?_);(first|refine len_sl rfl rfl ?_|(refine len_st ?_;intro _ hm));cbv)|((with_reducible refine Hk 407 _ _ _ _ ?_);refine callIn _ call407 rfl (fun w2 hx=>strIndexFunc_ret (hE.ext hx) s hs) ?_;intro u hu;cbv))
 all_goals(clear Hc Hs Ha Hw Hd Ho Hl Hn Hi Hk Hv Hz Hr Hx;clear hQ;simp only [toV,toVs,retA,Value.bool.injEq];have hb:=badAt_lt (bytesOf s) 0;grind [cmp0,nameS])
end
mutual
def tdep:Tm→Nat
 | .mk _ _ _ l=>tdeps l+1
def tdeps:List Tm→Nat
 | []=>0
 | t::r=>max (tdep t) (tdeps r)
end
theorem tszs_snoc {l:List Tm} {i:Nat} {t:Tm} (h:l[i]?=some t):tszs (l.take (i+1))=tszs (l.take i)+tsz t:=by
 induction l generalizing i with
 | nil=>simp at h
 | cons x l ih =>
  cases i with
  | zero=>simp at h;subst h;simp [tszs]
  | succ i=>simp only [List.take_succ_cons,tszs];rw [ih (by simpa using h)];omega
theorem tdeps_snoc {l:List Tm} {i:Nat} {t:Tm} (h:l[i]?=some t):tdeps (l.take (i+1))=max (tdeps (l.take i)) (tdep t):=by
 induction l generalizing i with
 | nil=>simp at h
 | cons x l ih =>
  cases i with
  | zero=>simp at h;subst h;simp [tdeps]
  | succ i=>simp only [List.take_succ_cons,tdeps];rw [ih (by simpa using h)];omega
theorem tszs_take_le:∀ (l:List Tm) (i:Nat),tszs (l.take i)≤tszs l
 | [],i=>by simp
 | x::l,0=>by simp [tszs]
 | x::l,i+1=>by have:=tszs_take_le l i;simp only [List.take_succ_cons,tszs];omega
mutual
theorem tdep_le:∀ t:Tm,tdep t≤tsz t
 | .mk _ _ _ l=>by rw [tdep,tsz];have:=tdeps_le l;omega
theorem tdeps_le:∀ l:List Tm,tdeps l≤tszs l
 | []=>by simp [tdeps]
 | t::r=>by rw [tdeps,tszs];have:=tdep_le t;have:=tdeps_le r;omega
end
theorem callII {P:Program} {C:Ctx} (x y:Int) {f:FuncId} {args:List AV} {hp:T Ev.Obj} {nx:Nat} (he:Enters P f) (ha:okVs args=true) {K:AV→T Ev.Obj→Nat→Prop}
  (h:∀ w,Ext C w→Ret P f (toVs args).toArray w (.tuple #[.int .i64 x,.int .i64 y])) (hK:∀ u v,u=x→v=y→K (.tup [.val (.int .i64 u),.val (.int .i64 v)]) hp nx):CallR P C f args hp nx K :=
 callGn (x,y) (fun p=>.tup [.val (.int .i64 p.1),.val (.int .i64 p.2)]) he ha (fun _=>rfl) h fun p hp=>hK p.1 p.2 (by rw [hp]) (by rw [hp])
theorem ar0_addN {a b:Nat} (h:a+b<1073741824):ar0 .add .i64 (Int.ofNat a) (Int.ofNat b)=Int.ofNat (a+b):=by
 rw [ar0_add (by simp;omega) (by simp;omega)];simp
theorem max_op {P:Program} {C:Ctx} (hC:CtxOk P C) {o:Oper} {tm:T AV} {c:Call} {a b:Nat} (ho:o.op=.call c) (hc:c.callee=.builtin .max) (ha:c.args.toList=[.tmp a,.tmp b]) (hab:a≠b) {x y:Int}
  (hx:tm.get a=some (.val (.int .i64 x))) (hy:tm.get b=some (.val (.int .i64 y))) {K:AV→Prop} (hK:∀ z,z=max x y→K (.val (.int .i64 z))):PureR P C o tm K:=by
 refine⟨_,fun H nx=>?_,hK _ rfl⟩
 have hv:valA C (mkT [(a,.int .i64 x),(b,.int .i64 y)]) .leaf o=some (.int .i64 (max x y)):=by
  unfold valA
  simp only [ho,hc,ha,evs,ev,mkT,T.get_set,if_true,if_neg hab,if_neg hab.symm,kindEq,intLt_iff]
  by_cases h:x<y
  ·simp [h];omega
  ·simp [h];omega
 have h1:OpOK P C o (mkT [(a,.int .i64 x),(b,.int .i64 y)]) (T.leaf:T Ev.Obj).get nx (.int .i64 (max x y)) (T.leaf:T Ev.Obj).get nx:=OpOK.val hC hv nx
 refine OpOK.norm (tm':=mkT [(a,.int .i64 x),(b,.int .i64 y)]) (fun t v hv=>?_) ?_
 ·have:=mkT_get hv
  simp only [List.mem_cons,Prod.mk.injEq,List.not_mem_nil,or_false] at this
  rcases this with⟨rfl,rfl⟩|⟨rfl,rfl⟩
  ·exact⟨_,hx,fun φ x h=>by cases h;exact .int _ _⟩
  ·exact⟨_,hy,fun φ x h=>by cases h;exact .int _ _⟩
 ·have h2:=h1.frame (E:=H) (fun i x _=>rfl)
  have e:un H (T.leaf:T Ev.Obj).get=H:=by funext i;cases hi:H i with|some x=>exact un_some hi|none=>rw [un_none hi];rfl
  rw [e] at h2
  intro φ w a' hr hg htm r n K' Q hK'
  exact h2 φ w a' hr hg htm r n K' Q fun φ' v' w' h3 h4 h5=>hK' φ' v' w' (by cases h3;exact .val _ rfl) h4 h5
section
theorem refSize_ret (N:Nat):∀ (t:Tm),tsz t<N→tsz t≤1048576→∀ {w:World} {cs:List Value},Env w→TmAt (hb w) t cs→Ret Tryz.prog 206 #[.agg cs.toArray] w (.tuple #[.int .i64 (Int.ofNat (tsz t)),.int .i64 (Int.ofNat (tdep t))]):=by
 induction N with
 | zero=>intro t h;omega
 | succ N ih =>
  rintro⟨k,n,s,l⟩ hN hsz w cs hE ht
  obtain⟨a,m,c,rfl,hl⟩:=ht.out
  obtain⟨r1,hr1⟩:∃ r,r=tsz (.mk k n s l):=⟨_,rfl⟩
  obtain⟨r2,hr2⟩:∃ r,r=tdep (.mk k n s l):=⟨_,rfl⟩
  rw [← hr1,← hr2]
  rw [tsz] at hr1 hsz hN
  rw [tdep] at hr2
  refine ret_of hE func206 rfl [.agg [.val (.int .i64 k),.val (.int .i64 n),.val (.string s),.val (.slice a m c)]] rfl fun Q hQ=>?_
  refine .sy (prog_okB _) ?_
  intro _ _ _ _ _ _ _ _ _ _ _ _ _ _ Hc Hs Ha Hw Hd Ho Hl Hn Hi Hk Hv Hz Hr Hx
  cbv
  refine Hr _ _ _ (CodeP.loopN 2 (fun x:Nat×Nat×Nat=>mkS [(1,.ptr 1 0),(4,.val (.int .i64 (Int.ofNat x.2.1))),(5,.val (.int .i64 (Int.ofNat x.2.2))),(6,.val (.int .i64 (Int.ofNat x.1)))] [(0,.ro calcAVs),(1,.cells [.val (.int .i64 k),.val (.int .i64 n),.val (.string s),.val (.slice a m c)] 0)] 2)
   (fun x=>m - x.1) (fun x=>x.1≤m∧x.2.1=tszs (l.take x.1)+1∧x.2.2=tdeps (l.take x.1)) (0,1,0) ⟨Nat.zero_le _,by simp [tszs],by simp [tdeps]⟩ (sub_mk sbt sbh) rfl rfl (fun _=>⟨rfl,rfl⟩) ?_)
  rintro G ⟨i,n',d'⟩ ⟨hi,hn',hd'⟩ hG
  simp only at hi hn' hd'
  have hmb:=hl.2.1
  refine .sy (prog_okB _) ?_
  intro _ _ _ _ _ _ _ _ _ _ _ _ _ _ Hc2 Hs2 Ha2 Hw2 Hd2 Ho2 Hl2 Hn2 Hi2 Hk2 Hv2 Hz2 Hr2 Hx2
  cbv
  refine Hn2 _ _ _ (len_sl rfl rfl ?_)
  cbv
  refine Hc2 _ _ _ _ ?_
  rintro(_|_) h1<;>cbv
  ·have hge:m≤i:=by simpa [cmp0] using h1
   have e:=hl.1
   rw [List.take_of_length_le (by omega)] at hn' hd'
   refine Ha _ _ _ _ _ ?_
   rintro q rfl
   have hd:=tdeps_le l
   rw [ar0_suc (by omega)]
   cbv
   (with_reducible refine hQ _ _ ?_);refine⟨rfl,rfl,_,rfl,rfl,?_⟩
   rw [hr1,hr2,hn',hd'];rfl
  ·have hlt:i<m:=by simpa [cmp0] using h1
   refine Hi2 _ _ _ _ (idx_tm hl hlt ?_)
   rintro p ⟨k',n2,s',l'⟩ cs' hg hc ht'
   cbv
   refine Hl2 _ _ _ (load_tm hc ht' ?_)
   obtain⟨a',m',c',rfl,hl'⟩:=ht'.out
   have hm:=tsz_mem hg
   have hs:=tszs_snoc hg
   have hd:=tdeps_snoc hg
   have hs1:=tszs_take_le l (i+1)
   have hdl:=tdep_le (.mk k' n2 s' l')
   have hdt:=tdeps_le (l.take i)
   cbv
   refine Hk2 _ _ _ _ _ (callII _ _ call206 rfl (fun w' hx=>ih _ (by omega) (by omega) (hE.ext hx) (ht'.mono (ext_hb hx))) ?_)
   intro u v hu hv
   cbv
   obtain⟨z,hz⟩:∃ z:Nat,z=n'+tsz (.mk k' n2 s' l'):=⟨_,rfl⟩
   obtain⟨y,hy⟩:∃ y:Nat,y=max d' (tdep (.mk k' n2 s' l')):=⟨_,rfl⟩
   refine Ha2 _ _ _ _ _ ?_
   intro q hq
   obtain rfl:q=Int.ofNat z:=by rw [hq,hu,hz];exact ar0_addN (by omega)
   cbv
   refine Hz2 _ _ _ (max_op (prog_okB _).ctx rfl rfl rfl (by decide) rfl rfl ?_)
   intro q hq
   obtain rfl:q=Int.ofNat y:=by rw [hq,hv,hy];simp;omega
   cbv
   refine Ha2 _ _ _ _ _ ?_
   rintro q rfl
   rw [ar0_suc (by omega)]
   cbv
   exact hG _ (i+1,z,y) rfl (by simp only;omega) ⟨by simp only;omega,by simp only;omega,by simp only;omega⟩ (sub_mk sbt sbh) (lt_mk rfl rfl)
end
def rowsOk {α:Type} (R:α→List Value→Prop) (sz:Nat):List AV→List α→Prop
 | _,[]=>True
 | c,x::l=>R x (toVs (c.take sz))∧okVs (c.take sz)=true∧(c.take sz).length=sz∧rowsOk R sz (c.drop sz) l
theorem okVs_get {l:List AV} (h:okVs l=true):∀ (j:Nat) (a:AV),l[j]?=some a→okV a=true:=by
 induction l with
 | nil=>intro j a ha;simp at ha
 | cons x l ih =>
  intro j a ha
  unfold okVs at h
  split at h
  ·next hx =>
   cases j with
   | zero=>simp at ha;subst ha;exact hx
   | succ j=>exact ih h j a (by simpa using ha)
  ·simp at h
theorem toVs_get:∀ (l:List AV) (j:Nat),(toVs l)[j]?=(l[j]?).map toV
 | [],j=>by simp [toVs]
 | x::l,0=>by simp [toVs]
 | x::l,j+1=>by simpa [toVs] using toVs_get l j
theorem cell_block {w:World} {b i:Nat} {v:Value} (h:w.cell? ⟨b,i,none⟩=some v):∃ arr e fz,w.heap[b]?=some (.cells arr e fz)∧arr[i]?=some v:=by
 simp only [World.cell?] at h
 split at h
 ·next arr e fz hb=>exact⟨arr,e,fz,hb,by simpa using h⟩
 ·simp at h
theorem row_of {α:Type} {R:α→List Value→Prop} {sz:Nat} {φ:Phi} {w:World} {b:Nat}:∀ {l:List α} {c:List AV} {o:Nat},CRel φ w b o c→rowsOk R sz c l→0<sz→RowAt sz R (hb w) b o l
 | [],_,_,_,_,_=>trivial
 | x::l,c,o,hc,hr,hz=>by
  obtain⟨h1,h2,h3,h4⟩:=hr
  refine⟨⟨toVs (c.take sz),⟨rfl,?_⟩,h1⟩,row_of (hc.drop sz) h4 hz⟩
  have Hn:sz≤c.length:=by rw [List.length_take] at h3;omega
  obtain⟨v0,h5,_⟩:=hc 0 (c[0]'(by omega)) (List.getElem?_eq_getElem (by omega))
  obtain⟨arr,e,fz,h6,_⟩:=cell_block h5
  refine⟨arr,e,fz,h6,fun j v hj=>?_⟩
  rw [toVs_get] at hj
  cases ha:(c.take sz)[j]? with
  | none=>rw [ha] at hj;simp at hj
  | some a =>
   rw [ha] at hj
   simp only [Option.map_some,Option.some.injEq] at hj
   have hok:=okVs_get h2 j a ha
   have hcj:c[j]?=some a:=by
    rw [List.getElem?_take] at ha
    split at ha
    ·exact ha
    ·simp at ha
   obtain⟨v',h7,h8⟩:=hc j a hcj
   obtain⟨arr',e',fz',h9,h10⟩:=cell_block h7
   rw [h6] at h9;cases h9
   rw [okV_inv hok h8,hj] at h10
   exact h10
theorem own_sl {α:Type} {R:α→List Value→Prop} {φ:Phi} {H:Hp} {nx:Nat} {w:World} (hr:Rel φ H nx w) {id len cap sz fz:Nat} {ex:Bool} {c:List AV} (ho:H id=some (.cells c fz)) {v:Value} (hv:VRel φ (.sl id 0 len cap ex sz) v)
  {l:List α} (hl:len=l.length) (hm:len≤1048576) (hz:0<sz) (hrow:rowsOk R sz c l):∃ a cp,v=.slice a len cp∧SlAt sz R (hb w) l a len:=by
 obtain⟨lc,h1,h2⟩:=hr.dom id _ ho
 cases h2 with
 | cells hN hc hf =>
  cases hv with
  | sl h3 _ _ _ _ =>
   rw [h1] at h3;cases h3
   exact⟨_,_,rfl,hl,hm,.inr ⟨_,_,rfl,row_of hc hrow hz⟩⟩
  | sl0 h3=>exact⟨_,_,rfl,hl,hm,.inl (by cases l with|nil=>rfl|cons _ _=>simp at hl)⟩
theorem el_of_row {B:Nat→Option Go.Obj} {b:Nat}:∀ {l:List Tm} {off:Nat},RowAt 4 (TmAt B) B b off l→ElAt B b off l
 | [],_,_=>by unfold ElAt;trivial
 | t::l,off,h=>by unfold ElAt;exact⟨h.1,el_of_row h.2⟩
theorem tms_of_sl {B:Nat→Option Go.Obj} {l:List Tm} {a:Option Addr} {m:Nat} (h:SlAt 4 (TmAt B) B l a m):TmsAt B l a m :=
 ⟨h.1,h.2.1,h.2.2.imp id fun⟨b,off,h1,h2⟩=>⟨b,off,h1,el_of_row h2⟩⟩
section
variable {P:Program} {C:Ctx}
theorem callR_own {f:FuncId} {args:List AV} {hp:T Ev.Obj} {nx:Nat} {v:AV} (he:Enters P f) (hv:okV v=true) {K:AV→T Ev.Obj→Nat→Prop}
  (h:∀ φ w args',Rel φ hp.get nx w→Ext C w→VRels φ args args'.toList→Ret P f args' w (toV v)) (hK:K v hp nx):CallR P C f args hp nx K :=
 ⟨v,hp,nx,he,callOK_ret h (fun _=>okV_rel hv),hK⟩
theorem callR_ownG {α:Type} (x:α) (F:α→AV) {f:FuncId} {args:List AV} {hp:T Ev.Obj} {nx:Nat} (he:Enters P f) (hv:∀ u,okV (F u)=true) {K:AV→T Ev.Obj→Nat→Prop}
  (h:∀ φ w args',Rel φ hp.get nx w→Ext C w→VRels φ args args'.toList→Ret P f args' w (toV (F x))) (hK:∀ u,u=x→K (F u) hp nx):CallR P C f args hp nx K:=callR_own he (hv x) h (hK x rfl)
theorem vrel1 {φ:Phi} {a:AV} {args:Array Value} (h:VRels φ [a] args.toList):∃ v,args=#[v]∧VRel φ a v:=by
 obtain⟨args⟩:=args
 cases h with
 | cons h t=>cases t;exact⟨_,rfl,h⟩
theorem vrel2 {φ:Phi} {a b:AV} {args:Array Value} (h:VRels φ [a,b] args.toList):∃ v u,args=#[v,u]∧VRel φ a v∧VRel φ b u:=by
 obtain⟨args⟩:=args
 cases h with
 | cons h t=>cases t with|cons h2 t=>cases t;exact⟨_,_,rfl,h,h2⟩
theorem callv_ret {α:Type} (x:α) (F:α→AV) {f:FuncId} {first cap:Array Value} {args:List AV} {hp:T Ev.Obj} {nx:Nat} (he:Enters P f) (h1:oneAll first.toList=true) (h2:oneAll cap.toList=true)
  (ha:okVs (first.toList.map .val++args++cap.toList.map .val)=true) (hv:∀ u,okV (F u)=true) {K:AV→T Ev.Obj→Nat→Prop}
  (h:∀ w,Ext C w→Ret P f (toVs (first.toList.map .val++args++cap.toList.map .val)).toArray w (toV (F x))) (hK:∀ u,u=x→K (F u) hp nx):CallvR P C (.func (.func f) first cap) args hp nx K:=by
 refine⟨f,first,cap,F x,hp,nx,rfl,h1,h2,he,callOK_ret (fun φ w args' _ hx hr=>?_) (fun φ=>okV_rel (hv x)),hK x rfl⟩
 have:=okVs_inv ha hr
 have e:args'=(toVs (first.toList.map .val++args++cap.toList.map .val)).toArray:=by rw [← this]
 rw [e];exact h w hx
end
def RetO (P:Program) (f:FuncId) (args:Array Value) (w:World) (mk:AV) (ob:Ev.Obj):Prop :=
 Calls P f args w fun e w'=>∃ v l,e=.returned v∧Kept w w'∧w.heap.size≤l.block∧l.block<w'.heap.size∧(∀ b o N,l=.cells b o N→∃ e,w'.shape? b=some (e,N))∧VRel (upd (fun _=>none) 0 l) mk v∧ORel (fun _=>none) w' ob l
mutual
def AV.at0 (i:Nat):AV→AV
 | .sl _ a b c d e=>.sl i a b c d e
 | .map _=>.map i
 | .ptr _ o=>.ptr i o
 | .agg l=>.agg (AV.at0s i l)
 | .tup l=>.tup (AV.at0s i l)
 | .fn f x y=>.fn f (AV.at0s i x) (AV.at0s i y)
 | a=>a
def AV.at0s (i:Nat):List AV→List AV
 | []=>[]
 | a::l=>AV.at0 i a::AV.at0s i l
def AV.only0:AV→Bool
 | .sl i _ _ _ _ _=>Nat.beq i 0
 | .map i=>Nat.beq i 0
 | .ptr i _=>Nat.beq i 0
 | .agg l=>AV.only0s l
 | .tup l=>AV.only0s l
 | .fn _ x y=>match AV.only0s x with|true=>AV.only0s y|false=>false
 | .it _=>false
 | .yld _=>false
 | .iface _ _=>false
 | _=>true
def AV.only0s:List AV→Bool
 | []=>true
 | a::l=>match AV.only0 a with|true=>AV.only0s l|false=>false
end
mutual
theorem at0_rel {φ:Phi} {l:Ev.Loc} {i:Nat} (hi:φ i=some l):∀ {a:AV} {v:Value},AV.only0 a=true→VRel (upd (fun _=>none) 0 l) a v→VRel φ (AV.at0 i a) v
 | .bool _,_,_,q=>by cases q;exact .bool _
 | .int _ _,_,_,q=>by cases q;exact .int _ _
 | .str _,_,_,q=>by cases q;exact .str _
 | .ptr j o,_,h,q=>by
  have:=Nat.eq_of_beq_eq_true h;subst this
  cases q with|ptr q=>rw [upd_same] at q;cases q;exact .ptr hi
 | .it _,_,h,_=>by simp [AV.only0] at h
 | .nptr,_,_,q=>by cases q;exact .nptr
 | .sl j a b c d e,_,h,q=>by
  have:=Nat.eq_of_beq_eq_true h;subst this
  cases q with
  | sl q x y z u=>rw [upd_same] at q;cases q;exact .sl hi x y z u
  | sl0 q=>rw [upd_same] at q;cases q;exact .sl0 hi
 | .nsl,_,_,q=>by cases q;exact .nsl
 | .map j,_,h,q=>by
  have:=Nat.eq_of_beq_eq_true h;subst this
  cases q with|map q=>rw [upd_same] at q;cases q;exact .map hi
 | .nmap,_,_,q=>by cases q;exact .nmap
 | .fn f x y,_,h,q=>by
  unfold AV.only0 at h
  split at h
  ·next h1=>cases q with|fn _ hx hy=>exact .fn f (at0s_rel hi h1 hx) (at0s_rel hi h hy)
  ·simp at h
 | .nfn,_,_,q=>by cases q;exact .nfn
 | .yld _,_,h,_=>by simp [AV.only0] at h
 | .iface _ _,_,h,_=>by simp [AV.only0] at h
 | .nif,_,_,q=>by cases q;exact .nif
 | .agg x,_,h,q=>by cases q with|agg q=>exact .agg (at0s_rel hi (by simpa [AV.only0] using h) q)
 | .tup x,_,h,q=>by cases q with|tup q=>exact .tup (at0s_rel hi (by simpa [AV.only0] using h) q)
 | .val v,_,_,q=>by cases q with|val _ q=>exact .val _ q
theorem at0s_rel {φ:Phi} {l:Ev.Loc} {i:Nat} (hi:φ i=some l):∀ {a:List AV} {v:List Value},AV.only0s a=true→VRels (upd (fun _=>none) 0 l) a v→VRels φ (AV.at0s i a) v
 | [],_,_,q=>by cases q;exact .nil
 | a::r,_,h,q=>by
  unfold AV.only0s at h
  split at h
  ·next h1=>cases q with|cons q t=>exact .cons (at0_rel hi h1 q) (at0s_rel hi h t)
  ·simp at h
end
mutual
theorem at0_inv {φ:Phi} {l:Ev.Loc} {i:Nat} (hi:φ i=some l):∀ {a:AV} {v:Value},AV.only0 a=true→VRel φ (AV.at0 i a) v→VRel (upd (fun _=>none) 0 l) a v
 | .bool _,_,_,q=>by cases q;exact .bool _
 | .int _ _,_,_,q=>by cases q;exact .int _ _
 | .str _,_,_,q=>by cases q;exact .str _
 | .ptr j o,_,h,q=>by
  have:=Nat.eq_of_beq_eq_true h;subst this
  cases q with|ptr q=>rw [hi] at q;cases q;exact .ptr (upd_same _ _ _)
 | .it _,_,h,_=>by simp [AV.only0] at h
 | .nptr,_,_,q=>by cases q;exact .nptr
 | .sl j a b c d e,_,h,q=>by
  have:=Nat.eq_of_beq_eq_true h;subst this
  cases q with
  | sl q x y z u=>rw [hi] at q;cases q;exact .sl (upd_same _ _ _) x y z u
  | sl0 q=>rw [hi] at q;cases q;exact .sl0 (upd_same _ _ _)
 | .nsl,_,_,q=>by cases q;exact .nsl
 | .map j,_,h,q=>by
  have:=Nat.eq_of_beq_eq_true h;subst this
  cases q with|map q=>rw [hi] at q;cases q;exact .map (upd_same _ _ _)
 | .nmap,_,_,q=>by cases q;exact .nmap
 | .fn f x y,_,h,q=>by
  unfold AV.only0 at h
  split at h
  ·next h1=>cases q with|fn _ hx hy=>exact .fn f (at0s_inv hi h1 hx) (at0s_inv hi h hy)
  ·simp at h
 | .nfn,_,_,q=>by cases q;exact .nfn
 | .yld _,_,h,_=>by simp [AV.only0] at h
 | .iface _ _,_,h,_=>by simp [AV.only0] at h
 | .nif,_,_,q=>by cases q;exact .nif
 | .agg x,_,h,q=>by cases q with|agg q=>exact .agg (at0s_inv hi (by simpa [AV.only0] using h) q)
 | .tup x,_,h,q=>by cases q with|tup q=>exact .tup (at0s_inv hi (by simpa [AV.only0] using h) q)
 | .val v,_,_,q=>by cases q with|val _ q=>exact .val _ q
theorem at0s_inv {φ:Phi} {l:Ev.Loc} {i:Nat} (hi:φ i=some l):∀ {a:List AV} {v:List Value},AV.only0s a=true→VRels φ (AV.at0s i a) v→VRels (upd (fun _=>none) 0 l) a v
 | [],_,_,q=>by cases q;exact .nil
 | a::r,_,h,q=>by
  unfold AV.only0s at h
  split at h
  ·next h1=>cases q with|cons q t=>exact .cons (at0_inv hi h1 q) (at0s_inv hi h t)
  ·simp at h
end
section
variable {P:Program} {C:Ctx}
theorem callR_obj {f:FuncId} {args:List AV} {hp:T Ev.Obj} {nx:Nat} {mk:AV} {ob:Ev.Obj} (he:Enters P f) (ha:okVs args=true) (hmk:AV.only0 mk=true) {K:AV→T Ev.Obj→Nat→Prop}
  (h:∀ w,Ext C w→RetO P f (toVs args).toArray w mk ob) (hK:K (AV.at0 nx mk) (hp.set nx ob) (nx+1)):CallR P C f args hp nx K:=by
 refine⟨_,_,_,he,?_,hK⟩
 intro φ w args' hr hg hargs
 have e:args'=(toVs args).toArray:=by rw [← okVs_inv ha hargs]
 rw [e]
 refine(h w fun k o hk=>(hg.base k o hk).1).mono ?_
 rintro en w' ⟨v,l,rfl,hk,hlo,hhi,hsh,hv,ho⟩
 obtain⟨h1,h2⟩:=hr.kept hk
 have hfr:=(hr.fresh (Nat.le_refl nx)).1
 have hle:=le_upd' hfr l
 refine⟨v,upd φ nx l,rfl,at0_rel (upd_same _ _ _) hmk hv,?_,?_⟩
 ·rw [set_get]
  refine⟨fun i m hi=>?_,fun i b o N hi=>?_,fun i a hi=>?_,fun i j a b m n hi hj hne hown hm hn=>?_⟩
  ·by_cases e:nx=i
   ·subst e;rw [upd_same] at hi;cases hi;exact⟨Nat.lt_succ_self _,hhi⟩
   ·rw [upd_ne _ _ e] at hi;have:=h1.lt i m hi;exact⟨by omega,this.2⟩
  ·by_cases e:nx=i
   ·subst e;rw [upd_same] at hi;cases hi;exact hsh _ _ _ rfl
   ·rw [upd_ne _ _ e] at hi;exact h1.shp i b o N hi
  ·by_cases e:nx=i
   ·subst e;rw [upd_same] at hi;cases hi
    exact⟨l,upd_same _ _ _,ho.mono (fun _ _ q=>by cases q) rfl⟩
   ·rw [upd_ne _ _ e] at hi
    obtain⟨m,h3,h4⟩:=h1.dom i a hi
    exact⟨m,hle _ _ h3,h4.mono hle rfl⟩
  ·by_cases e:nx=i
   ·subst e
    rw [upd_same] at hm;cases hm
    rw [upd_ne _ _ hne] at hn
    have:=(hr.lt j n hn).2
    omega
   ·rw [upd_ne _ _ e] at hi hm
    by_cases e':nx=j
    ·subst e'
     rw [upd_same] at hn;cases hn
     have:=(hr.lt i m hm).2
     omega
    ·rw [upd_ne _ _ e'] at hj hn
     exact h1.sep i j a b m n hi hj hne hown hm hn
 ·rw [set_get]
  refine⟨Nat.le_succ _,fun i m hi=>if e:nx=i then .inr (by omega) else .inl (by rw [upd_ne _ _ e] at hi;exact hi),hle,h2.keeps,?_,?_⟩
  ·rintro k hk ⟨i,a,m,hi,hown,hm,hb⟩
   by_cases e:nx=i
   ·subst e;rw [upd_same] at hm;cases hm;omega
   ·rw [upd_ne _ _ e] at hi hm;exact⟨i,a,m,hi,hown,hm,hb⟩
  ·rintro k hk ⟨i,a,m,hi,hm,hb⟩
   by_cases e:nx=i
   ·subst e;rw [upd_same] at hm;cases hm;omega
   ·rw [upd_ne _ _ e] at hi hm;exact⟨i,a,m,hi,hm,hb⟩
end
theorem retO_of {f:FuncId} {fn:Func} {body:Code} {w:World} (hE:Env w) (hft:Tryz.prog.funcs[f]?=some fn) (hbd:fn.body=some body) (args:List AV) (ha:okVs args=true) {mk:AV} {ob:Ev.Obj} (hmk:AV.only0 mk=true) (hown:ob.own=true) (hlt:ob.ltB 0=true)
  (h:∀ Q:Ex→St→Prop,(∀ e st id,(exEnd e=true∧st.df=[]∧∃ vs,resA (ctxB (hb w)) st fn.results.toList=some vs∧retA vs=AV.at0 id mk∧st.hp.get 0=some (.ro calcAVs)∧id≠0∧st.hp.get id=some ob)→Q e st) →
   CodeP Tryz.prog (ctxB (hb w)) (maxA args.length fn.ntmps) none body ⟨argA args 0 .leaf,H0,1,[]⟩ Q):RetO Tryz.prog f (toVs args).toArray w mk ob:=by
 have hi:=init_of hE
 obtain⟨e,st,h1,id,h2,h3,vs,h4,h5,h0,hid,h6⟩:=h (fun e st=>∃ id,exEnd e=true∧st.df=[]∧∃ vs,resA (ctxB (hb w)) st fn.results.toList=some vs∧retA vs=AV.at0 id mk∧st.hp.get 0=some (.ro calcAVs)∧id≠0∧st.hp.get id=some ob) fun e st id q=>⟨id,q⟩
 refine(callOK_of (prog_okB _) hft hbd h1 ⟨h2,h3,vs,h4,rfl⟩ φ0 w _ hi.rel hi.base (by simpa using okVs_rel ha)).mono ?_
 rintro en w' ⟨v',φ',rfl,h8,h9,h10⟩
 obtain⟨l,h11,h12⟩:=h9.dom id ob h6
 obtain⟨l0,h13,h14⟩:=h9.dom 0 _ h0
 have hne:=h9.sep id 0 ob _ l l0 h6 h0 hid hown h11 h13
 have hl0:l0=.cells 1 0 6:=by
  have:=h10.le 0 (.cells 1 0 6) rfl
  rw [h13] at this;cases this;rfl
 refine⟨v',l,rfl,⟨h10.keeps.os,h10.keeps.tape,h10.keeps.output,h10.keeps.size,fun k hk=>h10.keeps.block k hk (hi.own k)⟩,?_,(h9.lt id l h11).2,fun b o N q=>by subst q;exact h9.shp id b o N h11,?_,?_⟩
 ·rcases Nat.lt_or_ge l.block w.heap.size with hlt'|hge
  ·exfalso
   obtain⟨i,a,m,h15,h16,h17⟩:=h10.live l.block hlt' ⟨id,ob,l,h6,h11,rfl⟩
   simp only [φ0] at h16
   split at h16
   ·cases h16
    rw [hl0] at hne
    exact hne h17.symm
   ·cases h16
  ·exact hge
 ·rw [h5] at h8;exact at0_inv h11 hmk h8
 ·have:=h12.cut (n:=0) hlt
  refine this.mono (fun i l q=>?_) rfl
  have:=(cut_some q).1
  omega
end Go.Proofs.YtaacpiniakmpbaaGreatDoor
