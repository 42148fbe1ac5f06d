/- The bytes of numbers, texts and terms, as the reference has them. -/
import Derived.Test.YtaacpiniakmpbaaGreatDoorX2
namespace Go.Proofs.YtaacpiniakmpbaaGreatDoor
open Go Ev Tryz
set_option linter.unusedSimpArgs false
set_option linter.unusedVariables false
set_option maxHeartbeats 4000000
set_option maxRecDepth 10000
theorem appendA_ex {e n m id nx sz:Nat} {te:TI} {hp:T Ev.Obj} {c d:List AV} (hsz:te.size=sz) (hby:Nat.ble te.bytes 1024=true) (hid:hp.get id=some (.cells c 0)) (hl:c.length=n*sz) (hn:0<n) (hb:n+m≤big) (hm:0<m) (hok:allOk d=true) :
  appendA e false te hp nx (.sl id 0 n n true sz) m d=some ⟨.sl nx 0 (n+m) (n+m) false sz,hp.set nx (.cells (c++d) 0),nx+1⟩:=by
 obtain⟨m,rfl⟩:∃ k,m=k+1:=⟨m - 1,by omega⟩
 obtain⟨n,rfl⟩:∃ k,n=k+1:=⟨n - 1,by omega⟩
 have h1:Nat.ble (n+1+(m+1)) big=true:=Nat.ble_eq_true_of_le hb
 have h2:Nat.ble (n+1+(m+1)) (n+1)=false:=by
  cases q:Nat.ble (n+1+(m+1)) (n+1) with
  | false=>rfl
  | true=>have:=Nat.le_of_ble_eq_true q;omega
 have h3:rdH hp id 0 ((n+1)*sz)=some c:=by
  simp only [rdH,hid,Ev.Obj.read,List.drop_zero]
  rw [takeN_of (by omega),List.take_of_length_le (by omega)]
 simp only [appendA,hsz,Nat.beq_refl,h1,hby,hok,h2,h3,mkO]
def Gave (B:Base) (l:List Nat) (B':Base) (v:AV) (hp:T Ev.Obj) (n:Nat):Prop :=
 B'=B∧n=2∧∃ c m,Vs c (byV l)∧m=l.length∧v=.sl 1 0 m m false 1∧hp=mkT [(0,.ro calcAVs),(1,.cells c 0)]
theorem rem128 (n:Nat):(Int.ofNat n).tmod 128=Int.ofNat (n%128):=rfl
theorem quo128 {n:Nat} (h:n<2 ^ 62):IntKind.i64.wrap ((Int.ofNat n).tdiv 128)=Int.ofNat (n / 128):=by
 have:(Int.ofNat n).tdiv 128=Int.ofNat (n / 128):=rfl
 rw [this,wrap_in (by simp;omega) (by simp;omega)]
theorem rnum {n:Nat} (hn:n<1099511627776) (B:Base):CallG Tryz.prog ctxZ B 76 [.val (.int .i64 (Int.ofNat n))] (mkT [(0,.ro calcAVs)]).get 1
   (fun B' v H n'=>∃ hp,H=T.get hp∧Gave B (encN n) B' v hp n') (fun v H n'=>∃ hp,H=T.get hp∧Never v hp n'):=by
 refine CallG.body prog_okZ func76 rfl ?_
 rintro⟨φ0,H0,_,w0,B⟩ hF rfl rfl rfl Q N hQ hN
 have hel:=encN_len 6 n (by omega) (by decide)
 refine CodeF.sy prog_okZ ?_
 intro _ _ _ _ _ _ _ _ _ _ _ _ _ Hc Hs Ha Hw Hd Ho Hl Hn Hi Hv Hz Hk He
 cbv
 refine He _ _ _ _ (CodeF.loop hF (gsLt rfl) (fun x:Bool×Nat×List Nat×List AV×Nat=>match x.1 with
   | true=>mkS [(0,.val (.int .i64 (Int.ofNat x.2.1))),(3,.nsl)] [(0,.ro calcAVs)] 2
   | false=>mkS [(0,.val (.int .i64 (Int.ofNat x.2.1))),(3,.sl 1 0 x.2.2.2.2 x.2.2.2.2 false 1)] [(0,.ro calcAVs),(1,.cells x.2.2.2.1 0)] 2)
  (fun x=>x.2.1) (fun x B'=>B'=B∧(x.1=false→Vs x.2.2.2.1 (byV x.2.2.1))∧(x.1=true→x.2.2.1=[])∧x.2.2.2.2=x.2.2.1.length∧x.2.2.1++encN x.2.1=encN n∧x.2.1<1099511627776) (true,n,[],[],0)
  ⟨rfl,(fun h=>by cases h),fun _=>rfl,rfl,rfl,hn⟩ (fun x=>by obtain⟨_|_,_⟩:=x<;>exact Nat.le_of_ble_eq_true rfl) (subr_mk (τ:=tauF []) rtl hpl rfl rfl) (fun i hi=>tauF_lt rfl hi) ?_)
 rintro⟨_|_,n',l',c',m'⟩ B' ⟨hB,hc',hnil,hm',hl',hn'⟩
 ·simp only at hB hm' hl' hn'
  have hc':=hc' rfl
  simp only at hc'
  clear hnil
  subst hB
  have Hn:l'.length+(encN n').length=(encN n).length:=by rw [← hl',List.length_append]
  have hlc:c'.length=m':=by rw [hc'.length,byV_len,hm']
  refine CodeF.sy prog_okZ ?_
  intro _ _ _ _ _ _ _ _ _ _ _ _ _ Hc2 Hs2 Ha2 Hw2 Hd2 Ho2 Hl2 Hn2 Hi2 Hv2 Hz2 Hk2 He2
  cbv
  refine Hc2 _ _ _ _ ?_
  rintro(_|_) h1<;>cbv
  ·have h2:n'<128:=by simp [cmp0] at h1;omega
   rw [encN_small h2] at hl' Hn
   refine Hw _ _ _ ?_
   intro q hq
   obtain rfl:q=Int.ofNat n':=by rw [hq];exact wrap_u8 (by omega)
   cbv
   refine Ho _ _ _ _ ?_
   refine append_ok (sz:=1) (m:=1) ctxAt rfl rfl rfl rfl rfl rfl rfl rfl rfl rfl (.inl ⟨_,rfl⟩) rfl rfl rfl rfl (by decide) rfl rfl (.inr ⟨1,m',c',rfl,?_,?_,?_,?_⟩)
   ·rfl
   ·omega
   ·unfold big;simp at Hn;omega
   obtain⟨d,hd⟩:∃ d,d=c'++[.val (.int .u8 (Int.ofNat n'))]:=⟨_,rfl⟩
   have hdv:Vs d (byV (l'++[n'])):=by rw [hd,byV_app];exact hc'.append ⟨rfl,rfl⟩
   obtain⟨k,hk⟩:∃ k,k=m'+1:=⟨_,rfl⟩
   rw [← hd,← hk]
   clear hd
   rw [hl'] at hdv
   cbv
   (with_reducible refine hQ _ _ _ rfl rfl ?_);refine⟨_,rfl,?_⟩;refine ExitR.sub hF (τ:=tauF [(1,3)]) (n2:=2) (hl:=[(0,.ro calcAVs),(1,.cells d 0)]) (v2:=.sl 1 0 k k false 1) (hsub_mk hpl rfl) (fun i hi=>tauF_lt rfl hi) (Nat.le_of_ble_eq_true rfl) (gsLt rfl) rfl (.refl _) (.done ?_)
   exact⟨rfl,rfl,d,k,hdv,by rw [← hl',hk,hm'];simp,rfl,rfl⟩
  ·have h2:¬ n'<128:=by simp [cmp0] at h1;omega
   rw [encN_big h2] at hl' Hn
   refine Hz2 _ _ _ _ (op_rem ctxAt rfl rfl rfl (fun _=>rfl) rfl ?_)
   intro q hq
   obtain⟨r,hr⟩:∃ r,r=n'%128:=⟨_,rfl⟩
   obtain rfl:q=Int.ofNat r:=by rw [hq,hr];exact rem128 n'
   cbv
   refine Ha2 _ _ _ _ _ ?_
   intro q hq
   obtain⟨r2,hr2⟩:∃ r2,r2=r+128:=⟨_,rfl⟩
   obtain rfl:q=Int.ofNat r2:=by rw [hq,hr2];exact(wrap_in (by simp;omega) (by simp;omega)).trans (by simp)
   cbv
   refine Hw2 _ _ _ ?_
   intro q hq
   obtain rfl:q=Int.ofNat r2:=by rw [hq];exact wrap_u8 (by omega)
   cbv
   refine Ho2 _ _ _ _ ?_
   refine append_ok (sz:=1) (m:=1) ctxAt rfl rfl rfl rfl rfl rfl rfl rfl rfl rfl (.inl ⟨_,rfl⟩) rfl rfl rfl rfl (by decide) rfl rfl (.inr ⟨1,m',c',rfl,?_,?_,?_,?_⟩)
   ·rfl
   ·omega
   ·unfold big;simp at Hn;omega
   obtain⟨d,hd⟩:∃ d,d=c'++[.val (.int .u8 (Int.ofNat r2))]:=⟨_,rfl⟩
   have hdv:Vs d (byV (l'++[r2])):=by rw [hd,byV_app];exact hc'.append ⟨rfl,rfl⟩
   obtain⟨k,hk⟩:∃ k,k=m'+1:=⟨_,rfl⟩
   rw [← hd,← hk]
   clear hd
   cbv
   refine Hz2 _ _ _ _ (op_quo ctxAt rfl rfl rfl (fun _=>rfl) rfl ?_)
   intro q hq
   obtain⟨p,hp⟩:∃ p,p=n' / 128:=⟨_,rfl⟩
   obtain rfl:q=Int.ofNat p:=by rw [hq,hp];exact quo128 (by omega)
   cbv
   refine⟨(false,p,l'++[r2],d,k),tauF [(1,3)],?_,⟨rfl,fun _=>hdv,(fun h=>by cases h),?_,?_,?_⟩,(subr_mk (τ:=tauF [(1,3)]) rtl hpl rfl rfl),fun i hi=>tauF_lt rfl hi⟩
   ·simp only;omega
   ·simp only [List.length_append,List.length_singleton];omega
   ·simp only [List.append_assoc,List.singleton_append];rw [hp,hr2,hr];exact hl'
   ·simp only;omega
 ·simp only at hB hm' hl' hn'
  have hnil:=hnil rfl
  simp only at hnil
  clear hc'
  subst hB hnil
  rw [List.nil_append] at hl'
  refine CodeF.sy prog_okZ ?_
  intro _ _ _ _ _ _ _ _ _ _ _ _ _ Hc2 Hs2 Ha2 Hw2 Hd2 Ho2 Hl2 Hn2 Hi2 Hv2 Hz2 Hk2 He2
  cbv
  refine Hc2 _ _ _ _ ?_
  rintro(_|_) h1<;>cbv
  ·have h2:n'<128:=by simp [cmp0] at h1;omega
   rw [encN_small h2] at hl'
   refine Hw _ _ _ ?_
   intro q hq
   obtain rfl:q=Int.ofNat n':=by rw [hq];exact wrap_u8 (by omega)
   cbv
   refine Ho _ _ _ _ ?_
   refine append_ok (sz:=1) (m:=1) ctxAt rfl rfl rfl rfl rfl rfl rfl rfl rfl rfl (.inl ⟨_,rfl⟩) rfl rfl rfl rfl (by decide) rfl rfl (.inl ⟨rfl,by decide,?_⟩)
   obtain⟨d,hd⟩:∃ d:List AV,d=[AV.val (.int .u8 (Int.ofNat n'))]:=⟨_,rfl⟩
   have hdv:Vs d (byV [n']):=by rw [hd];exact⟨rfl,rfl⟩
   rw [← hd]
   clear hd
   rw [hl'] at hdv
   cbv
   (with_reducible refine hQ _ _ _ rfl rfl ?_);refine⟨_,rfl,?_⟩;refine ExitR.sub hF (τ:=tauF [(1,3)]) (n2:=2) (hl:=[(0,.ro calcAVs),(1,.cells d 0)]) (v2:=.sl 1 0 1 1 false 1) (hsub_mk hpl rfl) (fun i hi=>tauF_lt rfl hi) (Nat.le_of_ble_eq_true rfl) (gsLt rfl) rfl (.refl _) (.done ?_)
   exact⟨rfl,rfl,d,1,hdv,by rw [← hl'];rfl,rfl,rfl⟩
  ·have h2:¬ n'<128:=by simp [cmp0] at h1;omega
   rw [encN_big h2] at hl'
   refine Hz2 _ _ _ _ (op_rem ctxAt rfl rfl rfl (fun _=>rfl) rfl ?_)
   intro q hq
   obtain⟨r,hr⟩:∃ r,r=n'%128:=⟨_,rfl⟩
   obtain rfl:q=Int.ofNat r:=by rw [hq,hr];exact rem128 n'
   cbv
   refine Ha2 _ _ _ _ _ ?_
   intro q hq
   obtain⟨r2,hr2⟩:∃ r2,r2=r+128:=⟨_,rfl⟩
   obtain rfl:q=Int.ofNat r2:=by rw [hq,hr2];exact(wrap_in (by simp;omega) (by simp;omega)).trans (by simp)
   cbv
   refine Hw2 _ _ _ ?_
   intro q hq
   obtain rfl:q=Int.ofNat r2:=by rw [hq];exact wrap_u8 (by omega)
   cbv
   refine Ho2 _ _ _ _ ?_
   refine append_ok (sz:=1) (m:=1) ctxAt rfl rfl rfl rfl rfl rfl rfl rfl rfl rfl (.inl ⟨_,rfl⟩) rfl rfl rfl rfl (by decide) rfl rfl (.inl ⟨rfl,by decide,?_⟩)
   obtain⟨d,hd⟩:∃ d:List AV,d=[AV.val (.int .u8 (Int.ofNat r2))]:=⟨_,rfl⟩
   have hdv:Vs d (byV [r2]):=by rw [hd];exact⟨rfl,rfl⟩
   rw [← hd]
   clear hd
   cbv
   refine Hz2 _ _ _ _ (op_quo ctxAt rfl rfl rfl (fun _=>rfl) rfl ?_)
   intro q hq
   obtain⟨p,hp⟩:∃ p,p=n' / 128:=⟨_,rfl⟩
   obtain rfl:q=Int.ofNat p:=by rw [hq,hp];exact quo128 (by omega)
   cbv
   refine⟨(false,p,[r2],d,1),tauF [(1,3)],?_,⟨rfl,fun _=>hdv,(fun h=>by cases h),rfl,?_,?_⟩,(subr_mk (τ:=tauF [(1,3)]) rtl hpl rfl rfl),fun i hi=>tauF_lt rfl hi⟩
   ·simp only;omega
   ·simp only [List.singleton_append];rw [hp,hr2,hr];exact hl'
   ·simp only;omega
theorem rtext {s:ByteArray} (hs:s.size≤1048576) (B:Base):CallG Tryz.prog ctxZ B 129 [.val (.string s)] (mkT [(0,.ro calcAVs)]).get 1
   (fun B' v H n'=>∃ hp,H=T.get hp∧Gave B (encS s) B' v hp n') (fun v H n'=>∃ hp,H=T.get hp∧Never v hp n'):=by
 refine CallG.body prog_okZ func129 rfl ?_
 rintro⟨φ0,H0,_,w0,B⟩ hF rfl rfl rfl Q N hQ hN
 have hel:=encN_len 6 s.size (by omega) (by decide)
 refine CodeF.sy prog_okZ ?_
 intro _ _ _ _ _ _ _ _ _ _ _ _ _ Hc Hs Ha Hw Hd Ho Hl Hn Hi Hv Hz Hk He
 cbv
 refine Hn _ _ _ _ (len_stZ ?_)
 intro z hz
 cbv
 refine Hk _ _ _ _ _ _ _ ?_
 refine CallZ.of (tauF []) (n:=1) (l0:=[(0,.ro calcAVs)]) call76 (rnum (by omega) B) hpl rfl rfl rfl (gsT rfl rfl) rfl rfl ?_ (fun _ _ _ h=>h.elim)
 rintro B v hp' n' ⟨rfl,rfl,c2,m2,hc2,hm2,rfl,rfl⟩ _
 refine⟨_,rfl,rfl,?_⟩
 intro hpX hX
 simp only [layR,Ev.Obj.ren,hc2.rens] at hX
 subst hX
 cbv
 refine Ho _ _ _ _ ?_
 have hml:m2=(encN s.size).length:=by rw [hm2,hz]
 refine append_str ctxAt rfl rfl rfl rfl rfl rfl rfl rfl rfl rfl rfl (by decide) rfl rfl rfl hc2 hm2 (by unfold big;omega) ?_ ?_
 ·intro h0
  cbv
  (with_reducible refine hQ _ _ _ rfl rfl ?_);refine⟨_,rfl,?_⟩;refine ExitR.sub hF (τ:=tauF []) (n2:=2) (hl:=[(0,.ro calcAVs),(1,.cells c2 0)]) (v2:=.sl 1 0 m2 m2 false 1) (hsub_mk hpl rfl) (fun i hi=>tauF_lt rfl hi) (Nat.le_of_ble_eq_true rfl) (gsLt rfl) rfl (.refl _) (.done ?_)
  refine⟨rfl,rfl,c2,m2,?_,?_,rfl,rfl⟩
  ·rw [encS,h0,List.append_nil,← hz];exact hc2
  ·rw [hml,encS,h0,List.append_nil]
 ·intro d k hd hk
  cbv
  (with_reducible refine hQ _ _ _ rfl rfl ?_);refine⟨_,rfl,?_⟩;refine ExitR.sub hF (τ:=tauF [(1,2)]) (n2:=2) (hl:=[(0,.ro calcAVs),(1,.cells d 0)]) (v2:=.sl 1 0 k k false 1) (hsub_mk hpl rfl) (fun i hi=>tauF_lt rfl hi) (Nat.le_of_ble_eq_true rfl) (gsLt rfl) rfl (.refl _) (.done ?_)
  refine⟨rfl,rfl,d,k,?_,?_,rfl,rfl⟩
  ·rw [encS,← hz];exact hd
  ·rw [hk,encS,hz]
theorem encN_pos (n:Nat):0<(encN n).length:=by
 by_cases h:n<128
 ·rw [encN_small h];simp
 ·rw [encN_big h];simp
theorem encT_pos:∀ t:Tm,0<(encT t).length
 | .mk _ _ _ _=>by rw [encT];simp
theorem encS_pos (s:ByteArray):0<(encS s).length:=by rw [encS,List.length_append];have:=encN_pos s.size;omega
theorem append_byte {B:Base} {o:Oper} {c:Call} {t u a b e:Nat} {ti tu te:TI} (ho:o.op=.call c) (hc:c.callee=.builtin .append) (ha:c.args.toList=[.tmp a,.tmp b]) (hty:c.argTypes.toList=[t,u]) (ht:ttG.get t=some ti) (hu:ttG.get u=some tu) (hk:ti.k=.sl e) (hte:ttG.get e=some te)
  (hsz:te.size=1) (hby:Nat.ble te.bytes 1024=true) (huk:∃ e',tu.k=.sl e') {st:St} {id id2 m:Nat} {x:Nat} {c2:List AV} {l:List Nat} (hx:st.tm.get a=some (.sl id 0 1 1 true 1)) (hy:st.tm.get b=some (.sl id2 0 m m false 1)) (hid:st.hp.get id=some (.cells [.val (.int .u8 (Int.ofNat x))] 0)) (hid2:st.hp.get id2=some (.cells c2 0)) (hc2:Vs c2 (byV l)) (hm:m=l.length) (hm0:0<m) (hb:1+m≤big)
  {K:AV→T Ev.Obj→Nat→Prop} (h:∀ d k,Vs d (byV (x::l))→k=(x::l).length→K (.sl st.nx 0 k k false 1) (st.hp.set st.nx (.cells d 0)) (st.nx+1)):OpR Tryz.prog (ctxZ.at B) o st K:=by
 obtain⟨e',he'⟩:=huk
 have hd:Vs ([.val (.int .u8 (Int.ofNat x))]++c2) (byV (x::l)):=by
  have h1:Vs [AV.val (.int .u8 (Int.ofNat x))] (byV [x]):=⟨rfl,rfl⟩
  exact h1.append hc2
 have hr:=appendA_ex (e:=e) (te:=te) (hp:=st.hp) (nx:=st.nx) (n:=1) (m:=m) hsz hby hid rfl (by decide) hb hm0 hc2.allOk
 have hsrc:srcA st.hp te.size (.sl id2 0 m m false 1)=some (m,c2):=by rw [hsz];exact srcA_own hid2 (by rw [hc2.length,byV_len,hm];omega) hm0
 have hsk:srcKind tu.k (.sl id2 0 m m false 1)=true:=by rw [he'];rfl
 exact⟨_,_,_,OpOK.chg ctxAt (append_chg ho hc ha hty ht hu hk hte (.inl ⟨e',he'⟩) hx hy hsk hsrc hr),h _ (1+m) hd (by rw [hm];simp;omega)⟩
theorem append_own {B:Base} {o:Oper} {c:Call} {t u a b e:Nat} {ti tu te:TI} (ho:o.op=.call c) (hc:c.callee=.builtin .append) (ha:c.args.toList=[.tmp a,.tmp b]) (hty:c.argTypes.toList=[t,u]) (ht:ttG.get t=some ti) (hu:ttG.get u=some tu) (hk:ti.k=.sl e) (hte:ttG.get e=some te)
  (hsz:te.size=1) (hby:Nat.ble te.bytes 1024=true) (huk:∃ e',tu.k=.sl e') {st:St} {id id2 n m:Nat} {c1 c2:List AV} {l1 l2:List Nat} (hx:st.tm.get a=some (.sl id 0 n n false 1)) (hy:st.tm.get b=some (.sl id2 0 m m false 1)) (hid:st.hp.get id=some (.cells c1 0)) (hc1:Vs c1 (byV l1)) (hn:n=l1.length) (hid2:st.hp.get id2=some (.cells c2 0)) (hc2:Vs c2 (byV l2)) (hm:m=l2.length) (hm0:0<m) (hb:n+m≤big)
  {K:AV→T Ev.Obj→Nat→Prop} (h:∀ d k,Vs d (byV (l1++l2))→k=(l1++l2).length→K (.sl st.nx 0 k k false 1) ((st.hp.del id).set st.nx (.cells d 0)) (st.nx+1)):OpR Tryz.prog (ctxZ.at B) o st K:=by
 obtain⟨e',he'⟩:=huk
 have hd:Vs (c1++c2) (byV (l1++l2)):=by rw [byV_app];exact hc1.append hc2
 have hr:=appendA_own (e:=e) (te:=te) (hp:=st.hp) (nx:=st.nx) (n:=n) (m:=m) hsz hby hid (by rw [hc1.length,byV_len,hn];omega) hb hm0 hc2.allOk false
 have hsrc:srcA st.hp te.size (.sl id2 0 m m false 1)=some (m,c2):=by rw [hsz];exact srcA_own hid2 (by rw [hc2.length,byV_len,hm];omega) hm0
 have hsk:srcKind tu.k (.sl id2 0 m m false 1)=true:=by rw [he'];rfl
 exact⟨_,_,_,OpOK.chg ctxAt (append_chg ho hc ha hty ht hu hk hte (.inl ⟨e',he'⟩) hx hy hsk hsrc hr),h _ (n+m) hd (by rw [hn,hm];simp)⟩
theorem rterm (N0:Nat):∀ (t:Tm),tsz t<N0→nodesS t=true→∀ {B:Base} {cs:List Value},TmAt B t cs→(encT t).length+16≤67108864 →
  CallG Tryz.prog ctxZ B 77 [.agg (cs.map .val)] (mkT [(0,.ro calcAVs)]).get 1
   (fun B' v H n'=>∃ hp,H=T.get hp∧Gave B (encT t) B' v hp n') (fun v H n'=>∃ hp,H=T.get hp∧Never v hp n'):=by
 induction N0 with
 | zero=>intro t h;omega
 | succ N0 ih =>
  rintro⟨k,n,s,l⟩ hN hg B cs ht hb
  obtain⟨a,m,cp,rfl,hl⟩:=ht.out
  have hsz:=ht.sz
  obtain⟨r1,hr1⟩:∃ r,r=encT (.mk k n s l):=⟨_,rfl⟩
  rw [← hr1] at hb ⊢
  rw [tsz] at hN
  rw [nodesS,Bool.and_eq_true] at hg
  have hnf:=node_fits hg.1
  have hk16:1≤k∧k≤6:=by omega
  refine CallG.body prog_okZ func77 rfl ?_
  rintro⟨φ0,H0,_,w0,B⟩ hF rfl rfl rfl Q N hQ hN2
  refine CodeF.sy prog_okZ ?_
  intro _ _ _ _ _ _ _ _ _ _ _ _ _ Hc Hs Ha Hw Hd Ho Hl Hn Hi Hv Hz Hk He
  cbv
  have hl:TmsAt B l a m:=hl
  have ht:TmAt B (.mk k n s l) [.int .i64 k,.int .i64 n,.string s,.slice a m cp]:=ht
  refine Hw _ _ _ ?_
  intro q hq
  obtain⟨kb,hkb⟩:∃ kb,kb=k.toNat:=⟨_,rfl⟩
  obtain rfl:q=Int.ofNat kb:=by rw [hq,hkb];exact wrap_k (by omega) (by omega)
  cbv
  refine Hc _ _ _ _ ?_
  rintro(_|_) hk1<;>cbv
  ·refine Hc _ _ _ _ ?_
   rintro(_|_) hk2<;>cbv
   ·refine Hc _ _ _ _ ?_
    rintro(_|_) hk3<;>cbv
    ·refine Hc _ _ _ _ ?_
     rintro(_|_) hk4<;>cbv
     ·simp [cmp0] at hk1 hk2 hk3 hk4
      rw [encT,if_neg hk1,if_neg hk2,if_neg (by omega)] at hr1
      refine Hc _ _ _ _ ?_
      rintro(_|_) hk5<;>cbv
      ·simp [cmp0] at hk5
       rw [if_neg hk5,← hkb] at hr1
       have hm64:m≤64:=by rw [hl.1];omega
       refine Hn _ _ _ _ (len_slZ rfl rfl ?_)
       cbv
       refine Hk _ _ _ _ _ _ _ ?_
       refine CallZ.of (tauF []) (n:=1) (l0:=[(0,.ro calcAVs)]) call76 (rnum (by omega) B) hpl rfl rfl rfl (gsT rfl rfl) rfl rfl ?_ (fun _ _ _ h=>h.elim)
       rintro B v hp' n' ⟨rfl,rfl,c2,m2,hc2,hm2,rfl,rfl⟩ _
       refine⟨_,rfl,rfl,?_⟩
       intro hpX hX
       simp only [layR,Ev.Obj.ren,hc2.rens] at hX
       subst hX
       cbv
       have hml:m2≤6:=by rw [hm2];exact encN_len 6 m (by omega) (by decide)
       have hm0:0<m2:=by rw [hm2];exact encN_pos _
       refine Ho _ _ _ _ ?_
       refine append_byte rfl rfl rfl rfl rfl rfl rfl rfl rfl rfl ⟨_,rfl⟩ rfl rfl rfl rfl hc2 hm2 hm0 (by unfold big;omega) ?_
       intro d9 k9 hd9 hk9
       cbv
       have hw:kb::encN m++encTs (l.drop 0)=r1:=by rw [hr1,hl.1,List.drop_zero];simp
       refine He _ _ _ _ (CodeF.loop hF (gsLt rfl) (fun x:Nat×List Nat×List AV×Nat=>mkS [(1,.ptr 1 0),(3,.sl 2 0 x.2.2.2 x.2.2.2 false 1),(4,.val (.int .i64 (Int.ofNat x.1)))] [(0,.ro calcAVs),(1,.cells [.val (.int .i64 k),.val (.int .i64 n),.val (.string s),.val (.slice a m cp)] 0),(2,.cells x.2.2.1 0)] 3)
        (fun x=>m - x.1) (fun x B'=>B'=B∧Vs x.2.2.1 (byV x.2.1)∧x.2.2.2=x.2.1.length∧x.2.1++encTs (l.drop x.1)=r1∧x.1≤m) (0,_,d9,k9) ⟨rfl,hd9,hk9,hw,Nat.zero_le _⟩ (fun _=>Nat.le_of_ble_eq_true rfl) (subr_mk (τ:=tauF [(2,4)]) rtl hpl rfl rfl) (fun i hi=>tauF_lt rfl hi) ?_)
       rintro⟨i,l',c',m'⟩ B' ⟨hB,hc',hm',hl',hi⟩
       simp only at hB hc' hm' hl' hi
       subst hB
       refine CodeF.sy prog_okZ ?_
       intro _ _ _ _ _ _ _ _ _ _ _ _ _ Hc2 Hs2 Ha2 Hw2 Hd2 Ho2 Hl2 Hn2 Hi2 Hv2 Hz2 Hk2 He2
       cbv
       refine Hn2 _ _ _ _ (len_slZ rfl rfl ?_)
       cbv
       refine Hc2 _ _ _ _ ?_
       rintro(_|_) h1<;>cbv
       ·have hge:m≤i:=by simpa [cmp0] using h1
        rw [List.drop_of_length_le (by rw [← hl.1];exact hge),encTs,List.append_nil] at hl'
        (with_reducible refine hQ _ _ _ rfl rfl ?_);refine⟨_,rfl,?_⟩;refine ExitR.sub hF (τ:=tauF [(1,2)]) (n2:=2) (hl:=[(0,.ro calcAVs),(1,.cells c' 0)]) (v2:=.sl 1 0 m' m' false 1) (hsub_mk hpl rfl) (fun i hi=>tauF_lt rfl hi) (Nat.le_of_ble_eq_true rfl) (gsLt rfl) rfl (.refl _) (.done ?_)
        exact⟨rfl,rfl,c',m',by rw [← hl'];exact hc',by rw [← hl'];exact hm',rfl,rfl⟩
       ·have hlt:i<m:=by simpa [cmp0] using h1
        refine Hi2 _ _ _ _ _ (idx_tmZ hl hlt ?_)
        rintro p ⟨k',n',s',l''⟩ cs' hgt hcs ht'
        cbv
        refine Hl2 _ _ _ _ (load_tmZ hcs ht' ?_)
        obtain⟨a',mm,c'',rfl,hl2⟩:=ht'.out
        have hm:=tsz_mem hgt
        rw [drop_get hgt,encTs] at hl'
        have hgt':=nodess_get hg.2 hgt
        have hlen':l'.length+(encT (.mk k' n' s' l'')).length≤r1.length:=by
         have:=congrArg List.length hl'
         simp only [List.length_append] at this;omega
        have htp:=encT_pos (.mk k' n' s' l'')
        cbv
        refine Hk2 _ _ _ _ _ _ _ ?_
        refine CallZ.of (tauF []) (n:=1) (l0:=[(0,.ro calcAVs)]) call77 (ih _ (by omega) hgt' ht' (by omega)) hpl rfl rfl rfl (gsT rfl rfl) rfl rfl ?_ (fun _ _ _ h=>h.elim)
        rintro B v hp' n' ⟨rfl,rfl,c4,m4,hc4,hm4,rfl,rfl⟩ _
        refine⟨_,rfl,rfl,?_⟩
        intro hpX hX
        simp only [layR,Ev.Obj.ren,hc4.rens] at hX
        subst hX
        cbv
        refine Ho2 _ _ _ _ ?_
        refine append_own rfl rfl rfl rfl rfl rfl rfl rfl rfl rfl ⟨_,rfl⟩ rfl rfl rfl hc' hm' rfl hc4 hm4 (by omega) (by unfold big;omega) ?_
        intro d kz hd hk'
        cbv
        refine Ha2 _ _ _ _ _ ?_
        rintro q rfl
        rw [ar0_suc (by omega)]
        cbv
        refine⟨(i+1,l'++encT (.mk k' n' s' l''),d,kz),tauF [(2,4)],?_,⟨rfl,hd,hk',?_,?_⟩,(subr_mk (τ:=tauF [(2,4)]) rtl hpl rfl rfl),fun i hi=>tauF_lt rfl hi⟩
        ·simp only;omega
        ·simp only [List.append_assoc];exact hl'
        ·simp only;omega
      ·simp [cmp0] at hk5
       rw [if_pos hk5,← hkb] at hr1
       have hs2:s.size≤255:=by omega
       have hm64:m≤64:=by rw [hl.1];omega
       refine Hk _ _ _ _ _ _ _ ?_
       refine CallZ.of (tauF []) (n:=1) (l0:=[(0,.ro calcAVs)]) call129 (rtext (by omega) B) hpl rfl rfl rfl (gsT rfl rfl) rfl rfl ?_ (fun _ _ _ h=>h.elim)
       rintro B v hp' n' ⟨rfl,rfl,c2,m2,hc2,hm2,rfl,rfl⟩ _
       refine⟨_,rfl,rfl,?_⟩
       intro hpX hX
       simp only [layR,Ev.Obj.ren,hc2.rens] at hX
       subst hX
       cbv
       have hml:m2+500≤67108864:=by have:=encN_len 6 s.size (by omega) (by decide);rw [hm2];simp [encS,bytesOf_len];omega
       have hm0:0<m2:=by rw [hm2];first|exact encN_pos _|exact encS_pos _
       refine Ho _ _ _ _ ?_
       refine append_byte rfl rfl rfl rfl rfl rfl rfl rfl rfl rfl ⟨_,rfl⟩ rfl rfl rfl rfl hc2 hm2 hm0 (by unfold big;omega) ?_
       intro d kk hd hk
       cbv
       refine Hn _ _ _ _ (len_slZ rfl rfl ?_)
       cbv
       refine Hk _ _ _ _ _ _ _ ?_
       refine CallZ.of (tauF []) (n:=1) (l0:=[(0,.ro calcAVs)]) call76 (rnum (by omega) B) hpl rfl rfl rfl (gsT rfl rfl) rfl rfl ?_ (fun _ _ _ h=>h.elim)
       rintro B v hp' n' ⟨rfl,rfl,c3,m3,hc3,hm3,rfl,rfl⟩ _
       refine⟨_,rfl,rfl,?_⟩
       intro hpX hX
       simp only [layR,Ev.Obj.ren,hc3.rens] at hX
       subst hX
       cbv
       have hml3:m3≤6:=by rw [hm3];exact encN_len 6 m (by omega) (by decide)
       have hm30:0<m3:=by rw [hm3];exact encN_pos _
       have hkk:kk=m2+1:=by rw [hk,hm2];simp
       refine Ho _ _ _ _ ?_
       refine append_own rfl rfl rfl rfl rfl rfl rfl rfl rfl rfl ⟨_,rfl⟩ rfl rfl rfl hd hk rfl hc3 hm3 hm30 (by unfold big;omega) ?_
       intro d9 k9 hd9 hk9
       cbv
       have hw:kb::encS s++encN m++encTs (l.drop 0)=r1:=by rw [hr1,hl.1,List.drop_zero];simp
       refine He _ _ _ _ (CodeF.loop hF (gsLt rfl) (fun x:Nat×List Nat×List AV×Nat=>mkS [(1,.ptr 1 0),(3,.sl 2 0 x.2.2.2 x.2.2.2 false 1),(4,.val (.int .i64 (Int.ofNat x.1)))] [(0,.ro calcAVs),(1,.cells [.val (.int .i64 k),.val (.int .i64 n),.val (.string s),.val (.slice a m cp)] 0),(2,.cells x.2.2.1 0)] 3)
        (fun x=>m - x.1) (fun x B'=>B'=B∧Vs x.2.2.1 (byV x.2.1)∧x.2.2.2=x.2.1.length∧x.2.1++encTs (l.drop x.1)=r1∧x.1≤m) (0,_,d9,k9) ⟨rfl,hd9,hk9,hw,Nat.zero_le _⟩ (fun _=>Nat.le_of_ble_eq_true rfl) (subr_mk (τ:=tauF [(2,6)]) rtl hpl rfl rfl) (fun i hi=>tauF_lt rfl hi) ?_)
       rintro⟨i,l',c',m'⟩ B' ⟨hB,hc',hm',hl',hi⟩
       simp only at hB hc' hm' hl' hi
       subst hB
       refine CodeF.sy prog_okZ ?_
       intro _ _ _ _ _ _ _ _ _ _ _ _ _ Hc2 Hs2 Ha2 Hw2 Hd2 Ho2 Hl2 Hn2 Hi2 Hv2 Hz2 Hk2 He2
       cbv
       refine Hn2 _ _ _ _ (len_slZ rfl rfl ?_)
       cbv
       refine Hc2 _ _ _ _ ?_
       rintro(_|_) h1<;>cbv
       ·have hge:m≤i:=by simpa [cmp0] using h1
        rw [List.drop_of_length_le (by rw [← hl.1];exact hge),encTs,List.append_nil] at hl'
        (with_reducible refine hQ _ _ _ rfl rfl ?_);refine⟨_,rfl,?_⟩;refine ExitR.sub hF (τ:=tauF [(1,2)]) (n2:=2) (hl:=[(0,.ro calcAVs),(1,.cells c' 0)]) (v2:=.sl 1 0 m' m' false 1) (hsub_mk hpl rfl) (fun i hi=>tauF_lt rfl hi) (Nat.le_of_ble_eq_true rfl) (gsLt rfl) rfl (.refl _) (.done ?_)
        exact⟨rfl,rfl,c',m',by rw [← hl'];exact hc',by rw [← hl'];exact hm',rfl,rfl⟩
       ·have hlt:i<m:=by simpa [cmp0] using h1
        refine Hi2 _ _ _ _ _ (idx_tmZ hl hlt ?_)
        rintro p ⟨k',n',s',l''⟩ cs' hgt hcs ht'
        cbv
        refine Hl2 _ _ _ _ (load_tmZ hcs ht' ?_)
        obtain⟨a',mm,c'',rfl,hl2⟩:=ht'.out
        have hm:=tsz_mem hgt
        rw [drop_get hgt,encTs] at hl'
        have hgt':=nodess_get hg.2 hgt
        have hlen':l'.length+(encT (.mk k' n' s' l'')).length≤r1.length:=by
         have:=congrArg List.length hl'
         simp only [List.length_append] at this;omega
        have htp:=encT_pos (.mk k' n' s' l'')
        cbv
        refine Hk2 _ _ _ _ _ _ _ ?_
        refine CallZ.of (tauF []) (n:=1) (l0:=[(0,.ro calcAVs)]) call77 (ih _ (by omega) hgt' ht' (by omega)) hpl rfl rfl rfl (gsT rfl rfl) rfl rfl ?_ (fun _ _ _ h=>h.elim)
        rintro B v hp' n' ⟨rfl,rfl,c4,m4,hc4,hm4,rfl,rfl⟩ _
        refine⟨_,rfl,rfl,?_⟩
        intro hpX hX
        simp only [layR,Ev.Obj.ren,hc4.rens] at hX
        subst hX
        cbv
        refine Ho2 _ _ _ _ ?_
        refine append_own rfl rfl rfl rfl rfl rfl rfl rfl rfl rfl ⟨_,rfl⟩ rfl rfl rfl hc' hm' rfl hc4 hm4 (by omega) (by unfold big;omega) ?_
        intro d kz hd hk'
        cbv
        refine Ha2 _ _ _ _ _ ?_
        rintro q rfl
        rw [ar0_suc (by omega)]
        cbv
        refine⟨(i+1,l'++encT (.mk k' n' s' l''),d,kz),tauF [(2,4)],?_,⟨rfl,hd,hk',?_,?_⟩,(subr_mk (τ:=tauF [(2,4)]) rtl hpl rfl rfl),fun i hi=>tauF_lt rfl hi⟩
        ·simp only;omega
        ·simp only [List.append_assoc];exact hl'
        ·simp only;omega
     ·simp [cmp0] at hk1 hk2 hk3 hk4
      rw [encT,if_neg hk1,if_neg hk2,if_pos (.inr hk4),← hkb] at hr1
      have hs2:s.size≤255:=by omega
      refine Hk _ _ _ _ _ _ _ ?_
      refine CallZ.of (tauF []) (n:=1) (l0:=[(0,.ro calcAVs)]) call129 (rtext (by omega) B) hpl rfl rfl rfl (gsT rfl rfl) rfl rfl ?_ (fun _ _ _ h=>h.elim)
      rintro B v hp' n' ⟨rfl,rfl,c2,m2,hc2,hm2,rfl,rfl⟩ _
      refine⟨_,rfl,rfl,?_⟩
      intro hpX hX
      simp only [layR,Ev.Obj.ren,hc2.rens] at hX
      subst hX
      cbv
      have hml:m2≤67108864:=by have:=congrArg List.length hr1;simp at this;omega
      have hm0:0<m2:=by rw [hm2];first|exact encN_pos _|exact encS_pos _
      refine Ho _ _ _ _ ?_
      refine append_byte rfl rfl rfl rfl rfl rfl rfl rfl rfl rfl ⟨_,rfl⟩ rfl rfl rfl rfl hc2 hm2 hm0 (by unfold big;omega) ?_
      intro d kk hd hk
      cbv
      (with_reducible refine hQ _ _ _ rfl rfl ?_);refine⟨_,rfl,?_⟩;refine ExitR.sub hF (τ:=tauF [(1,4)]) (n2:=2) (hl:=[(0,.ro calcAVs),(1,.cells d 0)]) (v2:=.sl 1 0 kk kk false 1) (hsub_mk hpl rfl) (fun i hi=>tauF_lt rfl hi) (Nat.le_of_ble_eq_true rfl) (gsLt rfl) rfl (.refl _) (.done ?_)
      exact⟨rfl,rfl,d,kk,by rw [hr1];exact hd,by rw [hr1];exact hk,rfl,rfl⟩
    ·simp [cmp0] at hk1 hk2 hk3
     rw [encT,if_neg hk1,if_neg hk2,if_pos (.inl hk3),← hkb] at hr1
     have hs2:s.size≤255:=by omega
     refine Hk _ _ _ _ _ _ _ ?_
     refine CallZ.of (tauF []) (n:=1) (l0:=[(0,.ro calcAVs)]) call129 (rtext (by omega) B) hpl rfl rfl rfl (gsT rfl rfl) rfl rfl ?_ (fun _ _ _ h=>h.elim)
     rintro B v hp' n' ⟨rfl,rfl,c2,m2,hc2,hm2,rfl,rfl⟩ _
     refine⟨_,rfl,rfl,?_⟩
     intro hpX hX
     simp only [layR,Ev.Obj.ren,hc2.rens] at hX
     subst hX
     cbv
     have hml:m2≤67108864:=by have:=congrArg List.length hr1;simp at this;omega
     have hm0:0<m2:=by rw [hm2];first|exact encN_pos _|exact encS_pos _
     refine Ho _ _ _ _ ?_
     refine append_byte rfl rfl rfl rfl rfl rfl rfl rfl rfl rfl ⟨_,rfl⟩ rfl rfl rfl rfl hc2 hm2 hm0 (by unfold big;omega) ?_
     intro d kk hd hk
     cbv
     (with_reducible refine hQ _ _ _ rfl rfl ?_);refine⟨_,rfl,?_⟩;refine ExitR.sub hF (τ:=tauF [(1,4)]) (n2:=2) (hl:=[(0,.ro calcAVs),(1,.cells d 0)]) (v2:=.sl 1 0 kk kk false 1) (hsub_mk hpl rfl) (fun i hi=>tauF_lt rfl hi) (Nat.le_of_ble_eq_true rfl) (gsLt rfl) rfl (.refl _) (.done ?_)
     exact⟨rfl,rfl,d,kk,by rw [hr1];exact hd,by rw [hr1];exact hk,rfl,rfl⟩
   ·simp [cmp0] at hk1 hk2
    rw [encT,if_neg hk1,if_pos hk2,← hkb] at hr1
    refine Hc _ _ _ _ ?_
    rintro(_|_) hn0<;>cbv
    ·have hn0:0≤n:=by simpa [cmp0] using hn0
     rw [if_pos (by omega)] at hr1
     refine Ha _ _ _ _ _ ?_
     intro q hq
     obtain⟨z,hz2⟩:∃ z:Nat,z=(2*n).toNat:=⟨_,rfl⟩
     rw [← hz2] at hr1
     obtain rfl:q=Int.ofNat z:=by rw [hq];refine(wrap_in (by omega) (by omega)).trans ?_;simp;omega
     have hzl:z<1099511627776:=by omega
     cbv
     refine Hk _ _ _ _ _ _ _ ?_
     refine CallZ.of (tauF []) (n:=1) (l0:=[(0,.ro calcAVs)]) call76 (rnum hzl B) hpl rfl rfl rfl (gsT rfl rfl) rfl rfl ?_ (fun _ _ _ h=>h.elim)
     rintro B v hp' n' ⟨rfl,rfl,c2,m2,hc2,hm2,rfl,rfl⟩ _
     refine⟨_,rfl,rfl,?_⟩
     intro hpX hX
     simp only [layR,Ev.Obj.ren,hc2.rens] at hX
     subst hX
     cbv
     have hml:m2≤6:=by rw [hm2];exact encN_len 6 z (by omega) (by decide)
     have hm0:0<m2:=by rw [hm2];first|exact encN_pos _|exact encS_pos _
     refine Ho _ _ _ _ ?_
     refine append_byte rfl rfl rfl rfl rfl rfl rfl rfl rfl rfl ⟨_,rfl⟩ rfl rfl rfl rfl hc2 hm2 hm0 (by unfold big;omega) ?_
     intro d kk hd hk
     cbv
     (with_reducible refine hQ _ _ _ rfl rfl ?_);refine⟨_,rfl,?_⟩;refine ExitR.sub hF (τ:=tauF [(1,4)]) (n2:=2) (hl:=[(0,.ro calcAVs),(1,.cells d 0)]) (v2:=.sl 1 0 kk kk false 1) (hsub_mk hpl rfl) (fun i hi=>tauF_lt rfl hi) (Nat.le_of_ble_eq_true rfl) (gsLt rfl) rfl (.refl _) (.done ?_)
     exact⟨rfl,rfl,d,kk,by rw [hr1];exact hd,by rw [hr1];exact hk,rfl,rfl⟩
    ·have hn0:n<0:=by simpa [cmp0] using hn0
     rw [if_neg (by omega)] at hr1
     refine Ha _ _ _ _ _ ?_
     intro q hq
     obtain⟨z,hz⟩:∃ z:Int,z=-2*n:=⟨_,rfl⟩
     obtain rfl:q=z:=by rw [hq,hz];exact wrap_in (by omega) (by omega)
     cbv
     refine Ha _ _ _ _ _ ?_
     intro q hq
     obtain⟨z,hz2⟩:∃ z:Nat,z=(-2*n - 1).toNat:=⟨_,rfl⟩
     rw [← hz2] at hr1
     obtain rfl:q=Int.ofNat z:=by rw [hq];rw [ar0_sub (by omega) (by omega)];simp;omega
     have hzl:z<1099511627776:=by omega
     cbv
     refine Hk _ _ _ _ _ _ _ ?_
     refine CallZ.of (tauF []) (n:=1) (l0:=[(0,.ro calcAVs)]) call76 (rnum hzl B) hpl rfl rfl rfl (gsT rfl rfl) rfl rfl ?_ (fun _ _ _ h=>h.elim)
     rintro B v hp' n' ⟨rfl,rfl,c2,m2,hc2,hm2,rfl,rfl⟩ _
     refine⟨_,rfl,rfl,?_⟩
     intro hpX hX
     simp only [layR,Ev.Obj.ren,hc2.rens] at hX
     subst hX
     cbv
     have hml:m2≤6:=by rw [hm2];exact encN_len 6 z (by omega) (by decide)
     have hm0:0<m2:=by rw [hm2];first|exact encN_pos _|exact encS_pos _
     refine Ho _ _ _ _ ?_
     refine append_byte rfl rfl rfl rfl rfl rfl rfl rfl rfl rfl ⟨_,rfl⟩ rfl rfl rfl rfl hc2 hm2 hm0 (by unfold big;omega) ?_
     intro d kk hd hk
     cbv
     (with_reducible refine hQ _ _ _ rfl rfl ?_);refine⟨_,rfl,?_⟩;refine ExitR.sub hF (τ:=tauF [(1,4)]) (n2:=2) (hl:=[(0,.ro calcAVs),(1,.cells d 0)]) (v2:=.sl 1 0 kk kk false 1) (hsub_mk hpl rfl) (fun i hi=>tauF_lt rfl hi) (Nat.le_of_ble_eq_true rfl) (gsLt rfl) rfl (.refl _) (.done ?_)
     exact⟨rfl,rfl,d,kk,by rw [hr1];exact hd,by rw [hr1];exact hk,rfl,rfl⟩
  ·simp [cmp0] at hk1
   rw [encT,if_pos hk1,← hkb] at hr1
   obtain⟨n0,hn0⟩:∃ n0:Nat,n0=n.toNat:=⟨_,rfl⟩
   rw [← hn0] at hr1
   obtain rfl:n=Int.ofNat n0:=by simp;omega
   have hzl:n0<1099511627776:=by simp at hnf;omega
   cbv
   refine Hk _ _ _ _ _ _ _ ?_
   refine CallZ.of (tauF []) (n:=1) (l0:=[(0,.ro calcAVs)]) call76 (rnum hzl B) hpl rfl rfl rfl (gsT rfl rfl) rfl rfl ?_ (fun _ _ _ h=>h.elim)
   rintro B v hp' n' ⟨rfl,rfl,c2,m2,hc2,hm2,rfl,rfl⟩ _
   refine⟨_,rfl,rfl,?_⟩
   intro hpX hX
   simp only [layR,Ev.Obj.ren,hc2.rens] at hX
   subst hX
   cbv
   have hml:m2≤6:=by rw [hm2];exact encN_len 6 n0 (by omega) (by decide)
   have hm0:0<m2:=by rw [hm2];first|exact encN_pos _|exact encS_pos _
   refine Ho _ _ _ _ ?_
   refine append_byte rfl rfl rfl rfl rfl rfl rfl rfl rfl rfl ⟨_,rfl⟩ rfl rfl rfl rfl hc2 hm2 hm0 (by unfold big;omega) ?_
   intro d kk hd hk
   cbv
   (with_reducible refine hQ _ _ _ rfl rfl ?_);refine⟨_,rfl,?_⟩;refine ExitR.sub hF (τ:=tauF [(1,4)]) (n2:=2) (hl:=[(0,.ro calcAVs),(1,.cells d 0)]) (v2:=.sl 1 0 kk kk false 1) (hsub_mk hpl rfl) (fun i hi=>tauF_lt rfl hi) (Nat.le_of_ble_eq_true rfl) (gsLt rfl) rfl (.refl _) (.done ?_)
   exact⟨rfl,rfl,d,kk,by rw [hr1];exact hd,by rw [hr1];exact hk,rfl,rfl⟩
end Go.Proofs.YtaacpiniakmpbaaGreatDoor
