/- How numbers and texts are written. -/
import Derived.Test.YtaacpiniakmpbaaGreatDoorS0
import Derived.Test.YtaacpiniakmpbaaGreatDoorM
namespace Go.Proofs.YtaacpiniakmpbaaGreatDoor
open Go Ev Tryz
set_option linter.unusedSimpArgs false
set_option linter.unusedVariables false
set_option maxHeartbeats 4000000
set_option maxRecDepth 10000
def Wrote (B:Base) (k:Nat) (l:List Nat) (B':Base) (v:AV) (hp:T Ev.Obj) (n:Nat):Prop :=
 B'=B∧v=.tup []∧n=k+1∧∃ c m,Vs c (byV l)∧m=l.length∧hp=mkT [(0,.ro calcAVs),(1,.cells [.sl k 0 m m false 1] 0),(k,.cells c 0)]
def Never (v:AV) (hp:T Ev.Obj) (n:Nat):Prop:=False
theorem wnum {n:Nat} (hn:n<1099511627776) {l:List Nat} {c:List AV} (hc:Vs c (byV l)) {m:Nat} (hm:m=l.length) (hb:m+6≤67108864) (B:Base) :
  CallG Tryz.prog ctxZ B 32 [.ptr 1 0,.val (.int .i64 (Int.ofNat n))] (mkT [(0,.ro calcAVs),(1,.cells [.sl 2 0 m m false 1] 0),(2,.cells c 0)]).get 3
   (fun B' v H n'=>∃ hp,H=T.get hp∧Wrote B 3 (l++encN n) B' v hp n') (fun v H n'=>∃ hp,H=T.get hp∧Never v hp n'):=by
 refine CallG.body prog_okZ func32 rfl ?_
 rintro⟨φ0,H0,_,w0,B⟩ hF rfl rfl rfl Q N hQ hN
 have hel:=encN_len 6 n (by omega) (by decide)
 refine CodeF.sy prog_okZ ?_
 intro _ _ _ _ _ _ _ _ _ _ _ _ _ Hc Hs Ha Hw Hd Ho Hl Hn Hi Hv Hz Hk He
 cbv
 refine He _ _ _ _ (CodeF.loop hF (gsLt rfl) (fun x:Nat×List Nat×List AV×Nat=>mkS [(0,.ptr 1 0),(1,.val (.int .i64 (Int.ofNat x.1)))] [(0,.ro calcAVs),(1,.cells [.sl 3 0 x.2.2.2 x.2.2.2 false 1] 0),(3,.cells x.2.2.1 0)] 4)
  (fun x=>x.1) (fun x B'=>B'=B∧Vs x.2.2.1 (byV x.2.1)∧x.2.2.2=x.2.1.length∧x.2.1++encN x.1=l++encN n∧x.1<1099511627776) (n,l,c,m) ⟨rfl,hc,hm,rfl,hn⟩ (fun _=>Nat.le_of_ble_eq_true rfl) (subr_mk (τ:=tauF [(3,2)]) rtl hpl rfl rfl) (fun i hi=>tauF_lt rfl hi) ?_)
 rintro⟨n',l',c',m'⟩ B' ⟨hB,hc',hm',hl',hn'⟩
 simp only at hB hc' hm' hl' hn'
 subst hB
 have Hn:l'.length+(encN n').length=l.length+(encN n).length:=by rw [← List.length_append,hl',List.length_append]
 have hlc:c'.length=m':=by rw [hc'.length,byV_len,hm']
 refine CodeF.sy prog_okZ ?_
 intro _ _ _ _ _ _ _ _ _ _ _ _ _ Hc2 Hs2 Ha2 Hw2 Hd2 Ho2 Hl2 Hn2 Hi2 Hv2 Hz2 Hk2 He2
 cbv
 refine Hc2 _ _ _ _ ?_
 rintro(_|_) h1<;>cbv
 ·have h2:n'<128:=by simp [cmp0] at h1;omega
  rw [encN_small h2] at hl' Hn
  refine Hw _ _ _ ?_
  intro q hq
  obtain rfl:q=Int.ofNat n':=by rw [hq];exact wrap_u8 (by omega)
  cbv
  refine Ho _ _ _ _ ?_
  refine append_ok (sz:=1) (m:=1) ctxAt rfl rfl rfl rfl rfl rfl rfl rfl rfl rfl (.inl ⟨_,rfl⟩) rfl rfl rfl rfl (by decide) rfl rfl (.inr ⟨3,m',c',rfl,?_,?_,?_,?_⟩)
  ·rfl
  ·omega
  ·unfold big;simp at Hn;omega
  obtain⟨d,hd⟩:∃ d,d=c'++[.val (.int .u8 (Int.ofNat n'))]:=⟨_,rfl⟩
  have hdv:Vs d (byV (l'++[n'])):=by rw [hd,byV_app];exact hc'.append ⟨rfl,rfl⟩
  obtain⟨k,hk⟩:∃ k,k=m'+1:=⟨_,rfl⟩
  rw [← hd,← hk]
  rw [hl'] at hdv
  clear hd
  cbv
  (with_reducible refine hQ _ _ _ rfl rfl ?_);refine⟨_,rfl,?_⟩;refine ExitR.sub hF (τ:=tauF [(3,5)]) (n2:=4) (hl:=[(0,.ro calcAVs),(1,.cells [.sl 3 0 k k false 1] 0),(3,.cells d 0)]) (v2:=.tup []) (hsub_mk hpl rfl) (fun i hi=>tauF_lt rfl hi) (Nat.le_of_ble_eq_true rfl) (gsLt rfl) rfl (.refl _) (.done ?_)
  exact⟨rfl,rfl,rfl,d,k,hdv,by rw [← hl',hk,hm'];simp,rfl⟩
 ·have h2:¬ n'<128:=by simp [cmp0] at h1;omega
  rw [encN_big h2] at hl' Hn
  refine Ha2 _ _ _ _ _ ?_
  intro q hq
  obtain rfl:q=Int.ofNat (n'%128):=by rw [hq];exact and127 (by omega)
  obtain⟨r,hr⟩:∃ r,r=n'%128:=⟨_,rfl⟩
  rw [← hr]
  cbv
  refine Ha2 _ _ _ _ _ ?_
  intro q hq
  obtain rfl:q=Int.ofNat (r+128):=by rw [hq];exact or128 (by omega)
  obtain⟨r2,hr2⟩:∃ r2,r2=r+128:=⟨_,rfl⟩
  rw [← hr2]
  cbv
  refine Hw2 _ _ _ ?_
  intro q hq
  obtain rfl:q=Int.ofNat r2:=by rw [hq];exact wrap_u8 (by omega)
  cbv
  refine Ho2 _ _ _ _ ?_
  refine append_ok (sz:=1) (m:=1) ctxAt rfl rfl rfl rfl rfl rfl rfl rfl rfl rfl (.inl ⟨_,rfl⟩) rfl rfl rfl rfl (by decide) rfl rfl (.inr ⟨3,m',c',rfl,?_,?_,?_,?_⟩)
  ·rfl
  ·omega
  ·unfold big;simp at Hn;omega
  obtain⟨d,hd⟩:∃ d,d=c'++[.val (.int .u8 (Int.ofNat r2))]:=⟨_,rfl⟩
  have hdv:Vs d (byV (l'++[r2])):=by rw [hd,byV_app];exact hc'.append ⟨rfl,rfl⟩
  obtain⟨k,hk⟩:∃ k,k=m'+1:=⟨_,rfl⟩
  rw [← hd,← hk]
  cbv
  refine Hz2 _ _ _ _ (op_shr ctxAt rfl rfl rfl (fun _=>rfl) ?_)
  intro q hq
  obtain⟨p,hp⟩:∃ p,p=n' / 128:=⟨_,rfl⟩
  obtain rfl:q=Int.ofNat p:=by rw [hq,hp];exact shr7 n'
  clear hd
  cbv
  refine⟨(p,l'++[r2],d,k),tauF [(3,5)],?_,⟨rfl,hdv,?_,?_,?_⟩,(subr_mk (τ:=tauF [(3,5)]) rtl hpl rfl rfl),fun i hi=>tauF_lt rfl hi⟩
  ·simp only;omega
  ·simp only [List.length_append,List.length_singleton];omega
  ·simp only [List.append_assoc,List.singleton_append];rw [hp,hr2,hr];exact hl'
  ·simp only;omega
theorem wnum0 {n:Nat} (hn:n<128) (B:Base):CallG Tryz.prog ctxZ B 32 [.ptr 1 0,.val (.int .i64 (Int.ofNat n))] (mkT [(0,.ro calcAVs),(1,.cells [.nsl] 0)]).get 2
   (fun B' v H n'=>∃ hp,H=T.get hp∧Wrote B 2 (encN n) B' v hp n') (fun v H n'=>∃ hp,H=T.get hp∧Never v hp n'):=by
 refine CallG.body prog_okZ func32 rfl ?_
 rintro⟨φ0,H0,_,w0,B⟩ hF rfl rfl rfl Q N hQ hN
 rw [encN_small hn] at hQ
 refine CodeF.sy prog_okZ ?_
 intro _ _ _ _ _ _ _ _ _ _ _ _ _ Hc Hs Ha Hw Hd Ho Hl Hn Hi Hv Hz Hk He
 cbv
 refine He _ _ _ _ (CodeF.loop hF (gsLt rfl) (fun x:Unit=>mkS [(0,.ptr 1 0),(1,.val (.int .i64 (Int.ofNat n)))] [(0,.ro calcAVs),(1,.cells [.nsl] 0)] 2)
  (fun x=>0) (fun x B'=>B'=B) () rfl (fun _=>Nat.le_of_ble_eq_true rfl) (subr_mk (τ:=tauF []) rtl hpl rfl rfl) (fun i hi=>tauF_lt rfl hi) ?_)
 rintro _ B' hB
 subst hB
 refine CodeF.sy prog_okZ ?_
 intro _ _ _ _ _ _ _ _ _ _ _ _ _ Hc2 Hs2 Ha2 Hw2 Hd2 Ho2 Hl2 Hn2 Hi2 Hv2 Hz2 Hk2 He2
 cbv
 refine Hc2 _ _ _ _ ?_
 rintro(_|_) h1<;>cbv
 ·refine Hw _ _ _ ?_
  intro q hq
  obtain rfl:q=Int.ofNat n:=by rw [hq];exact wrap_u8 (by omega)
  cbv
  refine Ho _ _ _ _ ?_
  refine append_ok (sz:=1) (m:=1) ctxAt rfl rfl rfl rfl rfl rfl rfl rfl rfl rfl (.inl ⟨_,rfl⟩) rfl rfl rfl rfl (by decide) rfl rfl (.inl ⟨rfl,by decide,?_⟩)
  obtain⟨d,hd⟩:∃ d:List AV,d=[AV.val (.int .u8 (Int.ofNat n))]:=⟨_,rfl⟩
  have hdv:Vs d (byV [n]):=by rw [hd];exact⟨rfl,rfl⟩
  rw [← hd]
  clear hd
  cbv
  (with_reducible refine hQ _ _ _ rfl rfl ?_);refine⟨_,rfl,?_⟩;refine ExitR.sub hF (τ:=tauF [(2,3)]) (n2:=3) (hl:=[(0,.ro calcAVs),(1,.cells [.sl 2 0 1 1 false 1] 0),(2,.cells d 0)]) (v2:=.tup []) (hsub_mk hpl rfl) (fun i hi=>tauF_lt rfl hi) (Nat.le_of_ble_eq_true rfl) (gsLt rfl) rfl (.refl _) (.done ?_)
  exact⟨rfl,rfl,rfl,d,1,hdv,rfl,rfl⟩
 ·simp [cmp0] at h1;omega
def encS (s:ByteArray):List Nat:=encN s.size++bytesOf s
theorem wtext {s:ByteArray} (hs:s.size≤1048576) {l:List Nat} {c:List AV} (hc:Vs c (byV l)) {m:Nat} (hm:m=l.length) (hb:m+s.size+6≤67108864) (B:Base) :
  CallG Tryz.prog ctxZ B 72 [.ptr 1 0,.val (.string s)] (mkT [(0,.ro calcAVs),(1,.cells [.sl 2 0 m m false 1] 0),(2,.cells c 0)]).get 3
   (fun B' v H n'=>∃ hp,H=T.get hp∧Wrote B 3 (l++encS s) B' v hp n') (fun v H n'=>∃ hp,H=T.get hp∧Never v hp n'):=by
 refine CallG.body prog_okZ func72 rfl ?_
 rintro⟨φ0,H0,_,w0,B⟩ hF rfl rfl rfl Q N hQ hN
 have hel:=encN_len 6 s.size (by omega) (by decide)
 refine CodeF.sy prog_okZ ?_
 intro _ _ _ _ _ _ _ _ _ _ _ _ _ Hc Hs Ha Hw Hd Ho Hl Hn Hi Hv Hz Hk He
 cbv
 refine Hn _ _ _ _ (len_stZ ?_)
 intro z hz
 cbv
 refine Hk _ _ _ _ _ _ _ ?_
 refine CallZ.of (tauF []) (n:=3) (l0:=[(0,.ro calcAVs),(1,.cells [.sl 2 0 m m false 1] 0),(2,.cells c 0)]) call32 (wnum (by omega) hc hm (by omega) B) hpl rfl rfl rfl (gsT rfl rfl) rfl rfl ?_ (fun _ _ _ h=>h.elim)
 rintro B' v hp' n' ⟨rfl,rfl,rfl,c2,m2,hc2,hm2,rfl⟩ _
 refine⟨_,rfl,rfl,?_⟩
 intro hpX hX
 simp only [layR,Obj.ren,hc2.rens] at hX
 subst hX
 cbv
 refine Ho _ _ _ _ ?_
 have hml:m2=l.length+(encN s.size).length:=by rw [hm2,List.length_append,hz]
 refine append_str ctxAt rfl rfl rfl rfl rfl rfl rfl rfl rfl rfl rfl (by decide) rfl rfl rfl hc2 hm2 (by unfold big;omega) ?_ ?_
 ·intro h0
  cbv
  (with_reducible refine hQ _ _ _ rfl rfl ?_);refine⟨_,rfl,?_⟩;refine ExitR.sub hF (τ:=tauF []) (n2:=4) (hl:=[(0,.ro calcAVs),(1,.cells [.sl 3 0 m2 m2 false 1] 0),(3,.cells c2 0)]) (v2:=.tup []) (hsub_mk hpl rfl) (fun i hi=>tauF_lt rfl hi) (Nat.le_of_ble_eq_true rfl) (gsLt rfl) rfl (.refl _) (.done ?_)
  refine⟨rfl,rfl,rfl,c2,m2,?_,?_,rfl⟩
  ·rw [encS,h0,List.append_nil,← hz];exact hc2
  ·rw [hml,encS,h0,List.append_nil,List.length_append]
 ·intro d k hd hk
  cbv
  (with_reducible refine hQ _ _ _ rfl rfl ?_);refine⟨_,rfl,?_⟩;refine ExitR.sub hF (τ:=tauF [(3,4)]) (n2:=4) (hl:=[(0,.ro calcAVs),(1,.cells [.sl 3 0 k k false 1] 0),(3,.cells d 0)]) (v2:=.tup []) (hsub_mk hpl rfl) (fun i hi=>tauF_lt rfl hi) (Nat.le_of_ble_eq_true rfl) (gsLt rfl) rfl (.refl _) (.done ?_)
  refine⟨rfl,rfl,rfl,d,k,?_,?_,rfl⟩
  ·rw [encS,← hz,← List.append_assoc];exact hd
  ·rw [hk,encS,hz,List.append_assoc]
mutual
def encT:Tm→List Nat
 | .mk k n s l=>k.toNat::(if k=1 then encN n.toNat else if k=2 then encN (if 0≤n then(2*n).toNat else(-2*n - 1).toNat) else if k=3∨k=4 then encS s else(if k=5 then encS s else [])++(encN l.length++encTs l))
def encTs:List Tm→List Nat
 | []=>[]
 | t::r=>encT t++encTs r
end
theorem node_fits {k n:Int} {s:ByteArray} {m:Nat} (h:nodeS k n s m=true):(k=1∧0≤n∧n<100000)∨(k=2∧-2147483647≤n∧n≤2147483647)∨((k=3∨k=4)∧s.size≤255)∨(k=5∧s.size≤255∧m≤64)∨(k=6∧m≤64):=by
 unfold nodeS at h
 unfold nameS at h
 split at h
 ·simp at h;omega
 ·split at h
  ·simp at h;omega
  ·split at h
   ·simp at h;omega
   ·split at h
    ·simp at h;omega
    ·split at h
     ·simp at h;omega
     ·split at h
      ·simp at h;omega
      ·simp at h
theorem wrap_k {k:Int} (h:1≤k) (h2:k≤6):IntKind.u8.wrap k=Int.ofNat k.toNat:=by
 simp only [IntKind.wrap_u8];simp;omega
theorem nodess_get:∀ {l:List Tm} {i:Nat} {t:Tm},nodessS l=true→l[i]?=some t→nodesS t=true
 | [],i,t,_,h=>by simp at h
 | x::l,0,t,hg,h=>by
  rw [nodessS,Bool.and_eq_true] at hg
  simp at h;subst h;exact hg.1
 | x::l,i+1,t,hg,h=>by
  rw [nodessS,Bool.and_eq_true] at hg
  exact nodess_get hg.2 (by simpa using h)
theorem wterm (N0:Nat):∀ (t:Tm),tsz t<N0→nodesS t=true→∀ {B:Base} {cs:List Value},TmAt B t cs→∀ {l0:List Nat} {c:List AV},Vs c (byV l0)→∀ {m0:Nat},m0=l0.length→m0+(encT t).length+16≤67108864 →
  CallG Tryz.prog ctxZ B 34 [.ptr 1 0,.agg (cs.map .val)] (mkT [(0,.ro calcAVs),(1,.cells [.sl 2 0 m0 m0 false 1] 0),(2,.cells c 0)]).get 3
   (fun B' v H n'=>∃ hp,H=T.get hp∧Wrote B 3 (l0++encT t) B' v hp n') (fun v H n'=>∃ hp,H=T.get hp∧Never v hp n'):=by
 induction N0 with
 | zero=>intro t h;omega
 | succ N0 ih =>
  rintro⟨k,n,s,l⟩ hN hg B cs ht l0 c hc m0 hm0 hb
  obtain⟨a,m,cp,rfl,hl⟩:=ht.out
  have hsz:=ht.sz
  obtain⟨r1,hr1⟩:∃ r,r=encT (.mk k n s l):=⟨_,rfl⟩
  rw [← hr1] at hb ⊢
  rw [tsz] at hN
  rw [nodesS,Bool.and_eq_true] at hg
  have hnf:=node_fits hg.1
  have hk16:1≤k∧k≤6:=by omega
  refine CallG.body prog_okZ func34 rfl ?_
  rintro⟨φ0,H0,_,w0,B⟩ hF rfl rfl rfl Q N hQ hN2
  refine CodeF.sy prog_okZ ?_
  intro _ _ _ _ _ _ _ _ _ _ _ _ _ Hc Hs Ha Hw Hd Ho Hl Hn Hi Hv Hz Hk He
  cbv
  have hl:TmsAt B l a m:=hl
  have ht:TmAt B (.mk k n s l) [.int .i64 k,.int .i64 n,.string s,.slice a m cp]:=ht
  refine Hw _ _ _ ?_
  intro q hq
  obtain⟨kb,hkb⟩:∃ kb,kb=k.toNat:=⟨_,rfl⟩
  obtain rfl:q=Int.ofNat kb:=by rw [hq,hkb];exact wrap_k (by omega) (by omega)
  cbv
  refine Ho _ _ _ _ ?_
  refine append_ok (sz:=1) (m:=1) ctxAt rfl rfl rfl rfl rfl rfl rfl rfl rfl rfl (.inl ⟨_,rfl⟩) rfl rfl rfl rfl (by decide) rfl rfl (.inr ⟨2,m0,c,rfl,?_,?_,?_,?_⟩)
  ·rfl
  ·rw [hc.length,byV_len,hm0];omega
  ·unfold big;omega
  obtain⟨d,hd⟩:∃ d,d=c++[.val (.int .u8 (Int.ofNat kb))]:=⟨_,rfl⟩
  have hdv:Vs d (byV (l0++[kb])):=by rw [hd,byV_app];exact hc.append ⟨rfl,rfl⟩
  obtain⟨m1,hm1⟩:∃ k,k=m0+1:=⟨_,rfl⟩
  rw [← hd,← hm1]
  clear hd
  have hm1':m1=(l0++[kb]).length:=by rw [hm1,hm0];simp
  cbv
  refine Hc _ _ _ _ ?_
  rintro(_|_) hk1<;>cbv
  ·refine Hc _ _ _ _ ?_
   rintro(_|_) hk2<;>cbv
   ·refine Hc _ _ _ _ ?_
    rintro(_|_) hk3<;>cbv
    ·refine Hc _ _ _ _ ?_
     rintro(_|_) hk4<;>cbv
     ·simp [cmp0] at hk1 hk2 hk3 hk4
      rw [encT,if_neg hk1,if_neg hk2,if_neg (by omega)] at hr1
      refine Hc _ _ _ _ ?_
      rintro(_|_) hk5<;>cbv
      ·simp [cmp0] at hk5
       rw [if_neg hk5,← hkb] at hr1
       have hm64:m≤64:=by rw [hl.1];omega
       have hw:l0++[kb]++encN m++encTs (l.drop 0)=l0++r1:=by rw [hr1,hl.1,List.drop_zero];simp
       refine Hn _ _ _ _ (len_slZ rfl rfl ?_)
       cbv
       refine Hk _ _ _ _ _ _ _ ?_
       refine CallZ.of (tauF [(2,15)]) (n:=3) (l0:=[(0,.ro calcAVs),(1,.cells [.sl 2 0 m1 m1 false 1] 0),(2,.cells d 0)]) call32 (wnum (by omega) hdv hm1' (by omega) B) hpl rfl rfl rfl (gsT rfl rfl) rfl rfl ?_ (fun _ _ _ h=>h.elim)
       rintro B v hp' n' ⟨rfl,rfl,rfl,c3,m3,hc3,hm3,rfl⟩ _
       refine⟨_,rfl,rfl,?_⟩
       intro hpX hX
       simp only [layR,Obj.ren,hc3.rens] at hX
       subst hX
       cbv
       refine Hn _ _ _ _ (len_slZ rfl rfl ?_)
       cbv
       refine He _ _ _ _ (CodeF.loop hF (gsLt rfl) (fun x:Nat×List Nat×List AV×Nat=>mkS [(0,.ptr 1 0),(59,.val (.slice a m cp)),(60,.val (.int .i64 (Int.ofNat m))),(61,.val (.int .i64 (Int.ofNat x.1)))] [(0,.ro calcAVs),(1,.cells [.sl 3 0 x.2.2.2 x.2.2.2 false 1] 0),(3,.cells x.2.2.1 0)] 4)
        (fun x=>m - x.1) (fun x B'=>B'=B∧Vs x.2.2.1 (byV x.2.1)∧x.2.2.2=x.2.1.length∧x.2.1++encTs (l.drop x.1)=l0++r1∧x.1≤m) (0,_,c3,m3) ⟨rfl,hc3,hm3,hw,Nat.zero_le _⟩ (fun _=>Nat.le_of_ble_eq_true rfl) (subr_mk (τ:=tauF [(3,16)]) rtl hpl rfl rfl) (fun i hi=>tauF_lt rfl hi) ?_)
       rintro⟨i,l',c',m'⟩ B' ⟨hB,hc',hm',hl',hi⟩
       simp only at hB hc' hm' hl' hi
       subst hB
       refine CodeF.sy prog_okZ ?_
       intro _ _ _ _ _ _ _ _ _ _ _ _ _ Hc2 Hs2 Ha2 Hw2 Hd2 Ho2 Hl2 Hn2 Hi2 Hv2 Hz2 Hk2 He2
       cbv
       refine Hc2 _ _ _ _ ?_
       rintro(_|_) h1<;>cbv
       ·have hge:m≤i:=by simpa [cmp0] using h1
        rw [List.drop_of_length_le (by rw [← hl.1];exact hge),encTs,List.append_nil] at hl'
        (with_reducible refine hQ _ _ _ rfl rfl ?_);refine⟨_,rfl,?_⟩;refine ExitR.sub hF (τ:=tauF []) (n2:=4) (hl:=[(0,.ro calcAVs),(1,.cells [.sl 3 0 m' m' false 1] 0),(3,.cells c' 0)]) (v2:=.tup []) (hsub_mk hpl rfl) (fun i hi=>tauF_lt rfl hi) (Nat.le_of_ble_eq_true rfl) (gsLt rfl) rfl (.refl _) (.done ?_)
        exact⟨rfl,rfl,rfl,c',m',by rw [← hl'];exact hc',by rw [← hl'];exact hm',rfl⟩
       ·have hlt:i<m:=by simpa [cmp0] using h1
        refine Hi2 _ _ _ _ _ (idx_tmZ hl hlt ?_)
        rintro p ⟨k',n',s',l''⟩ cs' hgt hcs ht'
        cbv
        refine Hl2 _ _ _ _ (load_tmZ hcs ht' ?_)
        obtain⟨a',mm,c'',rfl,hl2⟩:=ht'.out
        have hm:=tsz_mem hgt
        rw [drop_get hgt,encTs] at hl'
        have hgt':=nodess_get hg.2 hgt
        have hlen':l'.length+(encT (.mk k' n' s' l'')).length≤l0.length+r1.length:=by
         have:=congrArg List.length hl'
         simp only [List.length_append] at this;omega
        cbv
        refine Hk2 _ _ _ _ _ _ _ ?_
        refine CallZ.of (tauF [(2,3)]) (n:=3) (l0:=[(0,.ro calcAVs),(1,.cells [.sl 2 0 m' m' false 1] 0),(2,.cells c' 0)]) call34 (ih _ (by omega) hgt' ht' hc' hm' (by omega)) hpl rfl rfl rfl (gsT rfl rfl) rfl rfl ?_ (fun _ _ _ h=>h.elim)
        rintro B v hp' n' ⟨rfl,rfl,rfl,c4,m4,hc4,hm4,rfl⟩ _
        refine⟨_,rfl,rfl,?_⟩
        intro hpX hX
        simp only [layR,Obj.ren,hc4.rens] at hX
        subst hX
        cbv
        refine Ha2 _ _ _ _ _ ?_
        rintro q rfl
        rw [ar0_suc (by omega)]
        cbv
        refine⟨(i+1,l'++encT (.mk k' n' s' l''),c4,m4),tauF [(3,5)],?_,⟨rfl,hc4,hm4,?_,?_⟩,(subr_mk (τ:=tauF [(3,5)]) rtl hpl rfl rfl),fun i hi=>tauF_lt rfl hi⟩
        ·simp only;omega
        ·simp only [List.append_assoc];exact hl'
        ·simp only;omega
      ·simp [cmp0] at hk5
       rw [if_pos hk5,← hkb] at hr1
       have hs2:s.size≤255:=by omega
       have hm64:m≤64:=by rw [hl.1];omega
       have hbt:m1+s.size+6+(encN m).length≤67108864:=by have:=congrArg List.length hr1;simp [encS,bytesOf_len] at this;rw [hl.1];omega
       refine Hk _ _ _ _ _ _ _ ?_
       refine CallZ.of (tauF [(2,15)]) (n:=3) (l0:=[(0,.ro calcAVs),(1,.cells [.sl 2 0 m1 m1 false 1] 0),(2,.cells d 0)]) call72 (wtext (by omega) hdv hm1' (by omega) B) hpl rfl rfl rfl (gsT rfl rfl) rfl rfl ?_ (fun _ _ _ h=>h.elim)
       rintro B v hp' n' ⟨rfl,rfl,rfl,c2,m2,hc2,hm2,rfl⟩ _
       refine⟨_,rfl,rfl,?_⟩
       intro hpX hX
       simp only [layR,Obj.ren,hc2.rens] at hX
       subst hX
       have hml:m2+6≤67108864:=by have:=congrArg List.length hr1;simp [encS,bytesOf_len] at this hm2;omega
       cbv
       have hw:l0++[kb]++encS s++encN m++encTs (l.drop 0)=l0++r1:=by rw [hr1,hl.1,List.drop_zero];simp
       refine Hn _ _ _ _ (len_slZ rfl rfl ?_)
       cbv
       refine Hk _ _ _ _ _ _ _ ?_
       refine CallZ.of (tauF [(2,16)]) (n:=3) (l0:=[(0,.ro calcAVs),(1,.cells [.sl 2 0 m2 m2 false 1] 0),(2,.cells c2 0)]) call32 (wnum (by omega) hc2 hm2 (by omega) B) hpl rfl rfl rfl (gsT rfl rfl) rfl rfl ?_ (fun _ _ _ h=>h.elim)
       rintro B v hp' n' ⟨rfl,rfl,rfl,c3,m3,hc3,hm3,rfl⟩ _
       refine⟨_,rfl,rfl,?_⟩
       intro hpX hX
       simp only [layR,Obj.ren,hc3.rens] at hX
       subst hX
       cbv
       refine Hn _ _ _ _ (len_slZ rfl rfl ?_)
       cbv
       refine He _ _ _ _ (CodeF.loop hF (gsLt rfl) (fun x:Nat×List Nat×List AV×Nat=>mkS [(0,.ptr 1 0),(59,.val (.slice a m cp)),(60,.val (.int .i64 (Int.ofNat m))),(61,.val (.int .i64 (Int.ofNat x.1)))] [(0,.ro calcAVs),(1,.cells [.sl 3 0 x.2.2.2 x.2.2.2 false 1] 0),(3,.cells x.2.2.1 0)] 4)
        (fun x=>m - x.1) (fun x B'=>B'=B∧Vs x.2.2.1 (byV x.2.1)∧x.2.2.2=x.2.1.length∧x.2.1++encTs (l.drop x.1)=l0++r1∧x.1≤m) (0,_,c3,m3) ⟨rfl,hc3,hm3,hw,Nat.zero_le _⟩ (fun _=>Nat.le_of_ble_eq_true rfl) (subr_mk (τ:=tauF [(3,17)]) rtl hpl rfl rfl) (fun i hi=>tauF_lt rfl hi) ?_)
       rintro⟨i,l',c',m'⟩ B' ⟨hB,hc',hm',hl',hi⟩
       simp only at hB hc' hm' hl' hi
       subst hB
       refine CodeF.sy prog_okZ ?_
       intro _ _ _ _ _ _ _ _ _ _ _ _ _ Hc2 Hs2 Ha2 Hw2 Hd2 Ho2 Hl2 Hn2 Hi2 Hv2 Hz2 Hk2 He2
       cbv
       refine Hc2 _ _ _ _ ?_
       rintro(_|_) h1<;>cbv
       ·have hge:m≤i:=by simpa [cmp0] using h1
        rw [List.drop_of_length_le (by rw [← hl.1];exact hge),encTs,List.append_nil] at hl'
        (with_reducible refine hQ _ _ _ rfl rfl ?_);refine⟨_,rfl,?_⟩;refine ExitR.sub hF (τ:=tauF []) (n2:=4) (hl:=[(0,.ro calcAVs),(1,.cells [.sl 3 0 m' m' false 1] 0),(3,.cells c' 0)]) (v2:=.tup []) (hsub_mk hpl rfl) (fun i hi=>tauF_lt rfl hi) (Nat.le_of_ble_eq_true rfl) (gsLt rfl) rfl (.refl _) (.done ?_)
        exact⟨rfl,rfl,rfl,c',m',by rw [← hl'];exact hc',by rw [← hl'];exact hm',rfl⟩
       ·have hlt:i<m:=by simpa [cmp0] using h1
        refine Hi2 _ _ _ _ _ (idx_tmZ hl hlt ?_)
        rintro p ⟨k',n',s',l''⟩ cs' hgt hcs ht'
        cbv
        refine Hl2 _ _ _ _ (load_tmZ hcs ht' ?_)
        obtain⟨a',mm,c'',rfl,hl2⟩:=ht'.out
        have hm:=tsz_mem hgt
        rw [drop_get hgt,encTs] at hl'
        have hgt':=nodess_get hg.2 hgt
        have hlen':l'.length+(encT (.mk k' n' s' l'')).length≤l0.length+r1.length:=by
         have:=congrArg List.length hl'
         simp only [List.length_append] at this;omega
        cbv
        refine Hk2 _ _ _ _ _ _ _ ?_
        refine CallZ.of (tauF [(2,3)]) (n:=3) (l0:=[(0,.ro calcAVs),(1,.cells [.sl 2 0 m' m' false 1] 0),(2,.cells c' 0)]) call34 (ih _ (by omega) hgt' ht' hc' hm' (by omega)) hpl rfl rfl rfl (gsT rfl rfl) rfl rfl ?_ (fun _ _ _ h=>h.elim)
        rintro B v hp' n' ⟨rfl,rfl,rfl,c4,m4,hc4,hm4,rfl⟩ _
        refine⟨_,rfl,rfl,?_⟩
        intro hpX hX
        simp only [layR,Obj.ren,hc4.rens] at hX
        subst hX
        cbv
        refine Ha2 _ _ _ _ _ ?_
        rintro q rfl
        rw [ar0_suc (by omega)]
        cbv
        refine⟨(i+1,l'++encT (.mk k' n' s' l''),c4,m4),tauF [(3,5)],?_,⟨rfl,hc4,hm4,?_,?_⟩,(subr_mk (τ:=tauF [(3,5)]) rtl hpl rfl rfl),fun i hi=>tauF_lt rfl hi⟩
        ·simp only;omega
        ·simp only [List.append_assoc];exact hl'
        ·simp only;omega
     ·simp [cmp0] at hk1 hk2 hk3 hk4
      rw [encT,if_neg hk1,if_neg hk2,if_pos (.inr hk4),← hkb] at hr1
      have hs2:s.size≤255:=by omega
      have hbt:m1+s.size+6≤67108864:=by have:=congrArg List.length hr1;simp [encS,bytesOf_len] at this;omega
      refine Hk _ _ _ _ _ _ _ ?_
      refine CallZ.of (tauF [(2,15)]) (n:=3) (l0:=[(0,.ro calcAVs),(1,.cells [.sl 2 0 m1 m1 false 1] 0),(2,.cells d 0)]) call72 (wtext (by omega) hdv hm1' (by omega) B) hpl rfl rfl rfl (gsT rfl rfl) rfl rfl ?_ (fun _ _ _ h=>h.elim)
      rintro B v hp' n' ⟨rfl,rfl,rfl,c2,m2,hc2,hm2,rfl⟩ _
      refine⟨_,rfl,rfl,?_⟩
      intro hpX hX
      simp only [layR,Obj.ren,hc2.rens] at hX
      subst hX
      cbv
      (with_reducible refine hQ _ _ _ rfl rfl ?_);refine⟨_,rfl,?_⟩;refine ExitR.sub hF (τ:=tauF [(3,16)]) (n2:=4) (hl:=[(0,.ro calcAVs),(1,.cells [.sl 3 0 m2 m2 false 1] 0),(3,.cells c2 0)]) (v2:=.tup []) (hsub_mk hpl rfl) (fun i hi=>tauF_lt rfl hi) (Nat.le_of_ble_eq_true rfl) (gsLt rfl) rfl (.refl _) (.done ?_)
      refine⟨rfl,rfl,rfl,c2,m2,?_,?_,rfl⟩
      ·rw [hr1];simpa using hc2
      ·rw [hr1];simpa using hm2
    ·simp [cmp0] at hk1 hk2 hk3
     rw [encT,if_neg hk1,if_neg hk2,if_pos (.inl hk3),← hkb] at hr1
     have hs2:s.size≤255:=by omega
     have hbt:m1+s.size+6≤67108864:=by have:=congrArg List.length hr1;simp [encS,bytesOf_len] at this;omega
     refine Hk _ _ _ _ _ _ _ ?_
     refine CallZ.of (tauF [(2,15)]) (n:=3) (l0:=[(0,.ro calcAVs),(1,.cells [.sl 2 0 m1 m1 false 1] 0),(2,.cells d 0)]) call72 (wtext (by omega) hdv hm1' (by omega) B) hpl rfl rfl rfl (gsT rfl rfl) rfl rfl ?_ (fun _ _ _ h=>h.elim)
     rintro B v hp' n' ⟨rfl,rfl,rfl,c2,m2,hc2,hm2,rfl⟩ _
     refine⟨_,rfl,rfl,?_⟩
     intro hpX hX
     simp only [layR,Obj.ren,hc2.rens] at hX
     subst hX
     cbv
     (with_reducible refine hQ _ _ _ rfl rfl ?_);refine⟨_,rfl,?_⟩;refine ExitR.sub hF (τ:=tauF [(3,16)]) (n2:=4) (hl:=[(0,.ro calcAVs),(1,.cells [.sl 3 0 m2 m2 false 1] 0),(3,.cells c2 0)]) (v2:=.tup []) (hsub_mk hpl rfl) (fun i hi=>tauF_lt rfl hi) (Nat.le_of_ble_eq_true rfl) (gsLt rfl) rfl (.refl _) (.done ?_)
     refine⟨rfl,rfl,rfl,c2,m2,?_,?_,rfl⟩
     ·rw [hr1];simpa using hc2
     ·rw [hr1];simpa using hm2
   ·simp [cmp0] at hk1 hk2
    rw [encT,if_neg hk1,if_pos hk2,← hkb] at hr1
    refine Hc _ _ _ _ ?_
    rintro(_|_) hn0<;>cbv
    ·have hn0:n<0:=by simpa [cmp0] using hn0
     rw [if_neg (by omega)] at hr1
     refine Ha _ _ _ _ _ ?_
     intro q hq
     obtain⟨z,hz⟩:∃ z:Int,z=-2*n:=⟨_,rfl⟩
     obtain rfl:q=z:=by rw [hq,hz];exact wrap_in (by omega) (by omega)
     cbv
     refine Ha _ _ _ _ _ ?_
     intro q hq
     obtain⟨z,hz2⟩:∃ z:Nat,z=(-2*n - 1).toNat:=⟨_,rfl⟩
     rw [← hz2] at hr1
     obtain rfl:q=Int.ofNat z:=by rw [hq];rw [ar0_sub (by omega) (by omega)];simp;omega
     have hzl:z<1099511627776:=by omega
     cbv
     refine Hk _ _ _ _ _ _ _ ?_
     refine CallZ.of (tauF [(2,15)]) (n:=3) (l0:=[(0,.ro calcAVs),(1,.cells [.sl 2 0 m1 m1 false 1] 0),(2,.cells d 0)]) call32 (wnum (by first|assumption|omega) hdv hm1' (by omega) B) hpl rfl rfl rfl (gsT rfl rfl) rfl rfl ?_ (fun _ _ _ h=>h.elim)
     rintro B v hp' n' ⟨rfl,rfl,rfl,c2,m2,hc2,hm2,rfl⟩ _
     refine⟨_,rfl,rfl,?_⟩
     intro hpX hX
     simp only [layR,Obj.ren,hc2.rens] at hX
     subst hX
     cbv
     (with_reducible refine hQ _ _ _ rfl rfl ?_);refine⟨_,rfl,?_⟩;refine ExitR.sub hF (τ:=tauF [(3,16)]) (n2:=4) (hl:=[(0,.ro calcAVs),(1,.cells [.sl 3 0 m2 m2 false 1] 0),(3,.cells c2 0)]) (v2:=.tup []) (hsub_mk hpl rfl) (fun i hi=>tauF_lt rfl hi) (Nat.le_of_ble_eq_true rfl) (gsLt rfl) rfl (.refl _) (.done ?_)
     refine⟨rfl,rfl,rfl,c2,m2,?_,?_,rfl⟩
     ·rw [hr1];simpa using hc2
     ·rw [hr1];simpa using hm2
    ·have hn0:0≤n:=by simpa [cmp0] using hn0
     rw [if_pos (by omega)] at hr1
     refine Ha _ _ _ _ _ ?_
     intro q hq
     obtain⟨z,hz2⟩:∃ z:Nat,z=(2*n).toNat:=⟨_,rfl⟩
     rw [← hz2] at hr1
     obtain rfl:q=Int.ofNat z:=by rw [hq];refine(wrap_in (by omega) (by omega)).trans ?_;simp;omega
     have hzl:z<1099511627776:=by omega
     cbv
     refine Hk _ _ _ _ _ _ _ ?_
     refine CallZ.of (tauF [(2,15)]) (n:=3) (l0:=[(0,.ro calcAVs),(1,.cells [.sl 2 0 m1 m1 false 1] 0),(2,.cells d 0)]) call32 (wnum (by first|assumption|omega) hdv hm1' (by omega) B) hpl rfl rfl rfl (gsT rfl rfl) rfl rfl ?_ (fun _ _ _ h=>h.elim)
     rintro B v hp' n' ⟨rfl,rfl,rfl,c2,m2,hc2,hm2,rfl⟩ _
     refine⟨_,rfl,rfl,?_⟩
     intro hpX hX
     simp only [layR,Obj.ren,hc2.rens] at hX
     subst hX
     cbv
     (with_reducible refine hQ _ _ _ rfl rfl ?_);refine⟨_,rfl,?_⟩;refine ExitR.sub hF (τ:=tauF [(3,16)]) (n2:=4) (hl:=[(0,.ro calcAVs),(1,.cells [.sl 3 0 m2 m2 false 1] 0),(3,.cells c2 0)]) (v2:=.tup []) (hsub_mk hpl rfl) (fun i hi=>tauF_lt rfl hi) (Nat.le_of_ble_eq_true rfl) (gsLt rfl) rfl (.refl _) (.done ?_)
     refine⟨rfl,rfl,rfl,c2,m2,?_,?_,rfl⟩
     ·rw [hr1];simpa using hc2
     ·rw [hr1];simpa using hm2
  ·simp [cmp0] at hk1
   rw [encT,if_pos hk1,← hkb] at hr1
   obtain⟨n0,hn0⟩:∃ n0:Nat,n0=n.toNat:=⟨_,rfl⟩
   rw [← hn0] at hr1
   obtain rfl:n=Int.ofNat n0:=by simp;omega
   have hzl:n0<1099511627776:=by simp at hnf;omega
   cbv
   refine Hk _ _ _ _ _ _ _ ?_
   refine CallZ.of (tauF [(2,15)]) (n:=3) (l0:=[(0,.ro calcAVs),(1,.cells [.sl 2 0 m1 m1 false 1] 0),(2,.cells d 0)]) call32 (wnum (by first|assumption|omega) hdv hm1' (by omega) B) hpl rfl rfl rfl (gsT rfl rfl) rfl rfl ?_ (fun _ _ _ h=>h.elim)
   rintro B v hp' n' ⟨rfl,rfl,rfl,c2,m2,hc2,hm2,rfl⟩ _
   refine⟨_,rfl,rfl,?_⟩
   intro hpX hX
   simp only [layR,Obj.ren,hc2.rens] at hX
   subst hX
   cbv
   (with_reducible refine hQ _ _ _ rfl rfl ?_);refine⟨_,rfl,?_⟩;refine ExitR.sub hF (τ:=tauF [(3,16)]) (n2:=4) (hl:=[(0,.ro calcAVs),(1,.cells [.sl 3 0 m2 m2 false 1] 0),(3,.cells c2 0)]) (v2:=.tup []) (hsub_mk hpl rfl) (fun i hi=>tauF_lt rfl hi) (Nat.le_of_ble_eq_true rfl) (gsLt rfl) rfl (.refl _) (.done ?_)
   refine⟨rfl,rfl,rfl,c2,m2,?_,?_,rfl⟩
   ·rw [hr1];simpa using hc2
   ·rw [hr1];simpa using hm2
end Go.Proofs.YtaacpiniakmpbaaGreatDoor
