/- How the reference reads terms with parts. -/
import Derived.Test.YtaacpiniakmpbaaGreatDoorY1
import Derived.Test.YtaacpiniakmpbaaGreatDoorU4
import Derived.Test.YtaacpiniakmpbaaGreatDoorY2
namespace Go.Proofs.YtaacpiniakmpbaaGreatDoor
open Go Ev Tryz
set_option linter.unusedSimpArgs false
set_option linter.unusedVariables false
set_option maxHeartbeats 8000000
set_option maxRecDepth 20000
theorem tterm6 {d:Nat} (ih:d≤600→∀ (s:ByteArray),s.size≤1048576→∀ (a:Nat),a≤s.size→∀ B,CallG Tryz.prog ctxZ B 41 [.ptr 1 0,.val (.int .i64 (Int.ofNat d))] (mkT [(0,.ro calcAVs),(1,.cells [.val (.string s),.val (.int .i64 (Int.ofNat a)),.bool true] 0)]).get 2
   (fun B' v H n'=>∃ hp,H=T.get hp∧Tooked B s a (tTerm d ((bytesOf s).drop a)) B' v hp n') (fun v H n'=>∃ hp,H=T.get hp∧False)) (hdp:d+1≤600) {s:ByteArray} (hs:s.size≤1048576) {a:Nat} (ha:a≤s.size) (hb:(bytesOf s)[a]?=some 6) (B:Base) :
  CallG Tryz.prog ctxZ B 41 [.ptr 1 0,.val (.int .i64 (Int.ofNat (d+1)))] (mkT [(0,.ro calcAVs),(1,.cells [.val (.string s),.val (.int .i64 (Int.ofNat a)),.bool true] 0)]).get 2
   (fun B' v H n'=>∃ hp,H=T.get hp∧Tooked B s a (tTerm (d+1) ((bytesOf s).drop a)) B' v hp n') (fun v H n'=>∃ hp,H=T.get hp∧False):=by
  have hbl:=bytesOf_len s
  have hlt:a<s.size:=by have:=(List.getElem?_eq_some_iff.1 hb).1;omega
  refine CallG.body prog_okZ func41 rfl ?_
  rintro⟨φ0,H0,_,w0,B⟩ hF rfl rfl rfl Q N hQ hN
  obtain⟨W,hW⟩:∃ W,W=tTerm (d+1) ((bytesOf s).drop a):=⟨_,rfl⟩
  rw [← hW] at hQ
  refine CodeF.sy prog_okZ ?_
  intro _ _ _ _ _ _ _ _ _ _ _ _ _ Hc Hs Ha Hw Hd Ho Hl Hn Hi Hv Hz Hk He
  cbv
  refine Hn _ _ _ _ (len_stZ ?_)
  intro z hz
  cbv
  refine Hc _ _ _ _ ?_
  rintro(_|_) h1<;>cbv
  rotate_left
  ·simp [cmp0] at h1;omega
  refine Hc _ _ _ _ ?_
  rintro(_|_) h2<;>cbv
  rotate_left
  ·simp [cmp0] at h2;omega
  clear h1 h2
  rw [drop_get hb,tTerm] at hW
  refine Hz _ _ _ _ (idx_str ctxAt rfl (by decide) rfl rfl rfl rfl hb ?_)
  cbv
  refine Hw _ _ _ ?_
  intro q hq
  obtain rfl:q=Int.ofNat 6:=hq
  cbv
  refine Ha _ _ _ _ _ ?_
  intro q hq
  obtain⟨a1,ha1⟩:∃ a1,a1=a+1:=⟨_,rfl⟩
  obtain rfl:q=Int.ofNat a1:=by rw [hq,ha1];exact ar0_suc (by omega)
  rw [← ha1] at hW
  clear hq hb
  cbv
  refine Hc _ _ _ _ ?_
  intro t ht
  obtain rfl:t=false:=ht
  cbv
  refine Hc _ _ _ _ ?_
  intro t ht
  obtain rfl:t=false:=ht
  cbv
  refine Hc _ _ _ _ ?_
  intro t ht
  obtain rfl:t=false:=ht
  cbv
  refine Hc _ _ _ _ ?_
  intro t ht
  obtain rfl:t=false:=ht
  cbv
  refine Hc _ _ _ _ ?_
  intro t ht
  obtain rfl:t=false:=ht
  cbv
  refine Hc _ _ _ _ ?_
  intro t ht
  obtain rfl:t=true:=ht
  cbv
  rw [if_neg (by decide),if_neg (by decide),if_neg (by decide),if_neg (by decide),if_pos rfl] at hW
  refine Hk _ _ _ _ _ _ _ ?_
  refine CallZ.of (tauF []) (n:=2) (l0:=[(0,.ro calcAVs),(1,.cells [.val (.string s),.val (.int .i64 (Int.ofNat a1)),.bool true] 0)]) call40 (tnum hs (by omega) true B) hpl rfl rfl rfl (gsT rfl rfl) rfl rfl ?_ (fun _ _ _ h=>h.elim)
  rintro B v hp' n' ⟨rfl,rfl,n,a3,ok3,rfl,hnb,ha3,haa3,rfl,hor3⟩ _
  refine⟨_,rfl,rfl,?_⟩
  intro hpX hX
  simp only [layR] at hX
  subst hX
  rcases hor3 with⟨hw,rfl⟩|⟨hw,rfl,hn0⟩
  ·rw [tParts,hw] at hW
   simp only at hW
   clear hw
   cbv
   refine He _ _ _ _ (CodeF.loop hF (gsLt rfl) (fun x:Bool×Bool×Nat×List Tm×List Value×List AV×Nat=>match x.1 with
     | true=>mkS [(0,.ptr 1 0),(1,.val (.int .i64 (Int.ofNat (d+1)))),(4,.ptr 2 0),(5,.ptr 3 0),(7,.val (.int .i64 (Int.ofNat n))),(8,.val (.int .i64 (Int.ofNat x.2.2.1)))]
       [(0,.ro calcAVs),(1,.cells [.val (.string s),.val (.int .i64 (Int.ofNat x.2.2.2.2.2.2)),.bool x.2.1] 0),(2,.cells [.int .i64 0,.int .i64 0,.str [],.nsl] 0),(3,.cells [.val (.int .i64 (Int.ofNat 6)),.val (.int .i64 0),.val (.string (strB [])),.nsl] 0)] 5
     | false=>mkS [(0,.ptr 1 0),(1,.val (.int .i64 (Int.ofNat (d+1)))),(4,.ptr 2 0),(5,.ptr 3 0),(7,.val (.int .i64 (Int.ofNat n))),(8,.val (.int .i64 (Int.ofNat x.2.2.1)))]
       [(0,.ro calcAVs),(1,.cells [.val (.string s),.val (.int .i64 (Int.ofNat x.2.2.2.2.2.2)),.bool x.2.1] 0),(2,.cells [.int .i64 0,.int .i64 0,.str [],.nsl] 0),(3,.cells [.val (.int .i64 (Int.ofNat 6)),.val (.int .i64 0),.val (.string (strB [])),.sl 4 0 x.2.2.1 x.2.2.1 false 4] 0),(4,.cells x.2.2.2.2.2.1 0)] 5)
    (fun x=>n - x.2.2.1) (fun x B'=>(∀ k o,B k=some o→B' k=some o)∧Vs x.2.2.2.2.2.1 x.2.2.2.2.1∧x.2.2.2.2.1.length=x.2.2.1*4∧x.2.2.1≤n∧(x.1=true→x.2.2.1=0∧x.2.1=true)∧(x.1=false→0<x.2.2.1)∧x.2.2.2.2.2.2≤s.size∧a1≤x.2.2.2.2.2.2 ∧
      (x.2.1=true→TsAt B' x.2.2.2.1 x.2.2.2.2.1∧x.2.2.2.1.length=x.2.2.1∧x.2.2.1≤x.2.2.2.2.2.2∧W=tRest (tTerm d) (Int.ofNat 6) (strB []) x.2.2.2.1 (n - x.2.2.1) ((bytesOf s).drop x.2.2.2.2.2.2))∧(x.2.1=false→W=none))
    (true,true,0,[],[],[],a3) ⟨fun _ _ q=>q,⟨rfl,rfl⟩,rfl,Nat.zero_le _,fun _=>⟨rfl,rfl⟩,(fun q=>by cases q),ha3,by show a1≤a3;omega,fun _=>⟨rfl,rfl,Nat.zero_le _,hW⟩,(fun q=>by cases q)⟩ (fun x=>by obtain⟨_|_,_⟩:=x<;>exact Nat.le_of_ble_eq_true rfl) (subr_mk (τ:=tauF [(3,28)]) rtl hpl rfl rfl) (fun i hi=>tauF_lt rfl hi) ?_)
   clear hW ha3 haa3
   rintro⟨_|_,_|_,i,l',vs,c,a'⟩ B' ⟨hle,hvs,hvl,hi,hn1,hn2,ha',haa',hok,hko⟩
   ·simp only at hle hvs hvl hi hn1 hn2 ha' haa' hok hko
    have hi0:0<i:=hn2 trivial
    have hfin:W=none:=hko trivial
    clear hn1 hn2 hok hko
    have frz:∀ (i0:Nat) (o:Ev.Obj),(mkT [(0,.ro calcAVs),(1,.cells [.val (.string s),.val (.int .i64 (Int.ofNat a)),.bool true] 0)]).get i0=some o→o.own=true→i0≠4∧(i0=0∨i0=1):=by
     intro j o hj ho
     have:=mkT_get hj
     simp only [List.mem_cons,Prod.mk.injEq,List.not_mem_nil,or_false] at this
     rcases this with⟨rfl,rfl⟩|⟨rfl,rfl⟩
     ·exact⟨by decide,.inl rfl⟩
     ·exact⟨by decide,.inr rfl⟩
    refine CodeF.sy prog_okZ ?_
    intro _ _ _ _ _ _ _ _ _ _ _ _ _ Hc2 Hs2 Ha2 Hw2 Hd2 Ho2 Hl2 Hn2 Hi2 Hv2 Hz2 Hk2 He2
    cbv
    refine Hc2 _ _ _ _ ?_
    rintro(_|_) h1<;>cbv
    ·(with_reducible refine hQ _ _ _ rfl rfl ?_);refine⟨_,rfl,?_⟩
     refine ExitR.freeze (xs:=[.val (.int .i64 (Int.ofNat 6)),.val (.int .i64 0),.val (.string (strB []))]) (id:=4) rfl hvs (by intro q;rw [q] at hvl;simp at hvl;omega) (by omega) ?_ ?_
     ·intro j o hj ho
      obtain⟨h1,h2⟩:=frz j o hj ho
      refine⟨h1,?_⟩
      rcases h2 with rfl|rfl
      ·exact⟨_,rfl⟩
      ·exact⟨_,rfl⟩
     intro B2 b o cp2 hle2 hcells
     refine ExitR.sub hF (τ:=tauF []) (n2:=2) (hl:=[(0,.ro calcAVs),(1,.cells [.val (.string s),.val (.int .i64 (Int.ofNat a')),.bool false] 0)]) (v2:=.agg ([.int .i64 (Int.ofNat 6),.int .i64 0,.string (strB []),.slice (some ⟨b,o,none⟩) i cp2].map AV.val)) (hsub_mk (τ:=tauF []) hpl rfl) (fun i hi=>tauF_lt rfl hi) (Nat.le_of_ble_eq_true rfl) (gsLt rfl) rfl (.refl _) (.done ?_)
     exact⟨rfl,a',false,_,_,_,_,_,_,rfl,rfl,fun k x q=>hle2 k x (hle k x q),ha',by omega,.inr ⟨rfl,hfin⟩⟩
    ·(with_reducible refine hQ _ _ _ rfl rfl ?_);refine⟨_,rfl,?_⟩
     refine ExitR.freeze (xs:=[.val (.int .i64 (Int.ofNat 6)),.val (.int .i64 0),.val (.string (strB []))]) (id:=4) rfl hvs (by intro q;rw [q] at hvl;simp at hvl;omega) (by omega) ?_ ?_
     ·intro j o hj ho
      obtain⟨h1,h2⟩:=frz j o hj ho
      refine⟨h1,?_⟩
      rcases h2 with rfl|rfl
      ·exact⟨_,rfl⟩
      ·exact⟨_,rfl⟩
     intro B2 b o cp2 hle2 hcells
     refine ExitR.sub hF (τ:=tauF []) (n2:=2) (hl:=[(0,.ro calcAVs),(1,.cells [.val (.string s),.val (.int .i64 (Int.ofNat a')),.bool false] 0)]) (v2:=.agg ([.int .i64 (Int.ofNat 6),.int .i64 0,.string (strB []),.slice (some ⟨b,o,none⟩) i cp2].map AV.val)) (hsub_mk (τ:=tauF []) hpl rfl) (fun i hi=>tauF_lt rfl hi) (Nat.le_of_ble_eq_true rfl) (gsLt rfl) rfl (.refl _) (.done ?_)
     exact⟨rfl,a',false,_,_,_,_,_,_,rfl,rfl,fun k x q=>hle2 k x (hle k x q),ha',by omega,.inr ⟨rfl,hfin⟩⟩
   ·simp only at hle hvs hvl hi hn1 hn2 ha' haa' hok hko
    have hi0:0<i:=hn2 trivial
    obtain⟨hts,Hn,hia,hW⟩:=hok trivial
    clear hn1 hn2 hok hko
    have frz:∀ (i0:Nat) (o:Ev.Obj),(mkT [(0,.ro calcAVs),(1,.cells [.val (.string s),.val (.int .i64 (Int.ofNat a)),.bool true] 0)]).get i0=some o→o.own=true→i0≠4∧(i0=0∨i0=1):=by
     intro j o hj ho
     have:=mkT_get hj
     simp only [List.mem_cons,Prod.mk.injEq,List.not_mem_nil,or_false] at this
     rcases this with⟨rfl,rfl⟩|⟨rfl,rfl⟩
     ·exact⟨by decide,.inl rfl⟩
     ·exact⟨by decide,.inr rfl⟩
    refine CodeF.sy prog_okZ ?_
    intro _ _ _ _ _ _ _ _ _ _ _ _ _ Hc2 Hs2 Ha2 Hw2 Hd2 Ho2 Hl2 Hn2 Hi2 Hv2 Hz2 Hk2 He2
    cbv
    refine Hc2 _ _ _ _ ?_
    rintro(_|_) h1<;>cbv
    ·have hge:i=n:=by have:¬ (i:Int)<n:=by simpa [cmp0] using h1
                      omega
     rw [hge,Nat.sub_self,tRest_zero] at hW
     (with_reducible refine hQ _ _ _ rfl rfl ?_);refine⟨_,rfl,?_⟩
     refine ExitR.freeze (xs:=[.val (.int .i64 (Int.ofNat 6)),.val (.int .i64 0),.val (.string (strB []))]) (id:=4) rfl hvs (by intro q;rw [q] at hvl;simp at hvl;omega) (by omega) ?_ ?_
     ·intro j o hj ho
      obtain⟨h1,h2⟩:=frz j o hj ho
      refine⟨h1,?_⟩
      rcases h2 with rfl|rfl
      ·exact⟨_,rfl⟩
      ·exact⟨_,rfl⟩
     intro B2 b o cp2 hle2 hcells
     refine ExitR.sub hF (τ:=tauF []) (n2:=2) (hl:=[(0,.ro calcAVs),(1,.cells [.val (.string s),.val (.int .i64 (Int.ofNat a')),.bool true] 0)]) (v2:=.agg ([.int .i64 (Int.ofNat 6),.int .i64 0,.string (strB []),.slice (some ⟨b,o,none⟩) i cp2].map AV.val)) (hsub_mk (τ:=tauF []) hpl rfl) (fun i hi=>tauF_lt rfl hi) (Nat.le_of_ble_eq_true rfl) (gsLt rfl) rfl (.refl _) (.done ?_)
     exact⟨rfl,a',true,_,_,_,_,_,_,rfl,rfl,fun k x q=>hle2 k x (hle k x q),ha',by omega,.inl ⟨rfl,by omega,l',hW,TmAt.mk' ⟨Hn.symm,by omega,.inr ⟨b,o,rfl,(hts.mono hle2).el hcells⟩⟩ (by decide)⟩⟩
    ·have hlt:i<n:=by have:(i:Int)<n:=by simpa [cmp0] using h1
                      omega
     obtain⟨kk,hkk⟩:∃ kk,n - i=kk+1:=⟨n - i - 1,by omega⟩
     rw [hkk] at hW
     refine He2 _ _ _ _ (CodeF.sub hF (τ:=tauF []) (subr_mk (τ:=tauF []) rtl hpl rfl rfl) (fun i hi=>tauF_lt rfl hi) (Nat.le_of_ble_eq_true rfl) (gsLt rfl) (part41o hs (by omega) (fun B=>ih (by omega) s hs a' ha' B) rfl hvs hvl (by omega) ?_))
     rintro s'' B'' ⟨k2,n2,u2,x2,m2,c2,a4,ok4,dd,j,⟨hle1,ha4,haa4,hor4⟩,hdd,rfl,rfl⟩
     rcases hor4 with⟨rfl,hlt4,l2,hW1,hta⟩|⟨rfl,hW1⟩
     ·rw [tRest_some hW1] at hW
      cbv
      refine Ha2 _ _ _ _ _ ?_
      rintro q rfl
      rw [ar0_suc (by omega)]
      cbv
      refine⟨(false,true,i+1,l'++[.mk k2 n2 u2 l2],vs++_,dd,a4),tauF [(4,6)],?_,⟨fun k x q=>hle1 k x (hle k x q),hdd,?_,?_,(fun q=>by cases q),(fun _=>by show 0<i+1;omega),ha4,?_,(fun _=>⟨TsAt.snoc hta (hts.mono hle1),?_,?_,?_⟩),(fun q=>by cases q)⟩,(subr_mk (τ:=tauF [(4,6)]) rtl hpl rfl rfl),fun i hi=>tauF_lt rfl hi⟩
      ·simp only;omega
      ·simp only [List.length_append,List.length_cons,List.length_nil];omega
      ·simp only;omega
      ·simp only;omega
      ·simp only [List.length_append,List.length_singleton];omega
      ·simp only;omega
      ·simp only;rw [hW,show n - (i+1)=kk by omega]
     ·rw [tRest_none hW1] at hW
      cbv
      refine Ha2 _ _ _ _ _ ?_
      rintro q rfl
      rw [ar0_suc (by omega)]
      cbv
      refine⟨(false,false,i+1,[],vs++_,dd,a4),tauF [(4,6)],?_,⟨fun k x q=>hle1 k x (hle k x q),hdd,?_,?_,(fun q=>by cases q),(fun _=>by show 0<i+1;omega),ha4,?_,(fun q=>by cases q),(fun _=>hW)⟩,(subr_mk (τ:=tauF [(4,6)]) rtl hpl rfl rfl),fun i hi=>tauF_lt rfl hi⟩
      ·simp only;omega
      ·simp only [List.length_append,List.length_cons,List.length_nil];omega
      ·simp only;omega
      ·simp only;omega
   ·exact absurd (hn1 rfl).2 (by simp)
   ·simp only at hle hvs hvl hi hn1 hn2 ha' haa' hok hko
    have hi0:i=0:=(hn1 trivial).1
    obtain⟨hts,Hn,hia,hW⟩:=hok trivial
    clear hn1 hn2 hok hko
    obtain rfl:l'=[]:=by rw [← List.length_eq_zero_iff];omega
    have hts:vs=[]:=hts
    subst hts
    refine CodeF.sy prog_okZ ?_
    intro _ _ _ _ _ _ _ _ _ _ _ _ _ Hc2 Hs2 Ha2 Hw2 Hd2 Ho2 Hl2 Hn2 Hi2 Hv2 Hz2 Hk2 He2
    cbv
    refine Hc2 _ _ _ _ ?_
    rintro(_|_) h1<;>cbv
    ·have hge:i=n:=by have:¬ (i:Int)<n:=by simpa [cmp0] using h1
                      omega
     rw [hge,Nat.sub_self,tRest_zero] at hW
     (with_reducible refine hQ _ _ _ rfl rfl ?_);refine⟨_,rfl,?_⟩
     refine ExitR.sub hF (τ:=tauF []) (n2:=2) (hl:=[(0,.ro calcAVs),(1,.cells [.val (.string s),.val (.int .i64 (Int.ofNat a')),.bool true] 0)]) (v2:=.agg ([.int .i64 (Int.ofNat 6),.int .i64 0,.string (strB []),.slice none 0 0].map AV.val)) (hsub_mk (τ:=tauF []) hpl rfl) (fun i hi=>tauF_lt rfl hi) (Nat.le_of_ble_eq_true rfl) (gsLt rfl) rfl (.agg (by repeat'(first|exact .nil|refine .cons ?_ ?_|exact .refl _|exact .val _ rfl rfl))) (.done ?_)
     exact⟨rfl,a',true,_,_,_,_,_,_,rfl,rfl,hle,ha',by omega,.inl ⟨rfl,by omega,[],hW,TmAt.mk' ⟨rfl,by decide,.inl rfl⟩ (by decide)⟩⟩
    ·have hlt:i<n:=by have:(i:Int)<n:=by simpa [cmp0] using h1
                      omega
     obtain⟨kk,hkk⟩:∃ kk,n - i=kk+1:=⟨n - i - 1,by omega⟩
     rw [hkk] at hW
     refine He2 _ _ _ _ (CodeF.sub hF (τ:=tauF []) (subr_mk (τ:=tauF []) rtl hpl rfl rfl) (fun i hi=>tauF_lt rfl hi) (Nat.le_of_ble_eq_true rfl) (gsLt rfl) (part41 hs (by omega) (fun B=>ih (by omega) s hs a' ha' B) rfl hi0 (vs:=[]) rfl ?_))
     rintro s'' B'' ⟨k2,n2,u2,x2,m2,c2,a4,ok4,dd,j,⟨hle1,ha4,haa4,hor4⟩,hdd,rfl,rfl⟩
     rcases hor4 with⟨rfl,hlt4,l2,hW1,hta⟩|⟨rfl,hW1⟩
     ·rw [tRest_some hW1] at hW
      cbv
      refine Ha2 _ _ _ _ _ ?_
      rintro q rfl
      rw [ar0_suc (by omega)]
      cbv
      refine⟨(false,true,i+1,[.mk k2 n2 u2 l2],_,dd,a4),tauF [(4,6)],?_,⟨fun k x q=>hle1 k x (hle k x q),hdd,?_,?_,(fun q=>by cases q),(fun _=>by show 0<i+1;omega),ha4,?_,(fun _=>⟨⟨_,[],(List.append_nil _).symm,hta,rfl⟩,?_,?_,?_⟩),(fun q=>by cases q)⟩,(subr_mk (τ:=tauF [(4,6)]) rtl hpl rfl rfl),fun i hi=>tauF_lt rfl hi⟩
      ·simp only;omega
      ·simp only [List.length_append,List.length_cons,List.length_nil];omega
      ·simp only;omega
      ·simp only;omega
      ·simp only [List.length_singleton];omega
      ·simp only;omega
      ·simp only;rw [hW,show n - (i+1)=kk by omega];rfl
     ·rw [tRest_none hW1] at hW
      cbv
      refine Ha2 _ _ _ _ _ ?_
      rintro q rfl
      rw [ar0_suc (by omega)]
      cbv
      refine⟨(false,false,i+1,[],_,dd,a4),tauF [(4,6)],?_,⟨fun k x q=>hle1 k x (hle k x q),hdd,?_,?_,(fun q=>by cases q),(fun _=>by show 0<i+1;omega),ha4,?_,(fun q=>by cases q),(fun _=>hW)⟩,(subr_mk (τ:=tauF [(4,6)]) rtl hpl rfl rfl),fun i hi=>tauF_lt rfl hi⟩
      ·simp only;omega
      ·simp only [List.length_append,List.length_cons,List.length_nil];omega
      ·simp only;omega
      ·simp only;omega
  ·rw [tParts,hw] at hW
   clear hn0
   cbv
   refine He _ _ _ _ (CodeF.loop hF (gsLt rfl) (fun x:Unit=>mkS [(0,.ptr 1 0),(4,.ptr 2 0),(5,.ptr 3 0),(7,.val (.int .i64 (Int.ofNat n))),(8,.val (.int .i64 (Int.ofNat 0)))]
      [(0,.ro calcAVs),(1,.cells [.val (.string s),.val (.int .i64 (Int.ofNat a3)),.bool false] 0),(2,.cells [.int .i64 0,.int .i64 0,.str [],.nsl] 0),(3,.cells [.val (.int .i64 (Int.ofNat 6)),.val (.int .i64 0),.val (.string (strB [])),.nsl] 0)] 5)
    (fun x=>0) (fun x B'=>B'=B) () rfl (fun _=>Nat.le_of_ble_eq_true rfl) (subr_mk (τ:=tauF [(3,28)]) rtl hpl rfl rfl) (fun i hi=>tauF_lt rfl hi) ?_)
   rintro _ B' hB
   subst hB
   refine CodeF.sy prog_okZ ?_
   intro _ _ _ _ _ _ _ _ _ _ _ _ _ Hc2 Hs2 Ha2 Hw2 Hd2 Ho2 Hl2 Hn2 Hi2 Hv2 Hz2 Hk2 He2
   cbv
   refine Hc2 _ _ _ _ ?_
   rintro(_|_) h1<;>cbv
   ·(with_reducible refine hQ _ _ _ rfl rfl ?_);refine⟨_,rfl,?_⟩
    refine ExitR.sub hF (τ:=tauF []) (n2:=2) (hl:=[(0,.ro calcAVs),(1,.cells [.val (.string s),.val (.int .i64 (Int.ofNat a3)),.bool false] 0)]) (v2:=.agg ([.int .i64 (Int.ofNat 6),.int .i64 0,.string (strB []),.slice none 0 0].map AV.val)) (hsub_mk (τ:=tauF []) hpl rfl) (fun i hi=>tauF_lt rfl hi) (Nat.le_of_ble_eq_true rfl) (gsLt rfl) rfl (.agg (by repeat'(first|exact .nil|refine .cons ?_ ?_|exact .refl _|exact .val _ rfl rfl))) (.done ?_)
    exact⟨rfl,a3,false,_,_,_,_,_,_,rfl,rfl,fun _ _ q=>q,ha3,by omega,.inr ⟨rfl,hW⟩⟩
   ·(with_reducible refine hQ _ _ _ rfl rfl ?_);refine⟨_,rfl,?_⟩
    refine ExitR.sub hF (τ:=tauF []) (n2:=2) (hl:=[(0,.ro calcAVs),(1,.cells [.val (.string s),.val (.int .i64 (Int.ofNat a3)),.bool false] 0)]) (v2:=.agg ([.int .i64 (Int.ofNat 6),.int .i64 0,.string (strB []),.slice none 0 0].map AV.val)) (hsub_mk (τ:=tauF []) hpl rfl) (fun i hi=>tauF_lt rfl hi) (Nat.le_of_ble_eq_true rfl) (gsLt rfl) rfl (.agg (by repeat'(first|exact .nil|refine .cons ?_ ?_|exact .refl _|exact .val _ rfl rfl))) (.done ?_)
    exact⟨rfl,a3,false,_,_,_,_,_,_,rfl,rfl,fun _ _ q=>q,ha3,by omega,.inr ⟨rfl,hW⟩⟩
theorem tterm:∀ (deep:Nat),deep≤600→∀ (s:ByteArray),s.size≤1048576→∀ (a:Nat),a≤s.size→∀ B,CallG Tryz.prog ctxZ B 41 [.ptr 1 0,.val (.int .i64 (Int.ofNat deep))] (mkT [(0,.ro calcAVs),(1,.cells [.val (.string s),.val (.int .i64 (Int.ofNat a)),.bool true] 0)]).get 2
   (fun B' v H n'=>∃ hp,H=T.get hp∧Tooked B s a (tTerm deep ((bytesOf s).drop a)) B' v hp n') (fun v H n'=>∃ hp,H=T.get hp∧False):=by
 intro deep
 induction deep with
 | zero =>
  intro _ s hs a ha B
  have hbl:=bytesOf_len s
  refine CallG.body prog_okZ func41 rfl ?_
  rintro⟨φ0,H0,_,w0,B⟩ hF rfl rfl rfl Q N hQ hN
  refine CodeF.sy prog_okZ ?_
  intro _ _ _ _ _ _ _ _ _ _ _ _ _ Hc Hs Ha Hw Hd Ho Hl Hn Hi Hv Hz Hk He
  cbv
  refine Hn _ _ _ _ (len_stZ ?_)
  intro z hz
  cbv
  refine Hc _ _ _ _ ?_
  rintro(_|_) h1<;>cbv
  ·refine Hc _ _ _ _ ?_
   rintro(_|_) h2<;>cbv
   ·simp [cmp0] at h2
   ·(with_reducible refine hQ _ _ _ rfl rfl ?_);refine⟨_,rfl,?_⟩
    refine ExitR.sub hF (τ:=tauF []) (n2:=2) (hl:=[(0,.ro calcAVs),(1,.cells [.val (.string s),.val (.int .i64 (Int.ofNat a)),.bool false] 0)]) (v2:=.agg ([.int .i64 0,.int .i64 0,.string (strB []),.slice none 0 0].map AV.val)) (hsub_mk (τ:=tauF []) hpl rfl) (fun i hi=>tauF_lt rfl hi) (Nat.le_of_ble_eq_true rfl) (gsLt rfl) rfl (.agg (by repeat'(first|exact .nil|refine .cons ?_ ?_|exact .refl _|exact .val _ rfl rfl))) (.done ?_)
    exact⟨rfl,a,false,_,_,_,_,_,_,rfl,rfl,fun _ _ q=>q,ha,Nat.le_refl _,.inr ⟨rfl,rfl⟩⟩
  ·(with_reducible refine hQ _ _ _ rfl rfl ?_);refine⟨_,rfl,?_⟩
   refine ExitR.sub hF (τ:=tauF []) (n2:=2) (hl:=[(0,.ro calcAVs),(1,.cells [.val (.string s),.val (.int .i64 (Int.ofNat a)),.bool false] 0)]) (v2:=.agg ([.int .i64 0,.int .i64 0,.string (strB []),.slice none 0 0].map AV.val)) (hsub_mk (τ:=tauF []) hpl rfl) (fun i hi=>tauF_lt rfl hi) (Nat.le_of_ble_eq_true rfl) (gsLt rfl) rfl (.agg (by repeat'(first|exact .nil|refine .cons ?_ ?_|exact .refl _|exact .val _ rfl rfl))) (.done ?_)
   exact⟨rfl,a,false,_,_,_,_,_,_,rfl,rfl,fun _ _ q=>q,ha,Nat.le_refl _,.inr ⟨rfl,rfl⟩⟩
 | succ d ih =>
  intro hdp s hs a ha B
  have hbl:=bytesOf_len s
  by_cases h5:(bytesOf s)[a]?=some 5
  ·exact tterm5 ih hdp hs ha h5 B
  by_cases h6:(bytesOf s)[a]?=some 6
  ·exact tterm6 ih hdp hs ha h6 B
  have hne:∀ b,(bytesOf s)[a]?=some b→b≠5∧b≠6:=fun b hb=>⟨fun e=>h5 (by rw [hb,e]),fun e=>h6 (by rw [hb,e])⟩
  refine CallG.body prog_okZ func41 rfl ?_
  rintro⟨φ0,H0,_,w0,B⟩ hF rfl rfl rfl Q N hQ hN
  obtain⟨W,hW⟩:∃ W,W=tTerm (d+1) ((bytesOf s).drop a):=⟨_,rfl⟩
  rw [← hW] at hQ
  refine CodeF.sy prog_okZ ?_
  intro _ _ _ _ _ _ _ _ _ _ _ _ _ Hc Hs Ha Hw Hd Ho Hl Hn Hi Hv Hz Hk He
  cbv
  refine Hn _ _ _ _ (len_stZ ?_)
  intro z hz
  cbv
  refine Hc _ _ _ _ ?_
  rintro(_|_) h1<;>cbv
  ·have hlt:a<s.size:=by simp [cmp0] at h1;omega
   refine Hc _ _ _ _ ?_
   rintro(_|_) h2<;>cbv
   ·clear h1 h2
    obtain⟨b,hb⟩:∃ b,(bytesOf s)[a]?=some b:=⟨_,List.getElem?_eq_getElem (by omega)⟩
    rw [drop_get hb,tTerm] at hW
    have hb256:b<256:=by
     have:=List.all_eq_true.1 (bytes_lt s) b (List.mem_of_getElem? hb)
     simpa [Nat.blt_eq] using this
    refine Hz _ _ _ _ (idx_str ctxAt rfl (by decide) rfl rfl rfl rfl hb ?_)
    cbv
    refine Hw _ _ _ ?_
    intro q hq
    obtain rfl:q=Int.ofNat b:=by rw [hq];exact wrap_in (by simp<;>omega) (by simp<;>omega)
    clear hq
    cbv
    refine Ha _ _ _ _ _ ?_
    intro q hq
    obtain⟨a1,ha1⟩:∃ a1,a1=a+1:=⟨_,rfl⟩
    obtain rfl:q=Int.ofNat a1:=by rw [hq,ha1];exact ar0_suc (by omega)
    rw [← ha1] at hW
    clear hq
    cbv
    refine Hc _ _ _ _ ?_
    rintro(_|_) hk1<;>cbv
    ·refine Hc _ _ _ _ ?_
     rintro(_|_) hk2<;>cbv
     ·refine Hc _ _ _ _ ?_
      rintro(_|_) hk3<;>cbv
      ·refine Hc _ _ _ _ ?_
       rintro(_|_) hk4<;>cbv
       ·refine Hc _ _ _ _ ?_
        rintro(_|_) hk5<;>cbv
        ·refine Hc _ _ _ _ ?_
         rintro(_|_) hk6<;>cbv
         ·have hfin:W=none:=by
           simp [cmp0] at hk1 hk2 hk3 hk4 hk5 hk6
           rw [hW,if_neg (by omega),if_neg (by omega),if_neg (by omega),if_neg (by omega),if_neg (by omega)]
          (with_reducible refine hQ _ _ _ rfl rfl ?_);refine⟨_,rfl,?_⟩
          refine ExitR.sub hF (τ:=tauF []) (n2:=2) (hl:=[(0,.ro calcAVs),(1,.cells [.val (.string s),.val (.int .i64 (Int.ofNat a1)),.bool false] 0)]) (v2:=.agg ([.int .i64 (Int.ofNat b),.int .i64 0,.string (strB []),.slice none 0 0].map AV.val)) (hsub_mk (τ:=tauF []) hpl rfl) (fun i hi=>tauF_lt rfl hi) (Nat.le_of_ble_eq_true rfl) (gsLt rfl) rfl (.agg (by repeat'(first|exact .nil|refine .cons ?_ ?_|exact .refl _|exact .val _ rfl rfl))) (.done ?_)
          exact⟨rfl,a1,false,_,_,_,_,_,_,rfl,rfl,fun _ _ q=>q,by omega,by omega,.inr ⟨rfl,hfin⟩⟩
         ·have hb4:b=6:=by simp [cmp0] at hk6;omega
          exact((hne b hb).2 hb4).elim
        ·have hb4:b=5:=by simp [cmp0] at hk5;omega
         exact((hne b hb).1 hb4).elim
       ·have hb4:b=4:=by simp [cmp0] at hk4;omega
        subst hb4
        clear hk1 hk2 hk3 hk4
        rw [if_neg (by decide),if_neg (by decide),if_pos (by decide)] at hW
        refine Hk _ _ _ _ _ _ _ ?_
        refine CallZ.of (tauF []) (n:=2) (l0:=[(0,.ro calcAVs),(1,.cells [.val (.string s),.val (.int .i64 (Int.ofNat a1)),.bool true] 0)]) call80 (ttext hs (by omega) true B) hpl rfl rfl rfl (gsT rfl rfl) rfl rfl ?_ (fun _ _ _ h=>h.elim)
        rintro B v hp' n' ⟨rfl,rfl,u,a2,ok2,rfl,hus,ha2,haa2,rfl,hor⟩ _
        refine⟨_,rfl,rfl,?_⟩
        intro hpX hX
        simp only [layR] at hX
        subst hX
        have hus2:u.size≤1048576:=by omega
        cbv
        (with_reducible refine hQ _ _ _ rfl rfl ?_);refine⟨_,rfl,?_⟩
        refine ExitR.sub hF (τ:=tauF []) (n2:=2) (hl:=[(0,.ro calcAVs),(1,.cells [.val (.string s),.val (.int .i64 (Int.ofNat a2)),.bool ok2] 0)]) (v2:=.agg ([.int .i64 (Int.ofNat 4),.int .i64 0,.string u,.slice none 0 0].map AV.val)) (hsub_mk (τ:=tauF []) hpl rfl) (fun i hi=>tauF_lt rfl hi) (Nat.le_of_ble_eq_true rfl) (gsLt rfl) rfl (.agg (by repeat'(first|exact .nil|refine .cons ?_ ?_|exact .refl _|exact .val _ rfl rfl))) (.done ?_)
        refine⟨rfl,a2,ok2,_,_,_,_,_,_,rfl,rfl,fun _ _ q=>q,ha2,by omega,?_⟩
        rcases hor with⟨hw,rfl⟩|⟨hw,rfl⟩
        ·rw [hw] at hW
         simp only at hW
         rw [str_eq] at hW
         exact .inl ⟨rfl,by omega,[],hW,TmAt.mk' ⟨rfl,by decide,.inl rfl⟩ hus2⟩
        ·rw [hw] at hW
         exact .inr ⟨rfl,hW⟩
      ·have hb4:b=3:=by simp [cmp0] at hk3;omega
       subst hb4
       clear hk1 hk2 hk3
       rw [if_neg (by decide),if_neg (by decide),if_pos (by decide)] at hW
       refine Hk _ _ _ _ _ _ _ ?_
       refine CallZ.of (tauF []) (n:=2) (l0:=[(0,.ro calcAVs),(1,.cells [.val (.string s),.val (.int .i64 (Int.ofNat a1)),.bool true] 0)]) call80 (ttext hs (by omega) true B) hpl rfl rfl rfl (gsT rfl rfl) rfl rfl ?_ (fun _ _ _ h=>h.elim)
       rintro B v hp' n' ⟨rfl,rfl,u,a2,ok2,rfl,hus,ha2,haa2,rfl,hor⟩ _
       refine⟨_,rfl,rfl,?_⟩
       intro hpX hX
       simp only [layR] at hX
       subst hX
       have hus2:u.size≤1048576:=by omega
       cbv
       (with_reducible refine hQ _ _ _ rfl rfl ?_);refine⟨_,rfl,?_⟩
       refine ExitR.sub hF (τ:=tauF []) (n2:=2) (hl:=[(0,.ro calcAVs),(1,.cells [.val (.string s),.val (.int .i64 (Int.ofNat a2)),.bool ok2] 0)]) (v2:=.agg ([.int .i64 (Int.ofNat 3),.int .i64 0,.string u,.slice none 0 0].map AV.val)) (hsub_mk (τ:=tauF []) hpl rfl) (fun i hi=>tauF_lt rfl hi) (Nat.le_of_ble_eq_true rfl) (gsLt rfl) rfl (.agg (by repeat'(first|exact .nil|refine .cons ?_ ?_|exact .refl _|exact .val _ rfl rfl))) (.done ?_)
       refine⟨rfl,a2,ok2,_,_,_,_,_,_,rfl,rfl,fun _ _ q=>q,ha2,by omega,?_⟩
       rcases hor with⟨hw,rfl⟩|⟨hw,rfl⟩
       ·rw [hw] at hW
        simp only at hW
        rw [str_eq] at hW
        exact .inl ⟨rfl,by omega,[],hW,TmAt.mk' ⟨rfl,by decide,.inl rfl⟩ hus2⟩
       ·rw [hw] at hW
        exact .inr ⟨rfl,hW⟩
     ·have hb4:b=2:=by simp [cmp0] at hk2;omega
      subst hb4
      clear hk1 hk2
      rw [if_neg (by decide),if_pos rfl] at hW
      refine Hk _ _ _ _ _ _ _ ?_
      refine CallZ.of (tauF []) (n:=2) (l0:=[(0,.ro calcAVs),(1,.cells [.val (.string s),.val (.int .i64 (Int.ofNat a1)),.bool true] 0)]) call40 (tnum hs (by omega) true B) hpl rfl rfl rfl (gsT rfl rfl) rfl rfl ?_ (fun _ _ _ h=>h.elim)
      rintro B v hp' n' ⟨rfl,rfl,n,a2,ok2,rfl,hnb,ha2,haa2,rfl,hor⟩ _
      refine⟨_,rfl,rfl,?_⟩
      intro hpX hX
      simp only [layR] at hX
      subst hX
      cbv
      refine Hz _ _ _ _ (op_quo ctxAt rfl rfl rfl (fun _=>rfl) rfl ?_)
      intro q hq
      obtain⟨h,hh⟩:∃ h,h=n / 2:=⟨_,rfl⟩
      have hhb:h<34359738368:=by omega
      obtain rfl:q=Int.ofNat h:=by rw [hq,hh];exact wrap_in (by show _≤(Int.ofNat (n / 2));simp;omega) (by show(Int.ofNat (n / 2))<_;simp;omega)
      clear hq
      cbv
      refine Hz _ _ _ _ (op_rem ctxAt rfl rfl rfl (fun _=>rfl) rfl ?_)
      intro q hq2
      obtain⟨p,hpp⟩:∃ p,p=n%2:=⟨_,rfl⟩
      obtain rfl:q=Int.ofNat p:=by rw [hq2,hpp];rfl
      clear hq2
      cbv
      refine Hc _ _ _ _ ?_
      rintro(_|_) hc<;>cbv
      ·have hodd:¬ n%2=1:=by simp [cmp0] at hc;omega
       (with_reducible refine hQ _ _ _ rfl rfl ?_);refine⟨_,rfl,?_⟩
       refine ExitR.sub hF (τ:=tauF []) (n2:=2) (hl:=[(0,.ro calcAVs),(1,.cells [.val (.string s),.val (.int .i64 (Int.ofNat a2)),.bool ok2] 0)]) (v2:=.agg ([.int .i64 (Int.ofNat 2),.int .i64 (Int.ofNat h),.string (strB []),.slice none 0 0].map AV.val)) (hsub_mk (τ:=tauF []) hpl rfl) (fun i hi=>tauF_lt rfl hi) (Nat.le_of_ble_eq_true rfl) (gsLt rfl) rfl (.agg (by repeat'(first|exact .nil|refine .cons ?_ ?_|exact .refl _|exact .val _ rfl rfl))) (.done ?_)
       refine⟨rfl,a2,ok2,_,_,_,_,_,_,rfl,rfl,fun _ _ q=>q,ha2,by omega,?_⟩
       rcases hor with⟨hw,rfl⟩|⟨hw,rfl,rfl⟩
       ·rw [hw] at hW
        simp only at hW
        rw [if_neg hodd,← hh] at hW
        exact .inl ⟨rfl,by omega,[],hW,TmAt.mk' ⟨rfl,by decide,.inl rfl⟩ (by decide)⟩
       ·rw [hw] at hW
        exact .inr ⟨rfl,hW⟩
      ·have hodd:n%2=1:=by simp [cmp0] at hc;omega
       refine Ha _ _ _ _ _ ?_
       intro q hq
       obtain⟨n1,hn1⟩:∃ n1,n1=n+1:=⟨_,rfl⟩
       obtain rfl:q=Int.ofNat n1:=by rw [hq,hn1,ar0_add (by simp<;>omega) (by simp<;>omega)];simp
       clear hq
       cbv
       refine Hz _ _ _ _ (op_neg ctxAt rfl rfl ?_)
       intro qa hq
       have hqa:qa=-(n1:Int):=by rw [hq,wrap_in (by simp<;>omega) (by simp<;>omega)];simp
       clear hq
       cbv
       refine Hz _ _ _ _ (op_quo ctxAt rfl rfl rfl (fun _=>rfl) rfl ?_)
       intro qb hq
       have hz1 : -9223372036854775808≤-(h:Int) - 1:=by omega
       have hz2 : -(h:Int) - 1<9223372036854775808:=by omega
       have hqb:qb=-(h:Int) - 1:=by
        have:qa.tdiv 2=-(h:Int) - 1:=by
         rw [hqa,Int.neg_tdiv]
         have:(n1:Int).tdiv 2=((n1 / 2:Nat):Int):=rfl
         rw [this];omega
        rw [hq,this,wrap_in hz1 hz2]
       clear hq
       cbv
       (with_reducible refine hQ _ _ _ rfl rfl ?_);refine⟨_,rfl,?_⟩
       refine ExitR.sub hF (τ:=tauF []) (n2:=2) (hl:=[(0,.ro calcAVs),(1,.cells [.val (.string s),.val (.int .i64 (Int.ofNat a2)),.bool ok2] 0)]) (v2:=.agg ([.int .i64 (Int.ofNat 2),.int .i64 qb,.string (strB []),.slice none 0 0].map AV.val)) (hsub_mk (τ:=tauF []) hpl rfl) (fun i hi=>tauF_lt rfl hi) (Nat.le_of_ble_eq_true rfl) (gsLt rfl) rfl (.agg (by repeat'(first|exact .nil|refine .cons ?_ ?_|exact .refl _|exact .val _ rfl rfl))) (.done ?_)
       refine⟨rfl,a2,ok2,_,_,_,_,_,_,rfl,rfl,fun _ _ q=>q,ha2,by omega,?_⟩
       rcases hor with⟨hw,rfl⟩|⟨hw,rfl,rfl⟩
       ·rw [hw] at hW
        simp only at hW
        rw [if_pos hodd,← hh,← hqb] at hW
        exact .inl ⟨rfl,by omega,[],hW,TmAt.mk' ⟨rfl,by decide,.inl rfl⟩ (by decide)⟩
       ·rw [hw] at hW
        exact .inr ⟨rfl,hW⟩
    ·have hb4:b=1:=by simp [cmp0] at hk1;omega
     subst hb4
     clear hk1
     rw [if_pos rfl] at hW
     refine Hk _ _ _ _ _ _ _ ?_
     refine CallZ.of (tauF []) (n:=2) (l0:=[(0,.ro calcAVs),(1,.cells [.val (.string s),.val (.int .i64 (Int.ofNat a1)),.bool true] 0)]) call40 (tnum hs (by omega) true B) hpl rfl rfl rfl (gsT rfl rfl) rfl rfl ?_ (fun _ _ _ h=>h.elim)
     rintro B v hp' n' ⟨rfl,rfl,n,a2,ok2,rfl,hnb,ha2,haa2,rfl,hor⟩ _
     refine⟨_,rfl,rfl,?_⟩
     intro hpX hX
     simp only [layR] at hX
     subst hX
     cbv
     (with_reducible refine hQ _ _ _ rfl rfl ?_);refine⟨_,rfl,?_⟩
     refine ExitR.sub hF (τ:=tauF []) (n2:=2) (hl:=[(0,.ro calcAVs),(1,.cells [.val (.string s),.val (.int .i64 (Int.ofNat a2)),.bool ok2] 0)]) (v2:=.agg ([.int .i64 (Int.ofNat 1),.int .i64 (Int.ofNat n),.string (strB []),.slice none 0 0].map AV.val)) (hsub_mk (τ:=tauF []) hpl rfl) (fun i hi=>tauF_lt rfl hi) (Nat.le_of_ble_eq_true rfl) (gsLt rfl) rfl (.agg (by repeat'(first|exact .nil|refine .cons ?_ ?_|exact .refl _|exact .val _ rfl rfl))) (.done ?_)
     refine⟨rfl,a2,ok2,_,_,_,_,_,_,rfl,rfl,fun _ _ q=>q,ha2,by omega,?_⟩
     rcases hor with⟨hw,rfl⟩|⟨hw,rfl,rfl⟩
     ·rw [hw] at hW
      exact .inl ⟨rfl,by omega,[],hW,TmAt.mk' ⟨rfl,by decide,.inl rfl⟩ (by decide)⟩
     ·rw [hw] at hW
      exact .inr ⟨rfl,hW⟩
   ·simp [cmp0] at h2;omega
  ·have hge:s.size≤a:=by simp [cmp0] at h1;omega
   rw [List.drop_of_length_le (by omega)] at hW
   (with_reducible refine hQ _ _ _ rfl rfl ?_);refine⟨_,rfl,?_⟩
   refine ExitR.sub hF (τ:=tauF []) (n2:=2) (hl:=[(0,.ro calcAVs),(1,.cells [.val (.string s),.val (.int .i64 (Int.ofNat a)),.bool false] 0)]) (v2:=.agg ([.int .i64 0,.int .i64 0,.string (strB []),.slice none 0 0].map AV.val)) (hsub_mk (τ:=tauF []) hpl rfl) (fun i hi=>tauF_lt rfl hi) (Nat.le_of_ble_eq_true rfl) (gsLt rfl) rfl (.agg (by repeat'(first|exact .nil|refine .cons ?_ ?_|exact .refl _|exact .val _ rfl rfl))) (.done ?_)
   exact⟨rfl,a,false,_,_,_,_,_,_,rfl,rfl,fun _ _ q=>q,ha,Nat.le_refl _,.inr ⟨rfl,by rw [hW];rfl⟩⟩
end Go.Proofs.YtaacpiniakmpbaaGreatDoor
