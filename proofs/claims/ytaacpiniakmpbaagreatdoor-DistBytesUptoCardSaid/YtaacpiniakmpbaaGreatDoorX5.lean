/- Which messages are valid. -/
import Derived.Test.YtaacpiniakmpbaaGreatDoorW2
import Derived.Test.YtaacpiniakmpbaaGreatDoorW3
import Derived.Test.YtaacpiniakmpbaaGreatDoorX3
import Derived.Test.YtaacpiniakmpbaaGreatDoorX2
import Derived.Test.YtaacpiniakmpbaaGreatDoorX4
import Derived.Test.YtaacpiniakmpbaaGreatDoorU4
import Derived.Test.YtaacpiniakmpbaaGreatDoorN
set_option linter.unusedVariables false
set_option linter.unusedSimpArgs false

namespace Go.Proofs.YtaacpiniakmpbaaGreatDoor
open Go Ev Tryz
set_option linter.unusedSimpArgs false
set_option linter.unusedVariables false
set_option maxHeartbeats 4000000
set_option maxRecDepth 10000
def EnvB (B:Base):Prop:=∃ e,B 1=some (.cells calcVals e)
theorem EnvB.ext {B:Base} {w:World} (h:EnvB B) (hx:Ext (ctxZ.at B) w):Env w:=let ⟨e,h⟩:=h;⟨e,hx 1 _ h⟩
theorem EnvB.mono {B B':Base} (h:EnvB B) (hm:∀ k o,B k=some o→B' k=some o):EnvB B':=let ⟨e,h⟩:=h;⟨e,hm _ _ h⟩
theorem _root_.Ev.CallZ.vw {P:Program} {C:Ctx} {B:Base} {f:FuncId} {args args2:List AV} {hp:T Ev.Obj} {nx:Nat} {K:Base→AV→T Ev.Obj→Nat→Prop} {N:AV→T Ev.Obj→Nat→Prop} (h:VWs args args2) (k:CallZ P C B f args2 hp nx K N):CallZ P C B f args hp nx K N:=⟨k.1,fun φ w args' hr hg ha=>k.2 φ w args' hr hg (h.rel ha)⟩
theorem ext_at {B:Base} {w:World} (hx:Ext (ctxZ.at B) w):∀ k o,B k=some o→hb w k=some o:=hx
theorem valid_nums {K o f p:Int} {t:Tm} (h:validS (.mk K o f p t)=true):1≤K∧K≤4∧0≤o∧o≤2147483647∧-1≤f∧f≤2147483647∧0≤p∧p≤15∧(K≠3→isS t=true)∧(K=3→t=zeroT):=by
 rw [validS] at h
 simp only [Bool.and_eq_true,decide_eq_true_eq] at h
 obtain⟨⟨⟨⟨⟨h1,h2⟩,h3⟩,h4⟩,h5⟩,h6⟩:=h
 have h7 : -1≤f∧f≤2147483647∧0≤p∧p≤15:=by
  split at h6
  ·simp only [Bool.and_eq_true,decide_eq_true_eq] at h6;omega
  ·simp only [Bool.and_eq_true,decide_eq_true_eq] at h6;omega
 exact⟨h1,h2,h3,h4,h7.1,h7.2.1,h7.2.2.1,h7.2.2.2,fun h=>by rwa [if_neg h] at h5,fun h=>by rw [if_pos h] at h5;exact same_zero h5⟩
theorem isS_out {t:Tm} (h:isS t=true):tsz t≤4000∧tdep t≤600∧nodesS t=true:=by
 rw [isS] at h
 simp only [Bool.and_eq_true,decide_eq_true_eq] at h
 exact⟨h.1.1,h.1.2,h.2⟩
theorem isS_len {t:Tm} (h:isS t=true):(encT t).length≤1032000:=by
 have h1:=isS_out h
 have:=(encT_fits t h1.2.2).2
 omega
def Packed (M:Ml) (B B':Base) (v:AV) (hp:T Ev.Obj) (n:Nat):Prop :=
 B'=B∧n=1∧hp=mkT [(0,.ro calcAVs)]∧((validS M=true∧∃ u,bytesOf u=encM M∧v=.tup [.val (.string u),.int .i64 0])∨(validS M=false∧v=.tup [.str [],.int .i64 1]))
theorem pack_g (K o f p:Int) {k n:Int} {s:ByteArray} {l:List Tm} {a:Option Addr} {m c:Nat} {B:Base} (hB:EnvB B) (ht:TmAt B (.mk k n s l) [.int .i64 k,.int .i64 n,.string s,.slice a m c]) :
  CallG Tryz.prog ctxZ B 6 [.agg [.val (.int .i64 K),.val (.int .i64 o),.val (.int .i64 f),.val (.int .i64 p),.val (.int .i64 k),.val (.int .i64 n),.val (.string s),.val (.slice a m c)]] (mkT [(0,.ro calcAVs)]).get 1
   (fun B' v H n'=>∃ hp,H=T.get hp∧Packed (.mk K o f p (.mk k n s l)) B B' v hp n') (fun v H n'=>∃ hp,H=T.get hp∧Never v hp n'):=by
 obtain⟨M,hM⟩:∃ M,M=Ml.mk K o f p (.mk k n s l):=⟨_,rfl⟩
 rw [← hM]
 refine CallG.body prog_okZ func6 rfl ?_
 rintro⟨φ0,H0,_,w0,B⟩ hF rfl rfl rfl Q N hQ hN
 refine CodeF.sy prog_okZ ?_
 intro _ _ _ _ _ _ _ _ _ _ _ _ _ Hc Hs Ha Hw Hd Ho Hl Hn Hi Hv Hz Hk He
 cbv
 refine Hk _ _ _ _ _ _ _ ?_
 refine CallZ.ret (validS M) AV.bool call31 rfl (fun _=>rfl) (fun w hx=>by rw [hM];exact valid_ret (hB.ext hx) K o f p (ht.mono (ext_at hx))) ?_
 rintro(_|_) hv<;>cbv
 ·(with_reducible refine hQ _ _ _ rfl rfl ?_);refine⟨_,rfl,?_⟩;refine ExitR.sub hF (τ:=tauF []) (n2:=1) (hl:=[(0,.ro calcAVs)]) (v2:=.tup [.str [],.int .i64 1]) (hsub_mk hpl rfl) (fun i hi=>tauF_lt rfl hi) (Nat.le_of_ble_eq_true rfl) (gsLt rfl) rfl (.refl _) (.done ?_)
  exact⟨rfl,rfl,rfl,.inr ⟨hv.symm,rfl⟩⟩
 ·obtain⟨h1,h2,h3,h4,h5,h6,h7,h8,h9,h10⟩:=valid_nums (hM▸hv.symm)
  obtain⟨K0,rfl⟩:∃ K0:Nat,K=Int.ofNat K0:=⟨K.toNat,by simp;omega⟩
  obtain⟨o0,rfl⟩:∃ o0:Nat,o=Int.ofNat o0:=⟨o.toNat,by simp;omega⟩
  obtain⟨p0,rfl⟩:∃ p0:Nat,p=Int.ofNat p0:=⟨p.toNat,by simp;omega⟩
  have hK4:K0≤4:=Int.ofNat_le.1 h2
  have ho4:o0≤2147483647:=Int.ofNat_le.1 h4
  have hp4:p0≤15:=Int.ofNat_le.1 h8
  obtain⟨f0,hf0⟩:∃ f0:Nat,f0=(f+1).toNat:=⟨_,rfl⟩
  have hen:=encM_fits hv.symm
  have hel:encM M=encN K0++(encN o0++(encN f0++(encN p0++(if Int.ofNat K0=3 then [] else encT (.mk k n s l))))):=by rw [hM,encM,hf0];simp
  have hel1:=encN_len 5 K0 (by omega) (by decide)
  have hel2:=encN_len 5 o0 (by omega) (by decide)
  have hel3:=encN_len 5 f0 (by omega) (by decide)
  have hel4:=encN_len 5 p0 (by omega) (by decide)
  refine Hk _ _ _ _ _ _ _ ?_
  refine CallZ.of (tauF [(1,2)]) (n:=2) (l0:=[(0,.ro calcAVs),(1,.cells [.nsl] 0)]) call32 (wnum0 (by omega) B) hpl rfl rfl rfl (gsT rfl rfl) rfl rfl ?_ (fun _ _ _ h=>h.elim)
  rintro B v hp' n' ⟨rfl,rfl,rfl,c1,m1,hc1,hm1,rfl⟩ _
  refine⟨_,rfl,rfl,?_⟩
  intro hpX hX
  simp only [layR,Ev.Obj.ren,hc1.rens] at hX
  subst hX
  have hlm1:=hm1
  cbv
  refine Hk _ _ _ _ _ _ _ ?_
  refine CallZ.of (tauF [(1,2),(2,3)]) (n:=3) (l0:=[(0,.ro calcAVs),(1,.cells [.sl 2 0 m1 m1 false 1] 0),(2,.cells c1 0)]) call32 (wnum (by omega) hc1 hm1 (by omega) B) hpl rfl rfl rfl (gsT rfl rfl) rfl rfl ?_ (fun _ _ _ h=>h.elim)
  rintro B v hp' n' ⟨rfl,rfl,rfl,c2,m2,hc2,hm2,rfl⟩ _
  refine⟨_,rfl,rfl,?_⟩
  intro hpX hX
  simp only [layR,Ev.Obj.ren,hc2.rens] at hX
  subst hX
  have hlm2:=hm2
  rw [List.length_append] at hlm2
  cbv
  refine Ha _ _ _ _ _ ?_
  intro q hq
  obtain rfl:q=Int.ofNat f0:=by rw [hq,hf0,ar0_add (by omega) (by omega)];simp;omega
  clear hq
  cbv
  refine Hk _ _ _ _ _ _ _ ?_
  refine CallZ.of (tauF [(1,2),(2,4)]) (n:=3) (l0:=[(0,.ro calcAVs),(1,.cells [.sl 2 0 m2 m2 false 1] 0),(2,.cells c2 0)]) call32 (wnum (by omega) hc2 hm2 (by omega) B) hpl rfl rfl rfl (gsT rfl rfl) rfl rfl ?_ (fun _ _ _ h=>h.elim)
  rintro B v hp' n' ⟨rfl,rfl,rfl,c3,m3,hc3,hm3,rfl⟩ _
  refine⟨_,rfl,rfl,?_⟩
  intro hpX hX
  simp only [layR,Ev.Obj.ren,hc3.rens] at hX
  subst hX
  have hlm3:=hm3
  rw [List.length_append] at hlm3
  cbv
  refine Hk _ _ _ _ _ _ _ ?_
  refine CallZ.of (tauF [(1,2),(2,5)]) (n:=3) (l0:=[(0,.ro calcAVs),(1,.cells [.sl 2 0 m3 m3 false 1] 0),(2,.cells c3 0)]) call32 (wnum (by omega) hc3 hm3 (by omega) B) hpl rfl rfl rfl (gsT rfl rfl) rfl rfl ?_ (fun _ _ _ h=>h.elim)
  rintro B v hp' n' ⟨rfl,rfl,rfl,c4,m4,hc4,hm4,rfl⟩ _
  refine⟨_,rfl,rfl,?_⟩
  intro hpX hX
  simp only [layR,Ev.Obj.ren,hc4.rens] at hX
  subst hX
  have hlm4:=hm4
  rw [List.length_append] at hlm4
  cbv
  refine Hk _ _ _ _ _ _ _ ?_
  refine CallZ.ret (bodyS (Int.ofNat K0)) AV.bool call33 rfl (fun _=>rfl) (fun w hx=>body_ret (hB.ext hx) _) ?_
  rintro(_|_) hb<;>cbv
  ·have hk3:Int.ofNat K0=3:=by
    have h1':1≤K0:=Int.ofNat_le.1 h1
    rcases(by omega:K0=1∨K0=2∨K0=3∨K0=4) with q|q|q|q<;>subst q<;>first|rfl|exact absurd hb (by decide)
   rw [if_pos hk3,List.append_nil] at hel
   have hel':encN K0++encN o0++encN f0++encN p0=encM M:=by rw [hel];simp only [List.append_assoc]
   rw [hel'] at hc4 hm4
   refine Ho _ _ _ _ ?_
   refine conv_own ctxAt rfl rfl rfl rfl rfl rfl rfl rfl rfl hc4 hen.1.all hm4 ?_
   intro u hu
   cbv
   (with_reducible refine hQ _ _ _ rfl rfl ?_);refine⟨_,rfl,?_⟩;refine ExitR.sub hF (τ:=tauF []) (n2:=1) (hl:=[(0,.ro calcAVs)]) (v2:=.tup [.val (.string u),.int .i64 0]) (hsub_mk hpl rfl) (fun i hi=>tauF_lt rfl hi) (Nat.le_of_ble_eq_true rfl) (gsLt rfl) rfl (.refl _) (.done ?_)
   exact⟨rfl,rfl,rfl,.inl ⟨hv.symm,u,hu,rfl⟩⟩
  ·have hk3:¬ Int.ofNat K0=3:=by intro q;rw [q] at hb;exact absurd hb (by decide)
   rw [if_neg hk3] at hel
   have his:=h9 hk3
   have hel':encN K0++encN o0++encN f0++encN p0++encT (.mk k n s l)=encM M:=by rw [hel];simp only [List.append_assoc]
   have hle:=isS_len his
   refine Hk _ _ _ _ _ _ _ ?_
   refine CallZ.of (tauF [(1,2),(2,6)]) (n:=3) (l0:=[(0,.ro calcAVs),(1,.cells [.sl 2 0 m4 m4 false 1] 0),(2,.cells c4 0)]) call34 (wterm _ _ (Nat.lt_succ_self _) (isS_out his).2.2 ht hc4 hm4 (by omega)) hpl rfl rfl rfl (gsT rfl rfl) rfl rfl ?_ (fun _ _ _ h=>h.elim)
   rintro B v hp' n' ⟨rfl,rfl,rfl,c5,m5,hc5,hm5,rfl⟩ _
   refine⟨_,rfl,rfl,?_⟩
   intro hpX hX
   simp only [layR,Ev.Obj.ren,hc5.rens] at hX
   subst hX
   rw [hel'] at hc5 hm5
   cbv
   refine Ho _ _ _ _ ?_
   refine conv_own ctxAt rfl rfl rfl rfl rfl rfl rfl rfl rfl hc5 hen.1.all hm5 ?_
   intro u hu
   cbv
   (with_reducible refine hQ _ _ _ rfl rfl ?_);refine⟨_,rfl,?_⟩;refine ExitR.sub hF (τ:=tauF []) (n2:=1) (hl:=[(0,.ro calcAVs)]) (v2:=.tup [.val (.string u),.int .i64 0]) (hsub_mk hpl rfl) (fun i hi=>tauF_lt rfl hi) (Nat.le_of_ble_eq_true rfl) (gsLt rfl) rfl (.refl _) (.done ?_)
   exact⟨rfl,rfl,rfl,.inl ⟨hv.symm,u,hu,rfl⟩⟩
def Bytes (M:Ml) (B B':Base) (v:AV) (hp:T Ev.Obj) (n:Nat):Prop:=B'=B∧n=1∧hp=mkT [(0,.ro calcAVs)]∧∃ u,bytesOf u=encM M∧v=.val (.string u)
theorem bytes_g (K o f p:Int) {k n:Int} {s:ByteArray} {l:List Tm} {a:Option Addr} {m c:Nat} {B:Base} (hv:validS (.mk K o f p (.mk k n s l))=true) (ht:TmAt B (.mk k n s l) [.int .i64 k,.int .i64 n,.string s,.slice a m c]) :
  CallG Tryz.prog ctxZ B 36 [.agg [.val (.int .i64 K),.val (.int .i64 o),.val (.int .i64 f),.val (.int .i64 p),.val (.int .i64 k),.val (.int .i64 n),.val (.string s),.val (.slice a m c)]] (mkT [(0,.ro calcAVs)]).get 1
   (fun B' v H n'=>∃ hp,H=T.get hp∧Bytes (.mk K o f p (.mk k n s l)) B B' v hp n') (fun v H n'=>∃ hp,H=T.get hp∧Never v hp n'):=by
 obtain⟨M,hM⟩:∃ M,M=Ml.mk K o f p (.mk k n s l):=⟨_,rfl⟩
 obtain⟨h1,h2,h3,h4,h5,h6,h7,h8,h9,h10⟩:=valid_nums hv
 rw [← hM] at hv ⊢
 refine CallG.body prog_okZ func36 rfl ?_
 rintro⟨φ0,H0,_,w0,B⟩ hF rfl rfl rfl Q N hQ hN
 obtain⟨K0,rfl⟩:∃ K0:Nat,K=Int.ofNat K0:=⟨K.toNat,by simp;omega⟩
 obtain⟨o0,rfl⟩:∃ o0:Nat,o=Int.ofNat o0:=⟨o.toNat,by simp;omega⟩
 obtain⟨p0,rfl⟩:∃ p0:Nat,p=Int.ofNat p0:=⟨p.toNat,by simp;omega⟩
 have hK4:K0≤4:=Int.ofNat_le.1 h2
 have ho4:o0≤2147483647:=Int.ofNat_le.1 h4
 have hp4:p0≤15:=Int.ofNat_le.1 h8
 obtain⟨f0,hf0⟩:∃ f0:Nat,f0=(f+1).toNat:=⟨_,rfl⟩
 have hen:=encM_fits hv
 have hel:encM M=encN K0++(encN o0++(encN f0++(encN p0++(if Int.ofNat K0=3 then [] else encT (.mk k n s l))))):=by rw [hM,encM,hf0];simp
 have hel1:=encN_len 5 K0 (by omega) (by decide)
 have hel2:=encN_len 5 o0 (by omega) (by decide)
 have hel3:=encN_len 5 f0 (by omega) (by decide)
 have hel4:=encN_len 5 p0 (by omega) (by decide)
 refine CodeF.sy prog_okZ ?_
 intro _ _ _ _ _ _ _ _ _ _ _ _ _ Hc Hs Ha Hw Hd Ho Hl Hn Hi Hv Hz Hk He
 cbv
 refine Hk _ _ _ _ _ _ _ ?_
 refine CallZ.of (tauF []) (n:=1) (l0:=[(0,.ro calcAVs)]) call76 (rnum (by omega) B) hpl rfl rfl rfl (gsT rfl rfl) rfl rfl ?_ (fun _ _ _ h=>h.elim)
 rintro B v hp' n' ⟨rfl,rfl,c1,m1,hc1,hm1,rfl,rfl⟩ _
 refine⟨_,rfl,rfl,?_⟩
 intro hpX hX
 simp only [layR,Ev.Obj.ren,hc1.rens] at hX
 subst hX
 cbv
 refine Hk _ _ _ _ _ _ _ ?_
 refine CallZ.of (tauF []) (n:=1) (l0:=[(0,.ro calcAVs)]) call76 (rnum (by omega) B) hpl rfl rfl rfl (gsT rfl rfl) rfl rfl ?_ (fun _ _ _ h=>h.elim)
 rintro B v hp' n' ⟨rfl,rfl,c2,m2,hc2,hm2,rfl,rfl⟩ _
 refine⟨_,rfl,rfl,?_⟩
 intro hpX hX
 simp only [layR,Ev.Obj.ren,hc2.rens] at hX
 subst hX
 cbv
 refine Ho _ _ _ _ ?_
 refine append_own rfl rfl rfl rfl rfl rfl rfl rfl rfl rfl ⟨_,rfl⟩ rfl rfl rfl hc1 hm1 rfl hc2 hm2 (by rw [hm2];first|exact encN_pos _|exact encT_pos _) (by unfold big;omega) ?_
 intro d2 k2 hd2 hk2
 have hlk2:=hk2
 simp only [List.length_append] at hlk2
 cbv
 refine Ha _ _ _ _ _ ?_
 intro q hq
 obtain rfl:q=Int.ofNat f0:=by rw [hq,hf0,ar0_add (by omega) (by omega)];simp;omega
 clear hq
 cbv
 refine Hk _ _ _ _ _ _ _ ?_
 refine CallZ.of (tauF []) (n:=1) (l0:=[(0,.ro calcAVs)]) call76 (rnum (by omega) B) hpl rfl rfl rfl (gsT rfl rfl) rfl rfl ?_ (fun _ _ _ h=>h.elim)
 rintro B v hp' n' ⟨rfl,rfl,c3,m3,hc3,hm3,rfl,rfl⟩ _
 refine⟨_,rfl,rfl,?_⟩
 intro hpX hX
 simp only [layR,Ev.Obj.ren,hc3.rens] at hX
 subst hX
 cbv
 refine Ho _ _ _ _ ?_
 refine append_own rfl rfl rfl rfl rfl rfl rfl rfl rfl rfl ⟨_,rfl⟩ rfl rfl rfl hd2 hk2 rfl hc3 hm3 (by rw [hm3];first|exact encN_pos _|exact encT_pos _) (by unfold big;omega) ?_
 intro d3 k3 hd3 hk3
 have hlk3:=hk3
 simp only [List.length_append] at hlk3
 cbv
 refine Hk _ _ _ _ _ _ _ ?_
 refine CallZ.of (tauF []) (n:=1) (l0:=[(0,.ro calcAVs)]) call76 (rnum (by omega) B) hpl rfl rfl rfl (gsT rfl rfl) rfl rfl ?_ (fun _ _ _ h=>h.elim)
 rintro B v hp' n' ⟨rfl,rfl,c4,m4,hc4,hm4,rfl,rfl⟩ _
 refine⟨_,rfl,rfl,?_⟩
 intro hpX hX
 simp only [layR,Ev.Obj.ren,hc4.rens] at hX
 subst hX
 cbv
 refine Ho _ _ _ _ ?_
 refine append_own rfl rfl rfl rfl rfl rfl rfl rfl rfl rfl ⟨_,rfl⟩ rfl rfl rfl hd3 hk3 rfl hc4 hm4 (by rw [hm4];first|exact encN_pos _|exact encT_pos _) (by unfold big;omega) ?_
 intro d4 k4 hd4 hk4
 have hlk4:=hk4
 simp only [List.length_append] at hlk4
 cbv
 refine Hc _ _ _ _ ?_
 rintro(_|_) hk<;>cbv
 ·have hk3:Int.ofNat K0=3:=by simp [cmp0] at hk;simp;omega
  rw [if_pos hk3,List.append_nil] at hel
  have hel':encN K0++encN o0++encN f0++encN p0=encM M:=by rw [hel];simp only [List.append_assoc]
  rw [hel'] at hd4 hk4
  refine Ho _ _ _ _ ?_
  refine conv_own ctxAt rfl rfl rfl rfl rfl rfl rfl rfl rfl hd4 hen.1.all hk4 ?_
  intro u hu
  cbv
  (with_reducible refine hQ _ _ _ rfl rfl ?_);refine⟨_,rfl,?_⟩;refine ExitR.sub hF (τ:=tauF []) (n2:=1) (hl:=[(0,.ro calcAVs)]) (v2:=.val (.string u)) (hsub_mk hpl rfl) (fun i hi=>tauF_lt rfl hi) (Nat.le_of_ble_eq_true rfl) (gsLt rfl) rfl (.refl _) (.done ?_)
  exact⟨rfl,rfl,rfl,u,hu,rfl⟩
 ·have hk3:¬ Int.ofNat K0=3:=by simp [cmp0] at hk;simp;omega
  rw [if_neg hk3] at hel
  have his:=h9 hk3
  have hel':encN K0++encN o0++encN f0++encN p0++encT (.mk k n s l)=encM M:=by rw [hel];simp only [List.append_assoc]
  have hle:=isS_len his
  refine Hk _ _ _ _ _ _ _ ?_
  refine CallZ.of (tauF []) (n:=1) (l0:=[(0,.ro calcAVs)]) call77 (rterm _ _ (Nat.lt_succ_self _) (isS_out his).2.2 ht (by omega)) hpl rfl rfl rfl (gsT rfl rfl) rfl rfl ?_ (fun _ _ _ h=>h.elim)
  rintro B v hp' n' ⟨rfl,rfl,c5,m5,hc5,hm5,rfl,rfl⟩ _
  refine⟨_,rfl,rfl,?_⟩
  intro hpX hX
  simp only [layR,Ev.Obj.ren,hc5.rens] at hX
  subst hX
  cbv
  refine Ho _ _ _ _ ?_
  refine append_own rfl rfl rfl rfl rfl rfl rfl rfl rfl rfl ⟨_,rfl⟩ rfl rfl rfl hd4 hk4 rfl hc5 hm5 (by rw [hm5];first|exact encN_pos _|exact encT_pos _) (by unfold big;omega) ?_
  intro d5 k5 hd5 hk5
  have hlk5:=hk5
  simp only [List.length_append] at hlk5
  cbv
  rw [hel'] at hd5 hk5
  refine Ho _ _ _ _ ?_
  refine conv_own ctxAt rfl rfl rfl rfl rfl rfl rfl rfl rfl hd5 hen.1.all hk5 ?_
  intro u hu
  cbv
  (with_reducible refine hQ _ _ _ rfl rfl ?_);refine⟨_,rfl,?_⟩;refine ExitR.sub hF (τ:=tauF []) (n2:=1) (hl:=[(0,.ro calcAVs)]) (v2:=.val (.string u)) (hsub_mk hpl rfl) (fun i hi=>tauF_lt rfl hi) (Nat.le_of_ble_eq_true rfl) (gsLt rfl) rfl (.refl _) (.done ?_)
  exact⟨rfl,rfl,rfl,u,hu,rfl⟩
theorem refPack_g (K o f p:Int) {k n:Int} {s:ByteArray} {l:List Tm} {a:Option Addr} {m c:Nat} (hz:tsz (.mk k n s l)≤1048576) {B:Base} (hB:EnvB B) (ht:TmAt B (.mk k n s l) [.int .i64 k,.int .i64 n,.string s,.slice a m c]) :
  CallG Tryz.prog ctxZ B 7 [.agg [.val (.int .i64 K),.val (.int .i64 o),.val (.int .i64 f),.val (.int .i64 p),.val (.int .i64 k),.val (.int .i64 n),.val (.string s),.val (.slice a m c)]] (mkT [(0,.ro calcAVs)]).get 1
   (fun B' v H n'=>∃ hp,H=T.get hp∧Packed (.mk K o f p (.mk k n s l)) B B' v hp n') (fun v H n'=>∃ hp,H=T.get hp∧Never v hp n'):=by
 obtain⟨M,hM⟩:∃ M,M=Ml.mk K o f p (.mk k n s l):=⟨_,rfl⟩
 rw [← hM]
 refine CallG.body prog_okZ func7 rfl ?_
 rintro⟨φ0,H0,_,w0,B⟩ hF rfl rfl rfl Q N hQ hN
 refine CodeF.sy prog_okZ ?_
 intro _ _ _ _ _ _ _ _ _ _ _ _ _ Hc Hs Ha Hw Hd Ho Hl Hn Hi Hv Hz Hk He
 cbv
 refine Hk _ _ _ _ _ _ _ ?_
 refine CallZ.ret (validS M) AV.bool call35 rfl (fun _=>rfl) (fun w hx=>by rw [hM];exact refValid_ret (hB.ext hx) K o f p hz (ht.mono (ext_at hx))) ?_
 rintro(_|_) hv<;>cbv
 ·(with_reducible refine hQ _ _ _ rfl rfl ?_);refine⟨_,rfl,?_⟩;refine ExitR.sub hF (τ:=tauF []) (n2:=1) (hl:=[(0,.ro calcAVs)]) (v2:=.tup [.str [],.int .i64 1]) (hsub_mk hpl rfl) (fun i hi=>tauF_lt rfl hi) (Nat.le_of_ble_eq_true rfl) (gsLt rfl) rfl (.refl _) (.done ?_)
  exact⟨rfl,rfl,rfl,.inr ⟨hv.symm,rfl⟩⟩
 ·refine Hk _ _ _ _ _ _ _ ?_
  refine CallZ.of (tauF []) (n:=1) (l0:=[(0,.ro calcAVs)]) call36 (bytes_g K o f p (hM▸hv.symm) ht) hpl rfl rfl rfl (gsT rfl rfl) rfl rfl ?_ (fun _ _ _ h=>h.elim)
  rintro B v hp' n' ⟨rfl,rfl,rfl,u,hu,rfl⟩ _
  refine⟨_,rfl,rfl,?_⟩
  intro hpX hX
  simp only [layR] at hX
  subst hX
  cbv
  (with_reducible refine hQ _ _ _ rfl rfl ?_);refine⟨_,rfl,?_⟩;refine ExitR.sub hF (τ:=tauF []) (n2:=1) (hl:=[(0,.ro calcAVs)]) (v2:=.tup [.val (.string u),.int .i64 0]) (hsub_mk hpl rfl) (fun i hi=>tauF_lt rfl hi) (Nat.le_of_ble_eq_true rfl) (gsLt rfl) rfl (.refl _) (.done ?_)
  exact⟨rfl,rfl,rfl,.inl ⟨hv.symm,u,by rw [hu,hM],rfl⟩⟩
end Go.Proofs.YtaacpiniakmpbaaGreatDoor
namespace Go.Proofs.YtaacpiniakmpbaaGreatDoor
open Go Ev Tryz
set_option linter.unusedSimpArgs false
set_option linter.unusedVariables false
set_option maxHeartbeats 8000000
set_option maxRecDepth 20000
def resM:Option Ml→Ml×Int
 | some m=>(m,0)
 | none=>(.mk 0 0 0 0 zeroT,200)
def Unpacked (B:Base) (W:Option Ml) (B':Base) (v:AV) (hp:T Ev.Obj) (n':Nat):Prop :=
 n'=1∧hp=mkT [(0,.ro calcAVs)]∧(∀ k o,B k=some o→B' k=some o)∧∃ K o f p k n s l a m c e,v=.tup [.agg [.val (.int .i64 K),.val (.int .i64 o),.val (.int .i64 f),.val (.int .i64 p),.val (.int .i64 k),.val (.int .i64 n),.val (.string s),.val (.slice a m c)],.val (.int .i64 e)]∧TmAt B' (.mk k n s l) [.int .i64 k,.int .i64 n,.string s,.slice a m c]∧resM W=(.mk K o f p (.mk k n s l),e)
theorem unpack_g {s:ByteArray} (hs:s.size≤1048576) {B:Base} (hB:EnvB B):CallG Tryz.prog ctxZ B 8 [.val (.string s)] (mkT [(0,.ro calcAVs)]).get 1
   (fun B' v H n'=>∃ hp,H=T.get hp∧Unpacked B (strictM (bytesOf s)) B' v hp n') (fun v H n'=>∃ hp,H=T.get hp∧False):=by
 obtain⟨W,hW⟩:∃ W,W=strictM (bytesOf s):=⟨_,rfl⟩
 rw [← hW]
 rw [strictM] at hW
 refine CallG.bodyD prog_okZ func8 rfl ?_
 rintro⟨φ0,H0,_,w0,B⟩ hF rfl rfl rfl Q N hQ hN
 refine CodeF.sy prog_okZ ?_
 intro _ _ _ _ _ _ _ _ _ _ _ _ _ Hc Hs Ha Hw Hd Ho Hl Hn Hi Hv Hz Hk He
 cbv
 refine Hk _ _ _ _ _ _ _ ?_
 refine CallZ.of (tauF [(1,3)]) (n:=2) (l0:=[(0,.ro calcAVs),(1,.cells [.val (.string s),.val (.int .i64 (Int.ofNat 4000))] 0)]) call38 (rnumber s (Int.ofNat 4000) B) hpl rfl rfl rfl (gsT rfl rfl) rfl rfl ?_ ?_
 rotate_left
 ·rintro v hp' n' ⟨hbr,rfl,rfl,rfl⟩ _
  refine⟨_,rfl,rfl,?_⟩
  intro hpX hX
  simp only [layR] at hX
  subst hX
  rw [hbr] at hW
  simp only at hW
  cbv
  refine hN _ _ ⟨37,[],[.ptr 1 0,.ptr 2 0],rfl,call37,?_⟩
  refine RCallOK.body func37 rfl rfl rfl rfl (dstB_ok rfl) rfl rfl (dstB_ok rfl) rfl (At.ok prog_okZ _).ctx ?_
  intro Q3 hQ3
  refine .sy (prog_okB _) ?_
  intro _ _ _ _ _ _ _ _ _ _ _ _ _ _ Hc3 Hs3 Ha3 Hw3 Hd3 Ho3 Hl3 Hn3 Hi3 Hk3 Hv3 Hz3 Hr3 Hx3
  cbv
  refine Hz3 _ _ _ (neq_nif (At.ok prog_okZ _).ctx rfl rfl rfl rfl rfl ?_)
  cbv
  refine hQ3 _ _ ?_ ?_ ?_ ?_
  ·rfl
  ·rfl
  ·exact⟨_,rfl⟩
  refine⟨_,rfl,?_⟩
  refine ExitR.sub hF (τ:=tauF []) (n2:=1) (hl:=[(0,.ro calcAVs)]) (v2:=.tup [.agg [.val (.int .i64 0),.val (.int .i64 0),.val (.int .i64 0),.val (.int .i64 0),.val (.int .i64 0),.val (.int .i64 0),.val (.string (strB [])),.val (.slice none 0 0)],.val (.int .i64 200)]) (hsub_mk (τ:=tauF []) hpl rfl) (fun i hi=>tauF_lt rfl hi) (Nat.le_of_ble_eq_true rfl) (gsLt rfl) rfl (.tup (by repeat'(first|exact .nil|refine .cons ?_ ?_|exact .refl _|exact .val _ rfl rfl|exact .agg (by repeat'(first|exact .nil|refine .cons ?_ ?_|exact .refl _|exact .val _ rfl rfl))))) (.done ?_)
  exact⟨rfl,rfl,(fun _ _ q=>q),0,0,0,0,0,0,strB [],[],none,0,0,200,rfl,zero_at _,by rw [hW];rfl⟩
 rintro B v hp' n' ⟨n1,rn1,hpn1,rfl,rfl,rfl,sn1,hsn1,rfl⟩ _
 refine⟨_,rfl,rfl,?_⟩
 intro hpX hX
 simp only [layR] at hX
 subst hX
 rw [hpn1] at hW
 simp only at hW
 rw [← hsn1] at hW
 cbv
 refine Hk _ _ _ _ _ _ _ ?_
 refine CallZ.of (tauF [(1,3)]) (n:=2) (l0:=[(0,.ro calcAVs),(1,.cells [.val (.string sn1),.val (.int .i64 (Int.ofNat 4000))] 0)]) call38 (rnumber sn1 (Int.ofNat 4000) B) hpl rfl rfl rfl (gsT rfl rfl) rfl rfl ?_ ?_
 rotate_left
 ·rintro v hp' n' ⟨hbr,rfl,rfl,rfl⟩ _
  refine⟨_,rfl,rfl,?_⟩
  intro hpX hX
  simp only [layR] at hX
  subst hX
  rw [hbr] at hW
  simp only at hW
  cbv
  refine hN _ _ ⟨37,[],[.ptr 1 0,.ptr 2 0],rfl,call37,?_⟩
  refine RCallOK.body func37 rfl rfl rfl rfl (dstB_ok rfl) rfl rfl (dstB_ok rfl) rfl (At.ok prog_okZ _).ctx ?_
  intro Q3 hQ3
  refine .sy (prog_okB _) ?_
  intro _ _ _ _ _ _ _ _ _ _ _ _ _ _ Hc3 Hs3 Ha3 Hw3 Hd3 Ho3 Hl3 Hn3 Hi3 Hk3 Hv3 Hz3 Hr3 Hx3
  cbv
  refine Hz3 _ _ _ (neq_nif (At.ok prog_okZ _).ctx rfl rfl rfl rfl rfl ?_)
  cbv
  refine hQ3 _ _ ?_ ?_ ?_ ?_
  ·rfl
  ·rfl
  ·exact⟨_,rfl⟩
  refine⟨_,rfl,?_⟩
  refine ExitR.sub hF (τ:=tauF []) (n2:=1) (hl:=[(0,.ro calcAVs)]) (v2:=.tup [.agg [.val (.int .i64 0),.val (.int .i64 0),.val (.int .i64 0),.val (.int .i64 0),.val (.int .i64 0),.val (.int .i64 0),.val (.string (strB [])),.val (.slice none 0 0)],.val (.int .i64 200)]) (hsub_mk (τ:=tauF []) hpl rfl) (fun i hi=>tauF_lt rfl hi) (Nat.le_of_ble_eq_true rfl) (gsLt rfl) rfl (.tup (by repeat'(first|exact .nil|refine .cons ?_ ?_|exact .refl _|exact .val _ rfl rfl|exact .agg (by repeat'(first|exact .nil|refine .cons ?_ ?_|exact .refl _|exact .val _ rfl rfl))))) (.done ?_)
  exact⟨rfl,rfl,(fun _ _ q=>q),0,0,0,0,0,0,strB [],[],none,0,0,200,rfl,zero_at _,by rw [hW];rfl⟩
 rintro B v hp' n' ⟨n2,rn2,hpn2,rfl,rfl,rfl,sn2,hsn2,rfl⟩ _
 refine⟨_,rfl,rfl,?_⟩
 intro hpX hX
 simp only [layR] at hX
 subst hX
 rw [hpn2] at hW
 simp only at hW
 rw [← hsn2] at hW
 cbv
 refine Hk _ _ _ _ _ _ _ ?_
 refine CallZ.of (tauF [(1,3)]) (n:=2) (l0:=[(0,.ro calcAVs),(1,.cells [.val (.string sn2),.val (.int .i64 (Int.ofNat 4000))] 0)]) call38 (rnumber sn2 (Int.ofNat 4000) B) hpl rfl rfl rfl (gsT rfl rfl) rfl rfl ?_ ?_
 rotate_left
 ·rintro v hp' n' ⟨hbr,rfl,rfl,rfl⟩ _
  refine⟨_,rfl,rfl,?_⟩
  intro hpX hX
  simp only [layR] at hX
  subst hX
  rw [hbr] at hW
  simp only at hW
  cbv
  refine hN _ _ ⟨37,[],[.ptr 1 0,.ptr 2 0],rfl,call37,?_⟩
  refine RCallOK.body func37 rfl rfl rfl rfl (dstB_ok rfl) rfl rfl (dstB_ok rfl) rfl (At.ok prog_okZ _).ctx ?_
  intro Q3 hQ3
  refine .sy (prog_okB _) ?_
  intro _ _ _ _ _ _ _ _ _ _ _ _ _ _ Hc3 Hs3 Ha3 Hw3 Hd3 Ho3 Hl3 Hn3 Hi3 Hk3 Hv3 Hz3 Hr3 Hx3
  cbv
  refine Hz3 _ _ _ (neq_nif (At.ok prog_okZ _).ctx rfl rfl rfl rfl rfl ?_)
  cbv
  refine hQ3 _ _ ?_ ?_ ?_ ?_
  ·rfl
  ·rfl
  ·exact⟨_,rfl⟩
  refine⟨_,rfl,?_⟩
  refine ExitR.sub hF (τ:=tauF []) (n2:=1) (hl:=[(0,.ro calcAVs)]) (v2:=.tup [.agg [.val (.int .i64 0),.val (.int .i64 0),.val (.int .i64 0),.val (.int .i64 0),.val (.int .i64 0),.val (.int .i64 0),.val (.string (strB [])),.val (.slice none 0 0)],.val (.int .i64 200)]) (hsub_mk (τ:=tauF []) hpl rfl) (fun i hi=>tauF_lt rfl hi) (Nat.le_of_ble_eq_true rfl) (gsLt rfl) rfl (.tup (by repeat'(first|exact .nil|refine .cons ?_ ?_|exact .refl _|exact .val _ rfl rfl|exact .agg (by repeat'(first|exact .nil|refine .cons ?_ ?_|exact .refl _|exact .val _ rfl rfl))))) (.done ?_)
  exact⟨rfl,rfl,(fun _ _ q=>q),0,0,0,0,0,0,strB [],[],none,0,0,200,rfl,zero_at _,by rw [hW];rfl⟩
 rintro B v hp' n' ⟨n3,rn3,hpn3,rfl,rfl,rfl,sn3,hsn3,rfl⟩ _
 refine⟨_,rfl,rfl,?_⟩
 intro hpX hX
 simp only [layR] at hX
 subst hX
 rw [hpn3] at hW
 simp only at hW
 rw [← hsn3] at hW
 cbv
 refine Ha _ _ _ _ _ ?_
 intro f hf
 have hn3:=pNum_lt _ _ _ _ hpn3
 obtain rfl:f=(n3:Int) - 1:=by rw [hf,ar0_sub (by simp<;>omega) (by simp<;>omega)];rfl
 obtain⟨f,hf0⟩:∃ f,f=(n3:Int) - 1:=⟨_,rfl⟩
 rw [← hf0] at hW ⊢
 clear hf
 cbv
 refine Hk _ _ _ _ _ _ _ ?_
 refine CallZ.of (tauF [(1,3)]) (n:=2) (l0:=[(0,.ro calcAVs),(1,.cells [.val (.string sn3),.val (.int .i64 (Int.ofNat 4000))] 0)]) call38 (rnumber sn3 (Int.ofNat 4000) B) hpl rfl rfl rfl (gsT rfl rfl) rfl rfl ?_ ?_
 rotate_left
 ·rintro v hp' n' ⟨hbr,rfl,rfl,rfl⟩ _
  refine⟨_,rfl,rfl,?_⟩
  intro hpX hX
  simp only [layR] at hX
  subst hX
  rw [hbr] at hW
  simp only at hW
  cbv
  refine hN _ _ ⟨37,[],[.ptr 1 0,.ptr 2 0],rfl,call37,?_⟩
  refine RCallOK.body func37 rfl rfl rfl rfl (dstB_ok rfl) rfl rfl (dstB_ok rfl) rfl (At.ok prog_okZ _).ctx ?_
  intro Q3 hQ3
  refine .sy (prog_okB _) ?_
  intro _ _ _ _ _ _ _ _ _ _ _ _ _ _ Hc3 Hs3 Ha3 Hw3 Hd3 Ho3 Hl3 Hn3 Hi3 Hk3 Hv3 Hz3 Hr3 Hx3
  cbv
  refine Hz3 _ _ _ (neq_nif (At.ok prog_okZ _).ctx rfl rfl rfl rfl rfl ?_)
  cbv
  refine hQ3 _ _ ?_ ?_ ?_ ?_
  ·rfl
  ·rfl
  ·exact⟨_,rfl⟩
  refine⟨_,rfl,?_⟩
  refine ExitR.sub hF (τ:=tauF []) (n2:=1) (hl:=[(0,.ro calcAVs)]) (v2:=.tup [.agg [.val (.int .i64 0),.val (.int .i64 0),.val (.int .i64 0),.val (.int .i64 0),.val (.int .i64 0),.val (.int .i64 0),.val (.string (strB [])),.val (.slice none 0 0)],.val (.int .i64 200)]) (hsub_mk (τ:=tauF []) hpl rfl) (fun i hi=>tauF_lt rfl hi) (Nat.le_of_ble_eq_true rfl) (gsLt rfl) rfl (.tup (by repeat'(first|exact .nil|refine .cons ?_ ?_|exact .refl _|exact .val _ rfl rfl|exact .agg (by repeat'(first|exact .nil|refine .cons ?_ ?_|exact .refl _|exact .val _ rfl rfl))))) (.done ?_)
  exact⟨rfl,rfl,(fun _ _ q=>q),0,0,0,0,0,0,strB [],[],none,0,0,200,rfl,zero_at _,by rw [hW];rfl⟩
 rintro B v hp' n' ⟨n4,rn4,hpn4,rfl,rfl,rfl,sn4,hsn4,rfl⟩ _
 refine⟨_,rfl,rfl,?_⟩
 intro hpX hX
 simp only [layR] at hX
 subst hX
 rw [hpn4] at hW
 simp only at hW
 rw [← hsn4] at hW
 cbv
 have hl1:=pNum_len _ _ _ _ hpn1
 have hl2:=pNum_len _ _ _ _ hpn2
 have hl3:=pNum_len _ _ _ _ hpn3
 have hl4:=pNum_len _ _ _ _ hpn4
 have hsz4:sn4.size≤1048576:=by
  rw [← hsn1] at hl1
  rw [← hsn2] at hl2
  rw [← hsn3] at hl3
  rw [← hsn4] at hl4
  simp only [bytesOf_len] at hl1 hl2 hl3 hl4
  omega
 refine Hk _ _ _ _ _ _ _ ?_
 refine CallZ.ret (bodyS (Int.ofNat n1)) AV.bool call33 rfl (fun _=>rfl) (fun w hx=>body_ret (hB.ext hx) _) ?_
 rintro(_|_) hb<;>cbv
 ·have hk:¬ (n1=1∨n1=2∨n1=4):=by simp [bodyS] at hb;omega
  rw [if_neg hk] at hW
  refine Hs _ _ _ _ ?_
  rintro(_|_) hr<;>cbv
  ·have hr0:bytesOf sn4=[]:=by
    have:bytesEq (bytesOf sn4) []=true:=by simpa [scmp0,SB.bytes] using hr
    rwa [bytesEq_iff] at this
   refine Hk _ _ _ _ _ _ _ ?_
   refine CallZ.ret (validS (.mk (Int.ofNat n1) (Int.ofNat n2) f (Int.ofNat n4) zeroT)) AV.bool call31 rfl (fun _=>rfl) (fun w hx=>valid_ret (hB.ext hx) _ _ _ _ (zero_at _)) ?_
   rintro(_|_) hv<;>cbv
   ·refine hQ _ _ _ rfl ⟨37,[],[.ptr 1 0,.ptr 2 0],rfl,call37,?_⟩
    refine DCallOK.body2 func37 rfl rfl rfl rfl (dstB_ok rfl) rfl rfl (dstB_ok rfl) rfl (At.ok prog_okZ _).ctx ?_
    intro Q3 hQ3
    refine .sy (prog_okB _) ?_
    intro _ _ _ _ _ _ _ _ _ _ _ _ _ _ Hc3 Hs3 Ha3 Hw3 Hd3 Ho3 Hl3 Hn3 Hi3 Hk3 Hv3 Hz3 Hr3 Hx3
    cbv
    refine hQ3 _ _ ?_ ?_ ?_ ?_
    ·rfl
    ·rfl
    ·exact⟨_,rfl⟩
    refine⟨_,rfl,?_⟩
    refine ExitR.sub hF (τ:=tauF []) (n2:=1) (hl:=[(0,.ro calcAVs)]) (v2:=.tup [.agg [.val (.int .i64 0),.val (.int .i64 0),.val (.int .i64 0),.val (.int .i64 0),.val (.int .i64 0),.val (.int .i64 0),.val (.string (strB [])),.val (.slice none 0 0)],.val (.int .i64 200)]) (hsub_mk (τ:=tauF []) hpl rfl) (fun i hi=>tauF_lt rfl hi) (Nat.le_of_ble_eq_true rfl) (gsLt rfl) rfl (.tup (by repeat'(first|exact .nil|refine .cons ?_ ?_|exact .refl _|exact .val _ rfl rfl|exact .agg (by repeat'(first|exact .nil|refine .cons ?_ ?_|exact .refl _|exact .val _ rfl rfl))))) (.done ?_)
    exact⟨rfl,rfl,(fun _ _ q=>q),0,0,0,0,0,0,strB [],[],none,0,0,200,rfl,zero_at _,by rw [hW,finM,if_neg (fun q=>Bool.noConfusion (hv.trans q.2))];rfl⟩
   ·refine hQ _ _ _ rfl ⟨37,[],[.ptr 1 0,.ptr 2 0],rfl,call37,?_⟩
    refine DCallOK.body2 func37 rfl rfl rfl rfl (dstB_ok rfl) rfl rfl (dstB_ok rfl) rfl (At.ok prog_okZ _).ctx ?_
    intro Q3 hQ3
    refine .sy (prog_okB _) ?_
    intro _ _ _ _ _ _ _ _ _ _ _ _ _ _ Hc3 Hs3 Ha3 Hw3 Hd3 Ho3 Hl3 Hn3 Hi3 Hk3 Hv3 Hz3 Hr3 Hx3
    cbv
    refine hQ3 _ _ ?_ ?_ ?_ ?_
    ·rfl
    ·rfl
    ·exact⟨_,rfl⟩
    refine⟨_,rfl,?_⟩
    refine ExitR.sub hF (τ:=tauF []) (n2:=1) (hl:=[(0,.ro calcAVs)]) (v2:=.tup [.agg [.val (.int .i64 (Int.ofNat n1)),.val (.int .i64 (Int.ofNat n2)),.val (.int .i64 f),.val (.int .i64 (Int.ofNat n4)),.val (.int .i64 0),.val (.int .i64 0),.val (.string (strB [])),.val (.slice none 0 0)],.val (.int .i64 0)]) (hsub_mk (τ:=tauF []) hpl rfl) (fun i hi=>tauF_lt rfl hi) (Nat.le_of_ble_eq_true rfl) (gsLt rfl) rfl (.tup (by repeat'(first|exact .nil|refine .cons ?_ ?_|exact .refl _|exact .val _ rfl rfl|exact .agg (by repeat'(first|exact .nil|refine .cons ?_ ?_|exact .refl _|exact .val _ rfl rfl))))) (.done ?_)
    exact⟨rfl,rfl,(fun _ _ q=>q),_,_,_,_,0,0,strB [],[],none,0,0,0,rfl,zero_at _,by rw [hW,finM,if_pos ⟨hr0,hv.symm⟩];rfl⟩
  ·have hr0:¬ bytesOf sn4=[]:=by intro q;simp [scmp0,SB.bytes,q,bytesEq] at hr
   refine hQ _ _ _ rfl ⟨37,[],[.ptr 1 0,.ptr 2 0],rfl,call37,?_⟩
   refine DCallOK.body2 func37 rfl rfl rfl rfl (dstB_ok rfl) rfl rfl (dstB_ok rfl) rfl (At.ok prog_okZ _).ctx ?_
   intro Q3 hQ3
   refine .sy (prog_okB _) ?_
   intro _ _ _ _ _ _ _ _ _ _ _ _ _ _ Hc3 Hs3 Ha3 Hw3 Hd3 Ho3 Hl3 Hn3 Hi3 Hk3 Hv3 Hz3 Hr3 Hx3
   cbv
   refine hQ3 _ _ ?_ ?_ ?_ ?_
   ·rfl
   ·rfl
   ·exact⟨_,rfl⟩
   refine⟨_,rfl,?_⟩
   refine ExitR.sub hF (τ:=tauF []) (n2:=1) (hl:=[(0,.ro calcAVs)]) (v2:=.tup [.agg [.val (.int .i64 0),.val (.int .i64 0),.val (.int .i64 0),.val (.int .i64 0),.val (.int .i64 0),.val (.int .i64 0),.val (.string (strB [])),.val (.slice none 0 0)],.val (.int .i64 200)]) (hsub_mk (τ:=tauF []) hpl rfl) (fun i hi=>tauF_lt rfl hi) (Nat.le_of_ble_eq_true rfl) (gsLt rfl) rfl (.tup (by repeat'(first|exact .nil|refine .cons ?_ ?_|exact .refl _|exact .val _ rfl rfl|exact .agg (by repeat'(first|exact .nil|refine .cons ?_ ?_|exact .refl _|exact .val _ rfl rfl))))) (.done ?_)
   exact⟨rfl,rfl,(fun _ _ q=>q),0,0,0,0,0,0,strB [],[],none,0,0,200,rfl,zero_at _,by rw [hW,finM,if_neg (fun q=>hr0 q.1)];rfl⟩
 ·have hk:n1=1∨n1=2∨n1=4:=by simp [bodyS] at hb;omega
  rw [if_pos hk] at hW
  refine Hk _ _ _ _ _ _ _ ?_
  refine CallZ.vw (args2:=[.ptr 3 0,.val (.int .i64 (Int.ofNat 600))]) (by repeat'(first|exact .nil|refine .cons ?_ ?_|exact .refl _|exact .val _ rfl rfl)) ?_
  refine CallZ.of (tauF [(1,3)]) (n:=2) (l0:=[(0,.ro calcAVs),(1,.cells [.val (.string sn4),.val (.int .i64 (Int.ofNat 4000))] 0)]) call39 (gterm 600 (by decide) sn4 4000 hsz4 (by decide) B) hpl rfl rfl rfl (gsT rfl rfl) rfl rfl ?_ ?_
  rotate_left
  ·rintro v hp' n' ⟨hbr,rfl,rfl,rfl⟩ _
   refine⟨_,rfl,rfl,?_⟩
   intro hpX hX
   simp only [layR] at hX
   subst hX
   rw [hbr] at hW
   simp only at hW
   cbv
   refine hN _ _ ⟨37,[],[.ptr 1 0,.ptr 2 0],rfl,call37,?_⟩
   refine RCallOK.body func37 rfl rfl rfl rfl (dstB_ok rfl) rfl rfl (dstB_ok rfl) rfl (At.ok prog_okZ _).ctx ?_
   intro Q3 hQ3
   refine .sy (prog_okB _) ?_
   intro _ _ _ _ _ _ _ _ _ _ _ _ _ _ Hc3 Hs3 Ha3 Hw3 Hd3 Ho3 Hl3 Hn3 Hi3 Hk3 Hv3 Hz3 Hr3 Hx3
   cbv
   refine Hz3 _ _ _ (neq_nif (At.ok prog_okZ _).ctx rfl rfl rfl rfl rfl ?_)
   cbv
   refine hQ3 _ _ ?_ ?_ ?_ ?_
   ·rfl
   ·rfl
   ·exact⟨_,rfl⟩
   refine⟨_,rfl,?_⟩
   refine ExitR.sub hF (τ:=tauF []) (n2:=1) (hl:=[(0,.ro calcAVs)]) (v2:=.tup [.agg [.val (.int .i64 0),.val (.int .i64 0),.val (.int .i64 0),.val (.int .i64 0),.val (.int .i64 0),.val (.int .i64 0),.val (.string (strB [])),.val (.slice none 0 0)],.val (.int .i64 200)]) (hsub_mk (τ:=tauF []) hpl rfl) (fun i hi=>tauF_lt rfl hi) (Nat.le_of_ble_eq_true rfl) (gsLt rfl) rfl (.tup (by repeat'(first|exact .nil|refine .cons ?_ ?_|exact .refl _|exact .val _ rfl rfl|exact .agg (by repeat'(first|exact .nil|refine .cons ?_ ?_|exact .refl _|exact .val _ rfl rfl))))) (.done ?_)
   exact⟨rfl,rfl,(fun _ _ q=>q),0,0,0,0,0,0,strB [],[],none,0,0,200,rfl,zero_at _,by rw [hW];rfl⟩
  rintro B2 v hp' n' ⟨⟨k,n,u,l⟩,nd,cs,s5,h5,hm5,ht5,rfl,rfl,rfl⟩ _
  obtain⟨a,m,c,rfl,hl⟩:=ht5.out
  have hB2:=hB.mono hm5
  refine⟨_,rfl,rfl,?_⟩
  intro hpX hX
  simp only [layR] at hX
  subst hX
  rw [h5] at hW
  simp only at hW
  cbv
  have ht5:TmAt B2 (.mk k n u l) [.int .i64 k,.int .i64 n,.string u,.slice a m c]:=ht5
  refine Hs _ _ _ _ ?_
  rintro(_|_) hr<;>cbv
  ·have hr0:bytesOf s5=[]:=by
    have:bytesEq (bytesOf s5) []=true:=by simpa [scmp0,SB.bytes] using hr
    rwa [bytesEq_iff] at this
   refine Hk _ _ _ _ _ _ _ ?_
   refine CallZ.ret (validS (.mk (Int.ofNat n1) (Int.ofNat n2) f (Int.ofNat n4) (.mk k n u l))) AV.bool call31 rfl (fun _=>rfl) (fun w hx=>valid_ret (hB2.ext hx) _ _ _ _ (ht5.mono (ext_at hx))) ?_
   rintro(_|_) hv<;>cbv
   ·refine hQ _ _ _ rfl ⟨37,[],[.ptr 1 0,.ptr 2 0],rfl,call37,?_⟩
    refine DCallOK.body2 func37 rfl rfl rfl rfl (dstB_ok rfl) rfl rfl (dstB_ok rfl) rfl (At.ok prog_okZ _).ctx ?_
    intro Q3 hQ3
    refine .sy (prog_okB _) ?_
    intro _ _ _ _ _ _ _ _ _ _ _ _ _ _ Hc3 Hs3 Ha3 Hw3 Hd3 Ho3 Hl3 Hn3 Hi3 Hk3 Hv3 Hz3 Hr3 Hx3
    cbv
    refine hQ3 _ _ ?_ ?_ ?_ ?_
    ·rfl
    ·rfl
    ·exact⟨_,rfl⟩
    refine⟨_,rfl,?_⟩
    refine ExitR.sub hF (τ:=tauF []) (n2:=1) (hl:=[(0,.ro calcAVs)]) (v2:=.tup [.agg [.val (.int .i64 0),.val (.int .i64 0),.val (.int .i64 0),.val (.int .i64 0),.val (.int .i64 0),.val (.int .i64 0),.val (.string (strB [])),.val (.slice none 0 0)],.val (.int .i64 200)]) (hsub_mk (τ:=tauF []) hpl rfl) (fun i hi=>tauF_lt rfl hi) (Nat.le_of_ble_eq_true rfl) (gsLt rfl) rfl (.tup (by repeat'(first|exact .nil|refine .cons ?_ ?_|exact .refl _|exact .val _ rfl rfl|exact .agg (by repeat'(first|exact .nil|refine .cons ?_ ?_|exact .refl _|exact .val _ rfl rfl))))) (.done ?_)
    exact⟨rfl,rfl,hm5,0,0,0,0,0,0,strB [],[],none,0,0,200,rfl,zero_at _,by rw [hW,finM,if_neg (fun q=>Bool.noConfusion (hv.trans q.2))];rfl⟩
   ·refine hQ _ _ _ rfl ⟨37,[],[.ptr 1 0,.ptr 2 0],rfl,call37,?_⟩
    refine DCallOK.body2 func37 rfl rfl rfl rfl (dstB_ok rfl) rfl rfl (dstB_ok rfl) rfl (At.ok prog_okZ _).ctx ?_
    intro Q3 hQ3
    refine .sy (prog_okB _) ?_
    intro _ _ _ _ _ _ _ _ _ _ _ _ _ _ Hc3 Hs3 Ha3 Hw3 Hd3 Ho3 Hl3 Hn3 Hi3 Hk3 Hv3 Hz3 Hr3 Hx3
    cbv
    refine hQ3 _ _ ?_ ?_ ?_ ?_
    ·rfl
    ·rfl
    ·exact⟨_,rfl⟩
    refine⟨_,rfl,?_⟩
    refine ExitR.sub hF (τ:=tauF []) (n2:=1) (hl:=[(0,.ro calcAVs)]) (v2:=.tup [.agg [.val (.int .i64 (Int.ofNat n1)),.val (.int .i64 (Int.ofNat n2)),.val (.int .i64 f),.val (.int .i64 (Int.ofNat n4)),.val (.int .i64 k),.val (.int .i64 n),.val (.string u),.val (.slice a m c)],.val (.int .i64 0)]) (hsub_mk (τ:=tauF []) hpl rfl) (fun i hi=>tauF_lt rfl hi) (Nat.le_of_ble_eq_true rfl) (gsLt rfl) rfl (.tup (by repeat'(first|exact .nil|refine .cons ?_ ?_|exact .refl _|exact .val _ rfl rfl|exact .agg (by repeat'(first|exact .nil|refine .cons ?_ ?_|exact .refl _|exact .val _ rfl rfl))))) (.done ?_)
    exact⟨rfl,rfl,hm5,_,_,_,_,k,n,u,l,a,m,c,0,rfl,ht5,by rw [hW,finM,if_pos ⟨hr0,hv.symm⟩];rfl⟩
  ·have hr0:¬ bytesOf s5=[]:=by intro q;simp [scmp0,SB.bytes,q,bytesEq] at hr
   refine hQ _ _ _ rfl ⟨37,[],[.ptr 1 0,.ptr 2 0],rfl,call37,?_⟩
   refine DCallOK.body2 func37 rfl rfl rfl rfl (dstB_ok rfl) rfl rfl (dstB_ok rfl) rfl (At.ok prog_okZ _).ctx ?_
   intro Q3 hQ3
   refine .sy (prog_okB _) ?_
   intro _ _ _ _ _ _ _ _ _ _ _ _ _ _ Hc3 Hs3 Ha3 Hw3 Hd3 Ho3 Hl3 Hn3 Hi3 Hk3 Hv3 Hz3 Hr3 Hx3
   cbv
   refine hQ3 _ _ ?_ ?_ ?_ ?_
   ·rfl
   ·rfl
   ·exact⟨_,rfl⟩
   refine⟨_,rfl,?_⟩
   refine ExitR.sub hF (τ:=tauF []) (n2:=1) (hl:=[(0,.ro calcAVs)]) (v2:=.tup [.agg [.val (.int .i64 0),.val (.int .i64 0),.val (.int .i64 0),.val (.int .i64 0),.val (.int .i64 0),.val (.int .i64 0),.val (.string (strB [])),.val (.slice none 0 0)],.val (.int .i64 200)]) (hsub_mk (τ:=tauF []) hpl rfl) (fun i hi=>tauF_lt rfl hi) (Nat.le_of_ble_eq_true rfl) (gsLt rfl) rfl (.tup (by repeat'(first|exact .nil|refine .cons ?_ ?_|exact .refl _|exact .val _ rfl rfl|exact .agg (by repeat'(first|exact .nil|refine .cons ?_ ?_|exact .refl _|exact .val _ rfl rfl))))) (.done ?_)
   exact⟨rfl,rfl,hm5,0,0,0,0,0,0,strB [],[],none,0,0,200,rfl,zero_at _,by rw [hW,finM,if_neg (fun q=>hr0 q.1)];rfl⟩
end Go.Proofs.YtaacpiniakmpbaaGreatDoor
