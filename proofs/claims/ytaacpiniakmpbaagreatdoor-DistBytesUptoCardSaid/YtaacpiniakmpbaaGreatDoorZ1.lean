/- The statement's function gives back true. -/
import Derived.Test.YtaacpiniakmpbaaGreatDoorS0
import Derived.Test.YtaacpiniakmpbaaGreatDoorY4
import Derived.Test.YtaacpiniakmpbaaGreatDoorQ6
namespace Go.Proofs.YtaacpiniakmpbaaGreatDoor
open Go Ev Tryz
set_option linter.unusedSimpArgs false
set_option linter.unusedVariables false
set_option maxHeartbeats 8000000
set_option maxRecDepth 20000
theorem _root_.Ev.CallZ.ofR {P:Program} {C:Ctx} {B:Base} {f:FuncId} {args:List AV} {hp:T Ev.Obj} {nx:Nat} {K:Base→AV→T Ev.Obj→Nat→Prop} {N:AV→T Ev.Obj→Nat→Prop} (h:CallR P (C.at B) f args hp nx fun v hp nx=>K B v hp nx):CallZ P C B f args hp nx K N:=by
 obtain⟨v,hp',nx',he,hc,hk⟩:=h
 refine⟨he,fun φ w args' hr hg ha=>(hc φ w args' hr hg ha).mono ?_⟩
 rintro e w' ⟨v',φ',rfl,h1,h2,h3⟩
 exact⟨φ',v,v',hp'.get,nx',h1,h2,h3,.inl ⟨rfl,B,⟨hp',rfl,hk⟩,hg.step h3,.refl _ _⟩⟩
theorem sameMl_refl (M:Ml):sameMl M M=true:=by
 obtain⟨k,o,f,p,t⟩:=M
 rw [sameMl,sameT_refl];simp
def True3 (v:AV) (hp:T Ev.Obj) (n:Nat):Prop:=v=.bool true∧n=1∧hp=mkT [(0,.ro calcAVs)]
theorem law_g (K o f p:Int) {k n:Int} {u:ByteArray} {l:List Tm} {a:Option Addr} {m c:Nat} {s:ByteArray} (hsu:s.size≤1048576) {B:Base} (hB:EnvB B) (ht:TmAt B (.mk k n u l) [.int .i64 k,.int .i64 n,.string u,.slice a m c]) :
  CallG Tryz.prog ctxZ B 3 [.agg [.val (.int .i64 K),.val (.int .i64 o),.val (.int .i64 f),.val (.int .i64 p),.val (.int .i64 k),.val (.int .i64 n),.val (.string u),.val (.slice a m c)],.val (.string s)] (mkT [(0,.ro calcAVs)]).get 1
   (fun B' v H n'=>∃ hp,H=T.get hp∧True3 v hp n') (fun v H n'=>∃ hp,H=T.get hp∧Never v hp n'):=by
 obtain⟨M,hM⟩:∃ M,M=Ml.mk K o f p (.mk k n u l):=⟨_,rfl⟩
 obtain⟨T0,hT0⟩:∃ T0,T0=Tm.mk k n u l:=⟨_,rfl⟩
 refine CallG.body prog_okZ func3 rfl ?_
 rintro⟨φ0,H0,_,w0,B⟩ hF rfl rfl rfl Q N hQ hN
 refine CodeF.sy prog_okZ ?_
 intro _ _ _ _ _ _ _ _ _ _ _ _ _ Hc Hs Ha Hw Hd Ho Hl Hn Hi Hv Hz Hk He
 cbv
 refine Hk _ _ _ _ _ _ _ ?_
 refine CallZ.ret true AV.bool call4 rfl (fun _=>rfl) (fun w hx=>sane_ret (hB.ext hx)) ?_
 intro z hz
 subst hz
 cbv
 refine Hk _ _ _ _ _ _ _ ?_
 refine CallZ.ofR (callR_ownG (Int.ofNat (nodTs [T0] 0 6000)) (fun x=>.val (.int .i64 x)) call5 (fun _=>rfl) (fun φ w args' hr hx hv=>?_) ?_)
 ·obtain⟨v,x,rfl,h1,h2⟩:=vrel2 hv
  cases h2
  obtain⟨a2,cp,rfl,hsl⟩:=own_sl (R:=TmAt (hb w)) (l:=[T0]) (c:=[.val (.int .i64 k),.val (.int .i64 n),.val (.string u),.val (.slice a m c)]) hr rfl h1 rfl (by decide) (by decide) ⟨hT0▸(ht.mono (ext_at hx)),rfl,rfl,trivial⟩
  exact nodes27_ret _ _ (Nat.lt_succ_self _) 6000 (by decide) (hB.ext hx) (tms_of_sl hsl)
 intro z0 hz0
 cbv
 refine Hc _ _ _ _ ?_
 rintro(_|_) hz<;>cbv
 rotate_left
 ·(with_reducible refine hQ _ _ _ rfl rfl ?_);refine⟨_,rfl,?_⟩;refine ExitR.sub hF (τ:=tauF []) (n2:=1) (hl:=[(0,.ro calcAVs)]) (v2:=.bool true) (hsub_mk hpl rfl) (fun i hi=>tauF_lt rfl hi) (Nat.le_of_ble_eq_true rfl) (gsLt rfl) rfl (.refl _) (.done ?_)
  exact⟨rfl,rfl,rfl⟩
 have hz:tsz T0≤6000:=by
  have h1:=nodTs_spec [T0] 0 6000 (Nat.zero_le _)
  simp only [tszs] at h1
  have h2:¬ (6000<z0):=by intro q;simp [cmp0,q] at hz
  rw [hz0] at h2
  simp only [Int.ofNat_eq_natCast] at h2
  omega
 refine Hn _ _ _ _ (len_stZ ?_)
 intro z hzs
 cbv
 refine Hc _ _ _ _ ?_
 rintro(_|_) hs<;>cbv
 rotate_left
 ·(with_reducible refine hQ _ _ _ rfl rfl ?_);refine⟨_,rfl,?_⟩;refine ExitR.sub hF (τ:=tauF []) (n2:=1) (hl:=[(0,.ro calcAVs)]) (v2:=.bool true) (hsub_mk hpl rfl) (fun i hi=>tauF_lt rfl hi) (Nat.le_of_ble_eq_true rfl) (gsLt rfl) rfl (.refl _) (.done ?_)
  exact⟨rfl,rfl,rfl⟩
 have hs:s.size≤1048576:=hsu
 rw [hT0] at hz
 have hzM:tsz (.mk k n u l)≤1048576:=by omega
 refine Hk _ _ _ _ _ _ _ ?_
 refine CallZ.of (tauF []) (n:=1) (l0:=[(0,.ro calcAVs)]) call6 (pack_g K o f p hB ht) hpl rfl rfl rfl (gsT rfl rfl) rfl rfl ?_ (fun _ _ _ h=>h.elim)
 rintro B' v hp' n' ⟨rfl,rfl,rfl,hor⟩ _
 refine⟨_,rfl,rfl,?_⟩
 intro hpX hX
 simp only [layR] at hX
 subst hX
 rw [← hM] at hor
 rcases hor with⟨hv,x,hx,rfl⟩|⟨hv,rfl⟩
 ·cbv
  refine Hk _ _ _ _ _ _ _ ?_
  refine CallZ.of (tauF []) (n:=1) (l0:=[(0,.ro calcAVs)]) call7 (refPack_g K o f p hzM hB ht) hpl rfl rfl rfl (gsT rfl rfl) rfl rfl ?_ (fun _ _ _ h=>h.elim)
  rintro B' v hp' n' ⟨rfl,rfl,rfl,hor⟩ _
  refine⟨_,rfl,rfl,?_⟩
  intro hpX hX
  simp only [layR] at hX
  subst hX
  rw [← hM] at hor
  rcases hor with⟨_,y,hy,rfl⟩|⟨hv2,rfl⟩
  rotate_left
  ·rw [hv] at hv2;cases hv2
  cbv
  refine Hs _ _ _ _ ?_
  rintro(_|_) hc<;>cbv
  rotate_left
  ·exfalso
   have:bytesEq (bytesOf x) (bytesOf y)=true:=by rw [bytesEq_iff,hx,hy]
   simp [scmp0,SB.bytes,this] at hc
  clear hc
  refine Hk _ _ _ _ _ _ _ ?_
  refine CallZ.of (tauF []) (n:=1) (l0:=[(0,.ro calcAVs)]) call8 (unpack_g hs hB) hpl rfl rfl rfl (gsT rfl rfl) rfl rfl ?_ (fun _ _ _ h=>h.elim)
  rintro B1 v hp' n' ⟨rfl,rfl,hmB1,KB1,oB1,fB1,pB1,kB1,nB1,sB1,lB1,aB1,mB1,cB1,eB1,rfl,htB1,hWB1⟩ _
  have hBB1:=hB.mono hmB1
  refine⟨_,rfl,rfl,?_⟩
  intro hpX hX
  simp only [layR] at hX
  subst hX
  cbv
  have htB1:TmAt B1 (.mk kB1 nB1 sB1 lB1) [.int .i64 kB1,.int .i64 nB1,.string sB1,.slice aB1 mB1 cB1]:=htB1
  refine Hk _ _ _ _ _ _ _ ?_
  refine CallZ.of (tauF []) (n:=1) (l0:=[(0,.ro calcAVs)]) call9 (refUnpack_g hs hBB1) hpl rfl rfl rfl (gsT rfl rfl) rfl rfl ?_ (fun _ _ _ h=>h.elim)
  rintro B2 v hp' n' ⟨rfl,rfl,hmB2,KB2,oB2,fB2,pB2,kB2,nB2,sB2,lB2,aB2,mB2,cB2,eB2,rfl,htB2,hWB2⟩ _
  have hBB2:=hBB1.mono hmB2
  refine⟨_,rfl,rfl,?_⟩
  intro hpX hX
  simp only [layR] at hX
  subst hX
  cbv
  have htB2:TmAt B2 (.mk kB2 nB2 sB2 lB2) [.int .i64 kB2,.int .i64 nB2,.string sB2,.slice aB2 mB2 cB2]:=htB2
  have ht1:=ht
  have htM:=(ht.mono hmB1).mono hmB2
  have htB1':=htB1.mono hmB2
  rw [lax_strict (.of s)] at hWB2
  have heq:=hWB1.symm.trans hWB2
  have hML:Ml.mk KB1 oB1 fB1 pB1 (.mk kB1 nB1 sB1 lB1)=Ml.mk KB2 oB2 fB2 pB2 (.mk kB2 nB2 sB2 lB2):=congrArg Prod.fst heq
  have hE:eB1=eB2:=congrArg Prod.snd heq
  refine Hk _ _ _ _ _ _ _ ?_
  refine CallZ.ret true AV.bool call10 rfl (fun _=>rfl) (fun w hx=>?_) ?_
  ·have:=sameMail_ret (hBB2.ext hx) KB1 oB1 fB1 pB1 KB2 oB2 fB2 pB2 (htB1'.mono (ext_at hx)) (htB2.mono (ext_at hx))
   rw [hML,sameMl_refl] at this
   exact this
  intro u hu
  subst hu
  cbv
  refine Hc _ _ _ _ ?_
  rintro(_|_) hc<;>cbv
  rotate_left
  ·exfalso;simp [cmp0,hE] at hc
  clear hc
  refine Hc _ _ _ _ ?_
  rintro(_|_) he<;>cbv
  rotate_left
  ·have he0:eB1=0:=by simpa [cmp0] using he.symm
   have hst:strictM (bytesOf s)=some (Ml.mk KB1 oB1 fB1 pB1 (.mk kB1 nB1 sB1 lB1)):=by
    cases hq:strictM (bytesOf s) with
    | none =>
     rw [hq] at hWB1
     have h200:(200:Int)=eB1:=congrArg Prod.snd hWB1
     omega
    | some m' =>
     rw [hq] at hWB1
     exact congrArg some (congrArg Prod.fst hWB1)
   obtain⟨hv1,hen1,_⟩:=strict_snd hst (.of s)
   refine Hk _ _ _ _ _ _ _ ?_
   refine CallZ.of (tauF []) (n:=1) (l0:=[(0,.ro calcAVs)]) call6 (pack_g KB1 oB1 fB1 pB1 hBB2 htB1') hpl rfl rfl rfl (gsT rfl rfl) rfl rfl ?_ (fun _ _ _ h=>h.elim)
   rintro B' v hp' n' ⟨rfl,rfl,rfl,hor⟩ _
   refine⟨_,rfl,rfl,?_⟩
   intro hpX hX
   simp only [layR] at hX
   subst hX
   rcases hor with⟨_,x3,hx3,rfl⟩|⟨hv3,rfl⟩
   rotate_left
   ·rw [hv1] at hv3;cases hv3
   cbv
   refine Hs _ _ _ _ ?_
   rintro(_|_) hc2<;>cbv
   rotate_left
   ·exfalso
    have:bytesEq (bytesOf x3) (bytesOf s)=true:=by rw [bytesEq_iff,hx3,hen1]
    simp [scmp0,SB.bytes,this] at hc2
   clear hc2
   refine Hs _ _ _ _ ?_
   rintro(_|_) hc3<;>cbv
   rotate_left
   ·(with_reducible refine hQ _ _ _ rfl rfl ?_);refine⟨_,rfl,?_⟩;refine ExitR.sub hF (τ:=tauF []) (n2:=1) (hl:=[(0,.ro calcAVs)]) (v2:=.bool true) (hsub_mk hpl rfl) (fun i hi=>tauF_lt rfl hi) (Nat.le_of_ble_eq_true rfl) (gsLt rfl) rfl (.refl _) (.done ?_)
    exact⟨rfl,rfl,rfl⟩
   have hen:=encM_fits hv
   have hxs:x.size≤1048576:=by rw [← bytesOf_len,hx];exact hen.2
   refine Hk _ _ _ _ _ _ _ ?_
   refine CallZ.of (tauF []) (n:=1) (l0:=[(0,.ro calcAVs)]) call8 (unpack_g hxs hBB2) hpl rfl rfl rfl (gsT rfl rfl) rfl rfl ?_ (fun _ _ _ h=>h.elim)
   rintro B3 v hp' n' ⟨rfl,rfl,hmB3,KB3,oB3,fB3,pB3,kB3,nB3,sB3,lB3,aB3,mB3,cB3,eB3,rfl,htB3,hWB3⟩ _
   have hBB3:=hBB2.mono hmB3
   refine⟨_,rfl,rfl,?_⟩
   intro hpX hX
   simp only [layR] at hX
   subst hX
   cbv
   have htB3:TmAt B3 (.mk kB3 nB3 sB3 lB3) [.int .i64 kB3,.int .i64 nB3,.string sB3,.slice aB3 mB3 cB3]:=htB3
   rw [hx,strict_enc hv] at hWB3
   have hM3:M=Ml.mk KB3 oB3 fB3 pB3 (.mk kB3 nB3 sB3 lB3):=congrArg Prod.fst hWB3
   have he3:(0:Int)=eB3:=congrArg Prod.snd hWB3
   have htM3:=htM.mono hmB3
   refine Hc _ _ _ _ ?_
   rintro(_|_) hc4<;>cbv
   ·exfalso;simp [cmp0,← he3] at hc4
   refine Hk _ _ _ _ _ _ _ ?_
   refine CallZ.ret true AV.bool call10 rfl (fun _=>rfl) (fun w hx=>?_) ?_
   ·have:=sameMail_ret (hBB3.ext hx) KB3 oB3 fB3 pB3 K o f p (htB3.mono (ext_at hx)) (htM3.mono (ext_at hx))
    rw [← hM3,hM,sameMl_refl] at this
    exact this
   intro z hz
   subst hz
   cbv
   (with_reducible refine hQ _ _ _ rfl rfl ?_);refine⟨_,rfl,?_⟩;refine ExitR.sub hF (τ:=tauF []) (n2:=1) (hl:=[(0,.ro calcAVs)]) (v2:=.bool true) (hsub_mk hpl rfl) (fun i hi=>tauF_lt rfl hi) (Nat.le_of_ble_eq_true rfl) (gsLt rfl) rfl (.refl _) (.done ?_)
   exact⟨rfl,rfl,rfl⟩
  refine Hs _ _ _ _ ?_
  rintro(_|_) hc3<;>cbv
  rotate_left
  ·(with_reducible refine hQ _ _ _ rfl rfl ?_);refine⟨_,rfl,?_⟩;refine ExitR.sub hF (τ:=tauF []) (n2:=1) (hl:=[(0,.ro calcAVs)]) (v2:=.bool true) (hsub_mk hpl rfl) (fun i hi=>tauF_lt rfl hi) (Nat.le_of_ble_eq_true rfl) (gsLt rfl) rfl (.refl _) (.done ?_)
   exact⟨rfl,rfl,rfl⟩
  have hen:=encM_fits hv
  have hxs:x.size≤1048576:=by rw [← bytesOf_len,hx];exact hen.2
  refine Hk _ _ _ _ _ _ _ ?_
  refine CallZ.of (tauF []) (n:=1) (l0:=[(0,.ro calcAVs)]) call8 (unpack_g hxs hBB2) hpl rfl rfl rfl (gsT rfl rfl) rfl rfl ?_ (fun _ _ _ h=>h.elim)
  rintro B3 v hp' n' ⟨rfl,rfl,hmB3,KB3,oB3,fB3,pB3,kB3,nB3,sB3,lB3,aB3,mB3,cB3,eB3,rfl,htB3,hWB3⟩ _
  have hBB3:=hBB2.mono hmB3
  refine⟨_,rfl,rfl,?_⟩
  intro hpX hX
  simp only [layR] at hX
  subst hX
  cbv
  have htB3:TmAt B3 (.mk kB3 nB3 sB3 lB3) [.int .i64 kB3,.int .i64 nB3,.string sB3,.slice aB3 mB3 cB3]:=htB3
  rw [hx,strict_enc hv] at hWB3
  have hM3:M=Ml.mk KB3 oB3 fB3 pB3 (.mk kB3 nB3 sB3 lB3):=congrArg Prod.fst hWB3
  have he3:(0:Int)=eB3:=congrArg Prod.snd hWB3
  have htM3:=htM.mono hmB3
  refine Hc _ _ _ _ ?_
  rintro(_|_) hc4<;>cbv
  ·exfalso;simp [cmp0,← he3] at hc4
  refine Hk _ _ _ _ _ _ _ ?_
  refine CallZ.ret true AV.bool call10 rfl (fun _=>rfl) (fun w hx=>?_) ?_
  ·have:=sameMail_ret (hBB3.ext hx) KB3 oB3 fB3 pB3 K o f p (htB3.mono (ext_at hx)) (htM3.mono (ext_at hx))
   rw [← hM3,hM,sameMl_refl] at this
   exact this
  intro z hz
  subst hz
  cbv
  (with_reducible refine hQ _ _ _ rfl rfl ?_);refine⟨_,rfl,?_⟩;refine ExitR.sub hF (τ:=tauF []) (n2:=1) (hl:=[(0,.ro calcAVs)]) (v2:=.bool true) (hsub_mk hpl rfl) (fun i hi=>tauF_lt rfl hi) (Nat.le_of_ble_eq_true rfl) (gsLt rfl) rfl (.refl _) (.done ?_)
  exact⟨rfl,rfl,rfl⟩
 ·cbv
  refine Hk _ _ _ _ _ _ _ ?_
  refine CallZ.of (tauF []) (n:=1) (l0:=[(0,.ro calcAVs)]) call7 (refPack_g K o f p hzM hB ht) hpl rfl rfl rfl (gsT rfl rfl) rfl rfl ?_ (fun _ _ _ h=>h.elim)
  rintro B' v hp' n' ⟨rfl,rfl,rfl,hor⟩ _
  refine⟨_,rfl,rfl,?_⟩
  intro hpX hX
  simp only [layR] at hX
  subst hX
  rw [← hM] at hor
  rcases hor with⟨hv2,y,hy,rfl⟩|⟨hv2,rfl⟩
  ·rw [hv] at hv2;cases hv2
  cbv
  refine Hk _ _ _ _ _ _ _ ?_
  refine CallZ.of (tauF []) (n:=1) (l0:=[(0,.ro calcAVs)]) call8 (unpack_g hs hB) hpl rfl rfl rfl (gsT rfl rfl) rfl rfl ?_ (fun _ _ _ h=>h.elim)
  rintro B1 v hp' n' ⟨rfl,rfl,hmB1,KB1,oB1,fB1,pB1,kB1,nB1,sB1,lB1,aB1,mB1,cB1,eB1,rfl,htB1,hWB1⟩ _
  have hBB1:=hB.mono hmB1
  refine⟨_,rfl,rfl,?_⟩
  intro hpX hX
  simp only [layR] at hX
  subst hX
  cbv
  have htB1:TmAt B1 (.mk kB1 nB1 sB1 lB1) [.int .i64 kB1,.int .i64 nB1,.string sB1,.slice aB1 mB1 cB1]:=htB1
  refine Hk _ _ _ _ _ _ _ ?_
  refine CallZ.of (tauF []) (n:=1) (l0:=[(0,.ro calcAVs)]) call9 (refUnpack_g hs hBB1) hpl rfl rfl rfl (gsT rfl rfl) rfl rfl ?_ (fun _ _ _ h=>h.elim)
  rintro B2 v hp' n' ⟨rfl,rfl,hmB2,KB2,oB2,fB2,pB2,kB2,nB2,sB2,lB2,aB2,mB2,cB2,eB2,rfl,htB2,hWB2⟩ _
  have hBB2:=hBB1.mono hmB2
  refine⟨_,rfl,rfl,?_⟩
  intro hpX hX
  simp only [layR] at hX
  subst hX
  cbv
  have htB2:TmAt B2 (.mk kB2 nB2 sB2 lB2) [.int .i64 kB2,.int .i64 nB2,.string sB2,.slice aB2 mB2 cB2]:=htB2
  have ht1:=ht
  have htM:=(ht.mono hmB1).mono hmB2
  have htB1':=htB1.mono hmB2
  rw [lax_strict (.of s)] at hWB2
  have heq:=hWB1.symm.trans hWB2
  have hML:Ml.mk KB1 oB1 fB1 pB1 (.mk kB1 nB1 sB1 lB1)=Ml.mk KB2 oB2 fB2 pB2 (.mk kB2 nB2 sB2 lB2):=congrArg Prod.fst heq
  have hE:eB1=eB2:=congrArg Prod.snd heq
  refine Hk _ _ _ _ _ _ _ ?_
  refine CallZ.ret true AV.bool call10 rfl (fun _=>rfl) (fun w hx=>?_) ?_
  ·have:=sameMail_ret (hBB2.ext hx) KB1 oB1 fB1 pB1 KB2 oB2 fB2 pB2 (htB1'.mono (ext_at hx)) (htB2.mono (ext_at hx))
   rw [hML,sameMl_refl] at this
   exact this
  intro u hu
  subst hu
  cbv
  refine Hc _ _ _ _ ?_
  rintro(_|_) hc<;>cbv
  rotate_left
  ·exfalso;simp [cmp0,hE] at hc
  clear hc
  refine Hc _ _ _ _ ?_
  rintro(_|_) he<;>cbv
  rotate_left
  ·have he0:eB1=0:=by simpa [cmp0] using he.symm
   have hst:strictM (bytesOf s)=some (Ml.mk KB1 oB1 fB1 pB1 (.mk kB1 nB1 sB1 lB1)):=by
    cases hq:strictM (bytesOf s) with
    | none =>
     rw [hq] at hWB1
     have h200:(200:Int)=eB1:=congrArg Prod.snd hWB1
     omega
    | some m' =>
     rw [hq] at hWB1
     exact congrArg some (congrArg Prod.fst hWB1)
   obtain⟨hv1,hen1,_⟩:=strict_snd hst (.of s)
   refine Hk _ _ _ _ _ _ _ ?_
   refine CallZ.of (tauF []) (n:=1) (l0:=[(0,.ro calcAVs)]) call6 (pack_g KB1 oB1 fB1 pB1 hBB2 htB1') hpl rfl rfl rfl (gsT rfl rfl) rfl rfl ?_ (fun _ _ _ h=>h.elim)
   rintro B' v hp' n' ⟨rfl,rfl,rfl,hor⟩ _
   refine⟨_,rfl,rfl,?_⟩
   intro hpX hX
   simp only [layR] at hX
   subst hX
   rcases hor with⟨_,x3,hx3,rfl⟩|⟨hv3,rfl⟩
   rotate_left
   ·rw [hv1] at hv3;cases hv3
   cbv
   refine Hs _ _ _ _ ?_
   rintro(_|_) hc2<;>cbv
   rotate_left
   ·exfalso
    have:bytesEq (bytesOf x3) (bytesOf s)=true:=by rw [bytesEq_iff,hx3,hen1]
    simp [scmp0,SB.bytes,this] at hc2
   clear hc2
   (with_reducible refine hQ _ _ _ rfl rfl ?_);refine⟨_,rfl,?_⟩;refine ExitR.sub hF (τ:=tauF []) (n2:=1) (hl:=[(0,.ro calcAVs)]) (v2:=.bool true) (hsub_mk hpl rfl) (fun i hi=>tauF_lt rfl hi) (Nat.le_of_ble_eq_true rfl) (gsLt rfl) rfl (.refl _) (.done ?_)
   exact⟨rfl,rfl,rfl⟩
  (with_reducible refine hQ _ _ _ rfl rfl ?_);refine⟨_,rfl,?_⟩;refine ExitR.sub hF (τ:=tauF []) (n2:=1) (hl:=[(0,.ro calcAVs)]) (v2:=.bool true) (hsub_mk hpl rfl) (fun i hi=>tauF_lt rfl hi) (Nat.le_of_ble_eq_true rfl) (gsLt rfl) rfl (.refl _) (.done ?_)
  exact⟨rfl,rfl,rfl⟩
end Go.Proofs.YtaacpiniakmpbaaGreatDoor
