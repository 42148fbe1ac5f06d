/- How bytes, numbers and texts are read. -/
import Derived.Test.YtaacpiniakmpbaaGreatDoorS0
import Derived.Test.YtaacpiniakmpbaaGreatDoorN
namespace Go.Proofs.YtaacpiniakmpbaaGreatDoor
open Go Ev Tryz
set_option linter.unusedSimpArgs false
set_option linter.unusedVariables false
set_option maxHeartbeats 4000000
set_option maxRecDepth 10000
def pNum:Nat→Nat→Nat→List Nat→Option (Nat×List Nat)
 | 0,_,_,_=>none
 | _+1,_,_,[]=>none
 | k+1,i,n,b::r=>if b<128 then(if (b=0∧0<i)∨4294967296≤n+b%128*128 ^ i then none else some (n+b%128*128 ^ i,r)) else pNum k (i+1) (n+b%128*128 ^ i) r
def pText (bs:List Nat):Option (List Nat×List Nat) :=
 match pNum 5 0 0 bs with
 | some (n,r)=>if n≤r.length then some (r.take n,r.drop n) else none
 | none=>none
def Broke (v:AV) (hp:T Ev.Obj) (n:Nat):Prop:=v=.iface 83 (.agg [])∧n=2∧hp=mkT [(0,.ro calcAVs)]
def Read (B:Base) (nd:Int) (u:AV) (r:List Nat) (B':Base) (v:AV) (hp:T Ev.Obj) (n:Nat):Prop :=
 B'=B∧n=2∧v=u∧∃ s,bytesOf s=r∧hp=mkT [(0,.ro calcAVs),(1,.cells [.val (.string s),.val (.int .i64 nd)] 0)]
theorem op_idx {P:Program} {C:Ctx} (hC:CtxOk P C) {o:Oper} {tm:T AV} {t a:Nat} {y:Operand} {ti:TI} {s:ByteArray} {j b:Nat} {k:IntKind} {K:AV→Prop} (ho:o.op=.index t (.tmp a) y) (ht:C.tt.get t=some ti) (hk:ti.k=.str) (hx:tm.get a=some (.val (.string s)))
  (hy:∀ tm,ev C tm y=some (.int k (Int.ofNat j))) (hb:(bytesOf s)[j]?=some b) (hK:K (.val (.int .u8 (Int.ofNat b)))):PureR P C o tm K:=by
 refine pure_by hC (told_str hx told_nil) (v:=.int .u8 (Int.ofNat b)) ?_ rfl rfl hK
 unfold valA
 simp only [ho,ht,hy]
 simp only [ev,mkT,T.get_set,if_true,hk,natOf,nth_eq,hb]
theorem rbyte (s:ByteArray) (nd:Int) (B:Base):CallG Tryz.prog ctxZ B 78 [.ptr 1 0] (mkT [(0,.ro calcAVs),(1,.cells [.val (.string s),.val (.int .i64 nd)] 0)]).get 2
   (fun B' v H n'=>∃ hp,H=T.get hp∧∃ b r,bytesOf s=b::r∧Read B nd (.val (.int .u8 (Int.ofNat b))) r B' v hp n') (fun v H n'=>∃ hp,H=T.get hp∧(bytesOf s=[]∧Broke v hp n')):=by
 refine CallG.body prog_okZ func78 rfl ?_
 rintro⟨φ0,H0,_,w0,B⟩ hF rfl rfl rfl Q N hQ hN
 refine CodeF.sy prog_okZ ?_
 intro _ _ _ _ _ _ _ _ _ _ _ _ _ Hc Hs Ha Hw Hd Ho Hl Hn Hi Hv Hz Hk He
 cbv
 refine Hs _ _ _ _ ?_
 rintro(_|_) h0<;>cbv
 ·have h1:¬ bytesOf s=[]:=by intro q;simp [scmp0,SB.bytes,q,bytesEq] at h0
  obtain⟨b,r,hbr⟩:∃ b r,bytesOf s=b::r:=by cases h:bytesOf s with|nil=>exact(h1 h).elim|cons b r=>exact⟨b,r,rfl⟩
  refine Hz _ _ _ _ (op_idx ctxAt rfl rfl rfl rfl (fun _=>rfl) (by rw [hbr];rfl) ?_)
  cbv
  refine Hz _ _ _ _ (op_slice (tl:=[(20,.str (bytesOf s))]) (s:=s) (l:=1) (h:=(bytesOf s).length) ctxAt rfl rfl rfl (told_str rfl told_nil) rfl (.inr ⟨_,_,rfl,rfl⟩) (.inl ⟨rfl,rfl⟩) (by rw [hbr];simp) (Nat.le_refl _) ?_)
  intro u hu
  have hu2:bytesOf u=r:=by rw [hu,hbr];simp
  clear hu
  cbv
  (with_reducible refine hQ _ _ _ rfl rfl ?_);refine⟨_,rfl,?_⟩;refine ExitR.sub hF (τ:=tauF []) (n2:=2) (hl:=[(0,.ro calcAVs),(1,.cells [.val (.string u),.val (.int .i64 nd)] 0)]) (v2:=.val (.int .u8 (Int.ofNat b))) (hsub_mk hpl rfl) (fun i hi=>tauF_lt rfl hi) (Nat.le_of_ble_eq_true rfl) (gsLt rfl) rfl (.refl _) (.done ?_)
  exact⟨b,r,hbr,rfl,rfl,rfl,u,hu2,rfl⟩
 ·have h1:bytesOf s=[]:=by
   have:bytesEq (bytesOf s) []=true:=by simpa [scmp0,SB.bytes] using h0.symm
   rwa [bytesEq_iff] at this
  refine hN _ _ rfl (PanicR.sub hF (τ:=tauF []) (n2:=2) (hl:=[(0,.ro calcAVs)]) (hsub_mk (τ:=tauF []) hpl rfl) (fun i hi=>tauF_lt rfl hi) (Nat.le_of_ble_eq_true rfl) rfl (.refl _) ⟨h1,rfl,rfl,rfl⟩)
theorem andU8 {b:Nat} (h:b<256):ar0 .and .u8 (Int.ofNat b) 127=Int.ofNat (b%128):=by
 have e1:(BitVec.ofInt 8 (Int.ofNat b)).toNat=b:=by
  rw [BitVec.toNat_ofInt];simp;omega
 have e2:(BitVec.ofInt 8 127).toNat=127:=by decide
 have e3:(BitVec.ofInt 8 (Int.ofNat b) &&& BitVec.ofInt 8 127).toNat=b%128:=by
  rw [BitVec.toNat_and,e1,e2]
  exact Nat.and_two_pow_sub_one_eq_mod b 7
 show IntKind.u8.wrap ((BitVec.ofInt 8 (Int.ofNat b) &&& BitVec.ofInt 8 127).toNat:Int)=_
 rw [e3]
 exact wrap_u8 (by omega)
theorem pow128 (i:Nat):128 ^ i=2 ^ (7*i):=by rw [Nat.pow_mul]
theorem orShl {n x i:Nat} (hi:i<5) (hn:n<128 ^ i) (hx:x<128):ar0 .or .i64 (Int.ofNat n) (Int.ofNat (x*128 ^ i))=Int.ofNat (n+x*128 ^ i):=by
 have hp:128 ^ i≤128 ^ 4:=Nat.pow_le_pow_right (by decide) (by omega)
 have hm:x*128 ^ i≤127*128 ^ i:=Nat.mul_le_mul_right _ (by omega)
 have hp4:128 ^ 4=268435456:=by decide
 have e1:(BitVec.ofInt 64 (Int.ofNat n)).toNat=n:=by
  rw [BitVec.toNat_ofInt];simp;omega
 have e2:(BitVec.ofInt 64 (Int.ofNat (x*128 ^ i))).toNat=x*128 ^ i:=by
  rw [BitVec.toNat_ofInt]
  generalize x*128 ^ i=q at *
  simp;omega
 have e3:(BitVec.ofInt 64 (Int.ofNat n) ||| BitVec.ofInt 64 (Int.ofNat (x*128 ^ i))).toNat=n+x*128 ^ i:=by
  rw [BitVec.toNat_or,e1,e2,Nat.or_comm]
  have:=Nat.two_pow_add_eq_or_of_lt (i:=7*i) (b:=n) (by rw [← pow128];exact hn) x
  rw [pow128,Nat.mul_comm,← this];omega
 show IntKind.i64.wrap ((BitVec.ofInt 64 (Int.ofNat n) ||| BitVec.ofInt 64 (Int.ofNat (x*128 ^ i))).toNat:Int)=_
 rw [e3,wrap_in (by omega) (by omega)];rfl
theorem shl7 {x i:Nat} (hi:i<5) (hx:x<128):IntKind.i64.wrap (Int.ofNat x*2 ^ (min (7*i) IntKind.i64.bits))=Int.ofNat (x*128 ^ i):=by
 have hb:IntKind.i64.bits=64:=rfl
 rw [hb,Nat.min_eq_left (by omega)]
 have e:(Int.ofNat x*2 ^ (7*i):Int)=Int.ofNat (x*128 ^ i):=by
  rw [pow128];simp
 have hp:128 ^ i≤128 ^ 4:=Nat.pow_le_pow_right (by decide) (by omega)
 have hm:x*128 ^ i≤127*128 ^ i:=Nat.mul_le_mul_right _ (by omega)
 have hp4:128 ^ 4=268435456:=by decide
 rw [e,wrap_in (by simp only [Int.ofNat_eq_natCast];omega) (by simp only [Int.ofNat_eq_natCast];omega)]
theorem rnumber (s:ByteArray) (nd:Int) (B:Base):CallG Tryz.prog ctxZ B 38 [.ptr 1 0] (mkT [(0,.ro calcAVs),(1,.cells [.val (.string s),.val (.int .i64 nd)] 0)]).get 2
   (fun B' v H n'=>∃ hp,H=T.get hp∧∃ n r,pNum 5 0 0 (bytesOf s)=some (n,r)∧Read B nd (.val (.int .i64 (Int.ofNat n))) r B' v hp n') (fun v H n'=>∃ hp,H=T.get hp∧(pNum 5 0 0 (bytesOf s)=none∧Broke v hp n')):=by
 refine CallG.body prog_okZ func38 rfl ?_
 rintro⟨φ0,H0,_,w0,B⟩ hF rfl rfl rfl Q N hQ hN
 obtain⟨W,hW⟩:∃ W,W=pNum 5 0 0 (bytesOf s):=⟨_,rfl⟩
 rw [← hW] at hQ hN
 refine CodeF.sy prog_okZ ?_
 intro _ _ _ _ _ _ _ _ _ _ _ _ _ Hc Hs Ha Hw Hd Ho Hl Hn Hi Hv Hz Hk He
 cbv
 refine He _ _ _ _ (CodeF.loop hF (gsLt rfl) (fun x:Nat×Nat×ByteArray=>mkS [(0,.ptr 1 0),(3,.val (.int .i64 (Int.ofNat x.2.1))),(6,.val (.int .i64 (Int.ofNat x.1)))] [(0,.ro calcAVs),(1,.cells [.val (.string x.2.2),.val (.int .i64 nd)] 0)] 2)
  (fun x=>5 - x.1) (fun x B'=>B'=B∧x.1≤5∧x.2.1<128 ^ x.1∧W=pNum (5 - x.1) x.1 x.2.1 (bytesOf x.2.2)) (0,0,s) ⟨rfl,Nat.zero_le _,Nat.zero_lt_one,hW⟩ (fun _=>Nat.le_of_ble_eq_true rfl) (subr_mk (τ:=tauF []) rtl hpl rfl rfl) (fun i hi=>tauF_lt rfl hi) ?_)
 rintro⟨i,n,s'⟩ B' ⟨hB,hi,hn,hW'⟩
 simp only at hB hi hn hW'
 subst hB
 refine CodeF.sy prog_okZ ?_
 intro _ _ _ _ _ _ _ _ _ _ _ _ _ Hc2 Hs2 Ha2 Hw2 Hd2 Ho2 Hl2 Hn2 Hi2 Hv2 Hz2 Hk2 He2
 cbv
 refine Hc2 _ _ _ _ ?_
 rintro(_|_) h1<;>cbv
 ·have h5:i=5:=by have:¬ (i:Int)<5:=by simpa [cmp0] using h1
                  omega
  subst h5
  refine hN _ _ rfl (PanicR.sub hF (τ:=tauF []) (n2:=2) (hl:=[(0,.ro calcAVs)]) (hsub_mk (τ:=tauF []) hpl rfl) (fun i hi=>tauF_lt rfl hi) (Nat.le_of_ble_eq_true rfl) rfl (.refl _) ⟨by rw [hW'];rfl,rfl,rfl,rfl⟩)
 ·have h5:i<5:=by have:(i:Int)<5:=by simpa [cmp0] using h1
                  omega
  obtain⟨k,hk⟩:∃ k,5 - i=k+1:=⟨4 - i,by omega⟩
  rw [hk] at hW'
  refine Hk2 _ _ _ _ _ _ _ ?_
  refine CallZ.of (tauF []) (n:=2) (l0:=[(0,.ro calcAVs),(1,.cells [.val (.string s'),.val (.int .i64 nd)] 0)]) call78 (rbyte s' nd B') hpl rfl rfl rfl (gsT rfl rfl) rfl rfl ?_ ?_
  ·rintro B v hp' n' ⟨b,r,hbr,rfl,rfl,rfl,s2,hs2,rfl⟩ _
   refine⟨_,rfl,rfl,?_⟩
   intro hpX hX
   simp only [layR] at hX
   subst hX
   have hb256:b<256:=by
    have:=bytes_lt s'
    rw [hbr] at this
    simp [Nat.blt_eq] at this;exact this.1
   rw [hbr,pNum] at hW'
   cbv
   refine Ha2 _ _ _ _ _ ?_
   intro q hq
   obtain⟨x,hx⟩:∃ x,x=b%128:=⟨_,rfl⟩
   have hx128:x<128:=by omega
   obtain rfl:q=Int.ofNat x:=by rw [hq,hx];exact andU8 hb256
   rw [← hx] at hW'
   cbv
   refine Hw2 _ _ _ ?_
   intro q hq
   obtain rfl:q=Int.ofNat x:=by rw [hq];exact wrap_in (by simp<;>omega) (by simp<;>omega)
   cbv
   refine Ha2 _ _ _ _ _ ?_
   intro q hq
   obtain⟨i7,hi7⟩:∃ i7,i7=7*i:=⟨_,rfl⟩
   obtain rfl:q=Int.ofNat i7:=by rw [hq,hi7];exact(wrap_in (by simp;omega) (by simp;omega))
   cbv
   refine Hz2 _ _ _ _ (op_shl ctxAt rfl rfl (by decide) rfl rfl ?_)
   intro q hq
   obtain⟨y,hy⟩:∃ y,y=x*128 ^ i:=⟨_,rfl⟩
   obtain rfl:q=Int.ofNat y:=by rw [hq,hy,hi7];exact shl7 h5 hx128
   cbv
   refine Ha2 _ _ _ _ _ ?_
   intro q hq
   obtain⟨n2,hn2⟩:∃ n2,n2=n+y:=⟨_,rfl⟩
   obtain rfl:q=Int.ofNat n2:=by rw [hq,hn2,hy];exact orShl h5 hn hx128
   rw [← hy,← hn2] at hW'
   have hn2':n2<128 ^ (i+1):=by
    have:x*128 ^ i≤127*128 ^ i:=Nat.mul_le_mul_right _ (by omega)
    rw [Nat.pow_succ,hn2,hy];omega
   clear hq hy hx
   cbv
   refine Hc2 _ _ _ _ ?_
   rintro(_|_) hc<;>cbv
   ·have hb128:¬ b<128:=by have:¬ (b:Int)<128:=by simpa [cmp0] using hc
                           omega
    rw [if_neg hb128] at hW'
    refine Ha2 _ _ _ _ _ ?_
    rintro q rfl
    rw [ar0_suc (by omega)]
    cbv
    refine⟨(i+1,n2,s2),tauF [],?_,⟨rfl,h5,hn2',?_⟩,(subr_mk (τ:=tauF []) rtl hpl rfl rfl),fun i hi=>tauF_lt rfl hi⟩
    ·simp only;omega
    ·simp only;rw [hs2,hW',show 5 - (i+1)=k by omega]
   ·have hb128:b<128:=by have:(b:Int)<128:=by simpa [cmp0] using hc
                         omega
    rw [if_pos hb128] at hW'
    have hfin:(b=0∧0<i)∨4294967296≤n2→W=none:=fun h=>by rw [hW',if_pos h]
    have hfin2:¬ ((b=0∧0<i)∨4294967296≤n2)→W=some (n2,r):=fun h=>by rw [hW',if_neg h]
    clear hW'
    refine Hc2 _ _ _ _ ?_
    rintro(_|_) hz<;>cbv
    ·have hz0:¬ b=0:=by intro q;subst q;simp [cmp0] at hz
     refine Hc2 _ _ _ _ ?_
     rintro(_|_) hg<;>cbv
     ·have hg0:¬ 4294967296≤n2:=by intro q;simp [cmp0] at hg;omega
      (with_reducible refine hQ _ _ _ rfl rfl ?_);refine⟨_,rfl,?_⟩;refine ExitR.sub hF (τ:=tauF []) (n2:=2) (hl:=[(0,.ro calcAVs),(1,.cells [.val (.string s2),.val (.int .i64 nd)] 0)]) (v2:=.val (.int .i64 (Int.ofNat n2))) (hsub_mk hpl rfl) (fun i hi=>tauF_lt rfl hi) (Nat.le_of_ble_eq_true rfl) (gsLt rfl) rfl (.refl _) (.done ?_)
      exact⟨n2,r,hfin2 (by omega),rfl,rfl,rfl,s2,hs2,rfl⟩
     ·have hg0:4294967296≤n2:=by simp [cmp0] at hg;omega
      refine hN _ _ rfl (PanicR.sub hF (τ:=tauF []) (n2:=2) (hl:=[(0,.ro calcAVs)]) (hsub_mk (τ:=tauF []) hpl rfl) (fun i hi=>tauF_lt rfl hi) (Nat.le_of_ble_eq_true rfl) rfl (.refl _) ⟨hfin (.inr hg0),rfl,rfl,rfl⟩)
    ·have hz0:b=0:=by simp [cmp0] at hz;omega
     refine Hc2 _ _ _ _ ?_
     rintro(_|_) hp<;>cbv
     ·have hp0:¬ 0<i:=by intro q;simp [cmp0] at hp;omega
      refine Hc2 _ _ _ _ ?_
      rintro(_|_) hg<;>cbv
      ·have hg0:¬ 4294967296≤n2:=by intro q;simp [cmp0] at hg;omega
       (with_reducible refine hQ _ _ _ rfl rfl ?_);refine⟨_,rfl,?_⟩;refine ExitR.sub hF (τ:=tauF []) (n2:=2) (hl:=[(0,.ro calcAVs),(1,.cells [.val (.string s2),.val (.int .i64 nd)] 0)]) (v2:=.val (.int .i64 (Int.ofNat n2))) (hsub_mk hpl rfl) (fun i hi=>tauF_lt rfl hi) (Nat.le_of_ble_eq_true rfl) (gsLt rfl) rfl (.refl _) (.done ?_)
       exact⟨n2,r,hfin2 (by omega),rfl,rfl,rfl,s2,hs2,rfl⟩
      ·have hg0:4294967296≤n2:=by simp [cmp0] at hg;omega
       refine hN _ _ rfl (PanicR.sub hF (τ:=tauF []) (n2:=2) (hl:=[(0,.ro calcAVs)]) (hsub_mk (τ:=tauF []) hpl rfl) (fun i hi=>tauF_lt rfl hi) (Nat.le_of_ble_eq_true rfl) rfl (.refl _) ⟨hfin (.inr hg0),rfl,rfl,rfl⟩)
     ·have hp0:0<i:=by simp [cmp0] at hp;omega
      refine hN _ _ rfl (PanicR.sub hF (τ:=tauF []) (n2:=2) (hl:=[(0,.ro calcAVs)]) (hsub_mk (τ:=tauF []) hpl rfl) (fun i hi=>tauF_lt rfl hi) (Nat.le_of_ble_eq_true rfl) rfl (.refl _) ⟨hfin (.inl ⟨hz0,hp0⟩),rfl,rfl,rfl⟩)
  ·rintro v hp' n' ⟨hbr,rfl,rfl,rfl⟩ _
   refine⟨_,rfl,rfl,?_⟩
   intro hpX hX
   simp only [layR] at hX
   subst hX
   cbv
   refine hN _ _ rfl (PanicR.sub hF (τ:=tauF []) (n2:=2) (hl:=[(0,.ro calcAVs)]) (hsub_mk (τ:=tauF []) hpl rfl) (fun i hi=>tauF_lt rfl hi) (Nat.le_of_ble_eq_true rfl) rfl (.refl _) ⟨by rw [hW',hbr];rfl,rfl,rfl,rfl⟩)
theorem pNum_lt:∀ (k i n:Nat) (bs:List Nat) {m:Nat} {r:List Nat},pNum k i n bs=some (m,r)→m<4294967296
 | 0,_,_,_,_,_,h=>by simp [pNum] at h
 | _+1,_,_,[],_,_,h=>by simp [pNum] at h
 | k+1,i,n,b::t,m,r,h=>by
  rw [pNum] at h
  split at h
  ·split at h
   ·cases h
   ·next q=>cases h;omega
  ·exact pNum_lt k _ _ t h
theorem rtextR (s:ByteArray) (nd:Int) (hs:s.size≤1048576) (B:Base):CallG Tryz.prog ctxZ B 79 [.ptr 1 0] (mkT [(0,.ro calcAVs),(1,.cells [.val (.string s),.val (.int .i64 nd)] 0)]).get 2
   (fun B' v H n'=>∃ hp,H=T.get hp∧∃ u r,pText (bytesOf s)=some (bytesOf u,r)∧Read B nd (.val (.string u)) r B' v hp n') (fun v H n'=>∃ hp,H=T.get hp∧(pText (bytesOf s)=none∧Broke v hp n')):=by
 refine CallG.body prog_okZ func79 rfl ?_
 rintro⟨φ0,H0,_,w0,B⟩ hF rfl rfl rfl Q N hQ hN
 refine CodeF.sy prog_okZ ?_
 intro _ _ _ _ _ _ _ _ _ _ _ _ _ Hc Hs Ha Hw Hd Ho Hl Hn Hi Hv Hz Hk He
 cbv
 refine Hk _ _ _ _ _ _ _ ?_
 refine CallZ.of (tauF []) (n:=2) (l0:=[(0,.ro calcAVs),(1,.cells [.val (.string s),.val (.int .i64 nd)] 0)]) call38 (rnumber s nd B) hpl rfl rfl rfl (gsT rfl rfl) rfl rfl ?_ ?_
 ·rintro B v hp' n' ⟨n,r,hp,rfl,rfl,rfl,s2,hs2,rfl⟩ _
  refine⟨_,rfl,rfl,?_⟩
  intro hpX hX
  simp only [layR] at hX
  subst hX
  cbv
  refine Hn _ _ _ _ (len_stZ ?_)
  intro z hz
  have hzr:z=r.length:=by rw [hz,← hs2,bytesOf_len]
  cbv
  refine Hc _ _ _ _ ?_
  rintro(_|_) hc<;>cbv
  ·have hle:n≤r.length:=by have:¬ (z:Int)<n:=by simpa [cmp0] using hc
                           omega
   refine Hz _ _ _ _ (op_slice (tl:=[(19,.str (bytesOf s2)),(20,.int .i64 (.ofNat n))]) (s:=s2) (l:=0) (h:=n) ctxAt rfl rfl rfl (told_str rfl (told_int rfl told_nil)) rfl (.inl ⟨rfl,rfl⟩) (.inr ⟨_,_,rfl,rfl⟩) (Nat.zero_le _) (by rw [hs2];exact hle) ?_)
   intro u hu
   have hu:bytesOf u=r.take n:=by rw [hu,hs2];simp
   cbv
   refine Hz _ _ _ _ (op_slice (tl:=[(26,.str (bytesOf s2)),(27,.int .i64 (.ofNat n))]) (s:=s2) (l:=n) (h:=(bytesOf s2).length) ctxAt rfl rfl rfl (told_str rfl (told_int rfl told_nil)) rfl (.inr ⟨_,_,rfl,rfl⟩) (.inl ⟨rfl,rfl⟩) (by rw [hs2];exact hle) (Nat.le_refl _) ?_)
   intro u2 hu2
   have hu2:bytesOf u2=r.drop n:=by rw [hu2,hs2];rw [List.take_of_length_le];simp
   have hfin:pText (bytesOf s)=some (bytesOf u,r.drop n):=by rw [pText,hp];simp only;rw [if_pos hle,hu]
   clear hu
   cbv
   (with_reducible refine hQ _ _ _ rfl rfl ?_);refine⟨_,rfl,?_⟩;refine ExitR.sub hF (τ:=tauF []) (n2:=2) (hl:=[(0,.ro calcAVs),(1,.cells [.val (.string u2),.val (.int .i64 nd)] 0)]) (v2:=.val (.string u)) (hsub_mk hpl rfl) (fun i hi=>tauF_lt rfl hi) (Nat.le_of_ble_eq_true rfl) (gsLt rfl) rfl (.refl _) (.done ?_)
   exact⟨u,r.drop n,hfin,rfl,rfl,rfl,u2,hu2,rfl⟩
  ·have hgt:¬ n≤r.length:=by have:(z:Int)<n:=by simpa [cmp0] using hc
                             omega
   have hfin:pText (bytesOf s)=none:=by rw [pText,hp];simp only;rw [if_neg hgt]
   refine hN _ _ rfl (PanicR.sub hF (τ:=tauF []) (n2:=2) (hl:=[(0,.ro calcAVs)]) (hsub_mk (τ:=tauF []) hpl rfl) (fun i hi=>tauF_lt rfl hi) (Nat.le_of_ble_eq_true rfl) rfl (.refl _) ⟨hfin,rfl,rfl,rfl⟩)
 ·rintro v hp' n' ⟨hbr,rfl,rfl,rfl⟩ _
  refine⟨_,rfl,rfl,?_⟩
  intro hpX hX
  simp only [layR] at hX
  subst hX
  have hfin:pText (bytesOf s)=none:=by rw [pText,hbr]
  cbv
  refine hN _ _ rfl (PanicR.sub hF (τ:=tauF []) (n2:=2) (hl:=[(0,.ro calcAVs)]) (hsub_mk (τ:=tauF []) hpl rfl) (fun i hi=>tauF_lt rfl hi) (Nat.le_of_ble_eq_true rfl) rfl (.refl _) ⟨hfin,rfl,rfl,rfl⟩)
def pRep (f:Nat→List Nat→Option (Tm×List Nat×Nat)):Nat→Nat→List Nat→Option (List Tm×List Nat×Nat)
 | 0,nd,bs=>some ([],bs,nd)
 | m+1,nd,bs=>match f nd bs with
  | some (t,r,nd')=>match pRep f m nd' r with
   | some (l,r',nd'')=>some (t::l,r',nd'')
   | none=>none
  | none=>none
def pParts (f:Nat→List Nat→Option (Tm×List Nat×Nat)) (k:Int) (s:ByteArray) (nd:Nat) (bs:List Nat):Option (Tm×List Nat×Nat) :=
 match pNum 5 0 0 bs with
 | some (m,r)=>if 64<m then none else match pRep f m nd r with
  | some (l,r',nd')=>some (.mk k 0 s l,r',nd')
  | none=>none
 | none=>none
def pTerm:Nat→Nat→List Nat→Option (Tm×List Nat×Nat)
 | 0,_,_=>none
 | _+1,0,_=>none
 | _+1,_+1,[]=>none
 | d+1,nd+1,k::bs =>
  if k=1 then match pNum 5 0 0 bs with
   | some (n,r)=>some (.mk 1 n (strB []) [],r,nd)
   | none=>none
  else if k=2 then match pNum 5 0 0 bs with
   | some (n,r)=>some (.mk 2 (if n%2=1 then -(n / 2:Nat) - 1 else(n / 2:Nat)) (strB []) [],r,nd)
   | none=>none
  else if k=3∨k=4 then match pText bs with
   | some (x,r)=>some (.mk k 0 (strB x) [],r,nd)
   | none=>none
  else if k=5 then match pText bs with
   | some (x,r)=>pParts (pTerm d) 5 (strB x) nd r
   | none=>none
  else if k=6 then pParts (pTerm d) 6 (strB []) nd bs
  else none
end Go.Proofs.YtaacpiniakmpbaaGreatDoor
