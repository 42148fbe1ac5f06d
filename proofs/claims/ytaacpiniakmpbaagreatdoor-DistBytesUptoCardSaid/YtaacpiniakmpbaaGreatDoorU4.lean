/- How terms are read, all of them. -/
import Derived.Test.YtaacpiniakmpbaaGreatDoorU3
namespace Go.Proofs.YtaacpiniakmpbaaGreatDoor
open Go Ev Tryz
set_option linter.unusedSimpArgs false
set_option linter.unusedVariables false
set_option maxHeartbeats 8000000
set_option maxRecDepth 20000
theorem pNum_len:∀ (k i n:Nat) (bs:List Nat) {m:Nat} {r:List Nat},pNum k i n bs=some (m,r)→r.length<bs.length
 | 0,_,_,_,_,_,h=>by simp [pNum] at h
 | _+1,_,_,[],_,_,h=>by simp [pNum] at h
 | k+1,i,n,b::t,m,r,h=>by
  rw [pNum] at h
  split at h
  ·split at h
   ·cases h
   ·next q=>cases h;simp
  ·have:=pNum_len k _ _ t h;simp;omega
theorem pText_len {bs x r:List Nat} (h:pText bs=some (x,r)):x.length+r.length<bs.length:=by
 unfold pText at h
 split at h
 ·next n r0 hn =>
  split at h
  ·next hle=>cases h;have:=pNum_len _ _ _ _ hn;simp;omega
  ·cases h
 ·cases h
def Less (f:Nat→List Nat→Option (Tm×List Nat×Nat)):Prop:=∀ nd bs t r nd',f nd bs=some (t,r,nd')→r.length≤bs.length∧nd'≤nd
theorem pRep_len {f:Nat→List Nat→Option (Tm×List Nat×Nat)} (hf:Less f):∀ (m nd:Nat) (bs:List Nat) {l:List Tm} {r:List Nat} {nd':Nat},pRep f m nd bs=some (l,r,nd')→r.length≤bs.length∧nd'≤nd
 | 0,_,_,_,_,_,h=>by cases h;omega
 | m+1,nd,bs,l,r,nd',h=>by
  rw [pRep] at h
  split at h
  ·next t r1 nd1 h1 =>
   split at h
   ·next l2 r2 nd2 h2 =>
    cases h
    have:=hf _ _ _ _ _ h1
    have:=pRep_len hf m _ _ h2
    omega
   ·cases h
  ·cases h
theorem pParts_len {f:Nat→List Nat→Option (Tm×List Nat×Nat)} (hf:Less f) {k:Int} {s:ByteArray} {nd:Nat} {bs:List Nat} {t:Tm} {r:List Nat} {nd':Nat} (h:pParts f k s nd bs=some (t,r,nd')):r.length≤bs.length∧nd'≤nd:=by
 unfold pParts at h
 split at h
 ·next m r0 hn =>
  have:=pNum_len _ _ _ _ hn
  split at h
  ·cases h
  ·split at h
   ·next l r2 nd2 h2=>cases h;have:=pRep_len hf _ _ _ h2;omega
   ·cases h
 ·cases h
theorem pTerm_len:∀ d,Less (pTerm d)
 | 0,_,_,_,_,_,h=>by simp [pTerm] at h
 | d+1,0,_,_,_,_,h=>by simp [pTerm] at h
 | d+1,nd+1,[],_,_,_,h=>by simp [pTerm] at h
 | d+1,nd+1,k::bs,t,r,nd',h=>by
  rw [pTerm] at h
  split at h
  ·split at h
   ·next hn=>cases h;have:=pNum_len _ _ _ _ hn;simp;omega
   ·cases h
  ·split at h
   ·split at h
    ·next hn=>cases h;have:=pNum_len _ _ _ _ hn;simp;omega
    ·cases h
   ·split at h
    ·split at h
     ·next hn=>cases h;have:=pText_len hn;simp;omega
     ·cases h
    ·split at h
     ·split at h
      ·next hn=>have:=pText_len hn;have:=pParts_len (pTerm_len d) h;simp;omega
      ·cases h
     ·split at h
      ·have:=pParts_len (pTerm_len d) h;simp;omega
      ·cases h
def restP (f:Nat→List Nat→Option (Tm×List Nat×Nat)) (k:Int) (u:ByteArray) (l':List Tm) (m nd:Nat) (bs:List Nat):Option (Tm×List Nat×Nat) :=
 match pRep f m nd bs with
 | some (l,r,nd'')=>some (.mk k 0 u (l'++l),r,nd'')
 | none=>none
theorem restP_zero {f:Nat→List Nat→Option (Tm×List Nat×Nat)} {k:Int} {u:ByteArray} {l':List Tm} {nd:Nat} {bs:List Nat}:restP f k u l' 0 nd bs=some (.mk k 0 u l',bs,nd):=by
 simp [restP,pRep]
theorem restP_none {f:Nat→List Nat→Option (Tm×List Nat×Nat)} {k:Int} {u:ByteArray} {l':List Tm} {m nd:Nat} {bs:List Nat} (h:f nd bs=none):restP f k u l' (m+1) nd bs=none:=by
 simp [restP,pRep,h]
theorem restP_some {f:Nat→List Nat→Option (Tm×List Nat×Nat)} {k:Int} {u:ByteArray} {l':List Tm} {m nd nd':Nat} {bs r:List Nat} {t:Tm} (h:f nd bs=some (t,r,nd')):restP f k u l' (m+1) nd bs=restP f k u (l'++[t]) m nd' r:=by
 simp only [restP,pRep,h]
 cases pRep f m nd' r with
 | none=>rfl
 | some x=>simp
theorem pParts_rest {f:Nat→List Nat→Option (Tm×List Nat×Nat)} {k:Int} {u:ByteArray} {nd n:Nat} {bs r:List Nat} (h:pNum 5 0 0 bs=some (n,r)) (hn:¬ 64<n):pParts f k u nd bs=restP f k u [] n nd r:=by
 simp only [pParts,h,if_neg hn,restP,List.nil_append]
 cases pRep f n nd r<;>rfl
theorem gterm:∀ (deep:Nat),deep≤600→∀ (s:ByteArray) (nd:Nat),s.size≤1048576→nd≤4000→∀ B,CallG Tryz.prog ctxZ B 39 [.ptr 1 0,.val (.int .i64 (Int.ofNat deep))] (mkT [(0,.ro calcAVs),(1,.cells [.val (.string s),.val (.int .i64 (Int.ofNat nd))] 0)]).get 2
   (fun B' v H n'=>∃ hp,H=T.get hp∧Termed B (pTerm deep nd (bytesOf s)) B' v hp n') (fun v H n'=>∃ hp,H=T.get hp∧(pTerm deep nd (bytesOf s)=none∧Broke v hp n')):=by
 intro deep
 induction deep with
 | zero =>
  intro _ s nd hs hnd B
  refine CallG.body prog_okZ func39 rfl ?_
  rintro⟨φ0,H0,_,w0,B⟩ hF rfl rfl rfl Q N hQ hN
  refine CodeF.sy prog_okZ ?_
  intro _ _ _ _ _ _ _ _ _ _ _ _ _ Hc Hs Ha Hw Hd Ho Hl Hn Hi Hv Hz Hk He
  cbv
  refine Ha _ _ _ _ _ ?_
  intro q hq
  cbv
  refine Hc _ _ _ _ ?_
  rintro(_|_) h1<;>cbv
  ·refine Hc _ _ _ _ ?_
   rintro(_|_) h2<;>cbv
   ·simp [cmp0] at h2
   ·refine hN _ _ rfl (PanicR.sub hF (τ:=tauF []) (n2:=2) (hl:=[(0,.ro calcAVs)]) (hsub_mk (τ:=tauF []) hpl rfl) (fun i hi=>tauF_lt rfl hi) (Nat.le_of_ble_eq_true rfl) rfl (.refl _) ⟨rfl,rfl,rfl,rfl⟩)
  ·refine hN _ _ rfl (PanicR.sub hF (τ:=tauF []) (n2:=2) (hl:=[(0,.ro calcAVs)]) (hsub_mk (τ:=tauF []) hpl rfl) (fun i hi=>tauF_lt rfl hi) (Nat.le_of_ble_eq_true rfl) rfl (.refl _) ⟨rfl,rfl,rfl,rfl⟩)
 | succ d ih =>
  intro hdp s nd hs hnd B
  refine CallG.body prog_okZ func39 rfl ?_
  rintro⟨φ0,H0,_,w0,B⟩ hF rfl rfl rfl Q N hQ hN
  obtain⟨W,hW⟩:∃ W,W=pTerm (d+1) nd (bytesOf s):=⟨_,rfl⟩
  rw [← hW] at hQ hN
  refine CodeF.sy prog_okZ ?_
  intro _ _ _ _ _ _ _ _ _ _ _ _ _ Hc Hs Ha Hw Hd Ho Hl Hn Hi Hv Hz Hk He
  cbv
  refine Ha _ _ _ _ _ ?_
  intro q hq
  rcases nd with _|e
  ·have hq:q=-1:=hq
   subst hq
   cbv
   refine Hc _ _ _ _ ?_
   rintro(_|_) h1<;>cbv
   ·simp [cmp0] at h1
   ·refine hN _ _ rfl (PanicR.sub hF (τ:=tauF []) (n2:=2) (hl:=[(0,.ro calcAVs)]) (hsub_mk (τ:=tauF []) hpl rfl) (fun i hi=>tauF_lt rfl hi) (Nat.le_of_ble_eq_true rfl) rfl (.refl _) ⟨hW,rfl,rfl,rfl⟩)
  ·obtain rfl:q=Int.ofNat e:=by rw [hq,ar0_sub (by simp<;>omega) (by simp<;>omega)];simp
   clear hq
   cbv
   refine Hc _ _ _ _ ?_
   rintro(_|_) h1<;>cbv
   ·refine Hc _ _ _ _ ?_
    rintro(_|_) h2<;>cbv
    ·clear h1 h2
     refine Hk _ _ _ _ _ _ _ ?_
     refine CallZ.of (tauF []) (n:=2) (l0:=[(0,.ro calcAVs),(1,.cells [.val (.string s),.val (.int .i64 (Int.ofNat e))] 0)]) call78 (rbyte s (Int.ofNat e) B) hpl rfl rfl rfl (gsT rfl rfl) rfl rfl ?_ ?_
     ·rintro B v hp' n' ⟨b,r,hbr,rfl,rfl,rfl,s2,hs2,rfl⟩ _
      refine⟨_,rfl,rfl,?_⟩
      intro hpX hX
      simp only [layR] at hX
      subst hX
      have hb256:b<256:=by
       have:=bytes_lt s
       rw [hbr] at this
       simp [Nat.blt_eq] at this;exact this.1
      have hsz2:s2.size≤1048576:=by
       have h1:=bytesOf_len s;have h2:=bytesOf_len s2
       rw [hbr,List.length_cons] at h1;rw [hs2] at h2;omega
      rw [hbr,pTerm] at hW
      cbv
      refine Hw _ _ _ ?_
      intro q hq
      obtain rfl:q=Int.ofNat b:=by rw [hq];exact wrap_in (by simp<;>omega) (by simp<;>omega)
      cbv
      refine Hc _ _ _ _ ?_
      rintro(_|_) hk1<;>cbv
      ·refine Hc _ _ _ _ ?_
       rintro(_|_) hk2<;>cbv
       ·refine Hc _ _ _ _ ?_
        rintro(_|_) hk3<;>cbv
        ·refine Hc _ _ _ _ ?_
         rintro(_|_) hk4<;>cbv
         ·refine Hc _ _ _ _ ?_
          rintro(_|_) hk5<;>cbv
          ·refine Hc _ _ _ _ ?_
           rintro(_|_) hk6<;>cbv
           ·have hfin:W=none:=by
             simp [cmp0] at hk1 hk2 hk3 hk4 hk5 hk6
             rw [hW,if_neg (by omega),if_neg (by omega),if_neg (by omega),if_neg (by omega),if_neg (by omega)]
            refine hN _ _ rfl (PanicR.sub hF (τ:=tauF []) (n2:=2) (hl:=[(0,.ro calcAVs)]) (hsub_mk (τ:=tauF []) hpl rfl) (fun i hi=>tauF_lt rfl hi) (Nat.le_of_ble_eq_true rfl) rfl (.refl _) ⟨hfin,rfl,rfl,rfl⟩)
           ·have hb:b=6:=by simp [cmp0] at hk6;omega
            subst hb
            clear hk1 hk2 hk3 hk4 hk5 hk6
            rw [if_neg (by decide),if_neg (by decide),if_neg (by decide),if_neg (by decide),if_pos rfl] at hW
            refine Hk _ _ _ _ _ _ _ ?_
            refine CallZ.of (tauF []) (n:=2) (l0:=[(0,.ro calcAVs),(1,.cells [.val (.string s2),.val (.int .i64 (Int.ofNat e))] 0)]) call38 (rnumber s2 (Int.ofNat e) B) hpl rfl rfl rfl (gsT rfl rfl) rfl rfl ?_ ?_
            ·rintro B v hp' n' ⟨m,r3,hp,rfl,rfl,rfl,s4,hs4,rfl⟩ _
             refine⟨_,rfl,rfl,?_⟩
             intro hpX hX
             simp only [layR] at hX
             subst hX
             rw [hs2] at hp
             have hsz4:s4.size≤1048576:=by
              have h1:=bytesOf_len s4;have h2:=bytesOf_len s2;have h3:=pNum_len _ _ _ _ hp
              rw [hs4] at h1;rw [hs2] at h2;omega
             cbv
             refine Hc _ _ _ _ ?_
             rintro(_|_) hc<;>cbv
             ·have hm64:¬ 64<m:=by simp [cmp0] at hc;omega
              rw [pParts_rest hp hm64,← hs4] at hW
              clear hc
              refine He _ _ _ _ (CodeF.loop hF (gsLt rfl) (fun x:Bool×Nat×List Tm×List Value×List AV×ByteArray×Nat=>match x.1 with
                | true=>mkS [(0,.ptr 1 0),(1,.val (.int .i64 (Int.ofNat (d+1)))),(4,.ptr 2 0),(5,.ptr 3 0),(76,.val (.int .i64 (Int.ofNat m))),(77,.val (.int .i64 (Int.ofNat x.2.1)))]
                  [(0,.ro calcAVs),(1,.cells [.val (.string x.2.2.2.2.2.1),.val (.int .i64 (Int.ofNat x.2.2.2.2.2.2))] 0),(2,.cells [.int .i64 0,.int .i64 0,.str [],.nsl] 0),(3,.cells [.val (.int .i64 (Int.ofNat 6)),.val (.int .i64 0),.val (.string (strB [])),.nsl] 0)] 5
                | false=>mkS [(0,.ptr 1 0),(1,.val (.int .i64 (Int.ofNat (d+1)))),(4,.ptr 2 0),(5,.ptr 3 0),(76,.val (.int .i64 (Int.ofNat m))),(77,.val (.int .i64 (Int.ofNat x.2.1)))]
                  [(0,.ro calcAVs),(1,.cells [.val (.string x.2.2.2.2.2.1),.val (.int .i64 (Int.ofNat x.2.2.2.2.2.2))] 0),(2,.cells [.int .i64 0,.int .i64 0,.str [],.nsl] 0),(3,.cells [.val (.int .i64 (Int.ofNat 6)),.val (.int .i64 0),.val (.string (strB [])),.sl 4 0 x.2.1 x.2.1 false 4] 0),(4,.cells x.2.2.2.2.1 0)] 5)
               (fun x=>m - x.2.1) (fun x B'=>(∀ k o,B k=some o→B' k=some o)∧TsAt B' x.2.2.1 x.2.2.2.1∧Vs x.2.2.2.2.1 x.2.2.2.1∧x.2.2.1.length=x.2.1∧x.2.1≤m∧(x.1=true→x.2.1=0)∧(x.1=false→0<x.2.1)∧x.2.2.2.2.2.2≤4000∧x.2.2.2.2.2.1.size≤1048576∧W=restP (pTerm d) (Int.ofNat 6) (strB []) x.2.2.1 (m - x.2.1) x.2.2.2.2.2.2 (bytesOf x.2.2.2.2.2.1))
               (true,0,[],[],[],s4,e) ⟨fun _ _ q=>q,rfl,⟨rfl,rfl⟩,rfl,Nat.zero_le _,fun _=>rfl,(fun q=>by cases q),by show e≤4000;omega,hsz4,hW⟩ (fun x=>by obtain⟨_|_,_⟩:=x<;>exact Nat.le_of_ble_eq_true rfl) (subr_mk (τ:=tauF []) rtl hpl rfl rfl) (fun i hi=>tauF_lt rfl hi) ?_)
              clear hW hp hs4 hsz4
              rintro⟨_|_,i,l',vs,c,s',nd'⟩ B' ⟨hle,hts,hvs,Hn,hi,hn1,hn2,hnd',hs',hW⟩
              ·simp only at hle hts hvs Hn hi hn1 hn2 hnd' hs' hW
               have hi0:0<i:=hn2 trivial
               clear hn1 hn2
               have hvl:=hts.len
               refine CodeF.sy prog_okZ ?_
               intro _ _ _ _ _ _ _ _ _ _ _ _ _ Hc2 Hs2 Ha2 Hw2 Hd2 Ho2 Hl2 Hn2 Hi2 Hv2 Hz2 Hk2 He2
               cbv
               refine Hc2 _ _ _ _ ?_
               rintro(_|_) h1<;>cbv
               ·have hge:i=m:=by have:¬ (i:Int)<m:=by simpa [cmp0] using h1
                                 omega
                rw [hge,Nat.sub_self,restP_zero] at hW
                (with_reducible refine hQ _ _ _ rfl rfl ?_);refine⟨_,rfl,?_⟩
                refine ExitR.freeze (xs:=[.val (.int .i64 (Int.ofNat 6)),.val (.int .i64 0),.val (.string (strB []))]) (id:=4) rfl hvs (by intro q;rw [q] at hvl;simp at hvl;omega) (by omega) ?_ ?_
                ·intro j o hj ho
                 have:=mkT_get (show(mkT [(0,.ro calcAVs),(1,.cells [.val (.string s),.val (.int .i64 (Int.ofNat (e+1)))] 0)]).get j=some o from hj)
                 simp only [List.mem_cons,Prod.mk.injEq,List.not_mem_nil,or_false] at this
                 rcases this with⟨rfl,rfl⟩|⟨rfl,rfl⟩
                 ·exact⟨by decide,_,rfl⟩
                 ·exact⟨by decide,_,rfl⟩
                ·intro B2 b o cp2 hle2 hcells
                 refine ExitR.sub hF (τ:=tauF []) (n2:=2) (hl:=[(0,.ro calcAVs),(1,.cells [.val (.string s'),.val (.int .i64 (Int.ofNat nd'))] 0)]) (v2:=.agg ([.int .i64 (Int.ofNat 6),.int .i64 0,.string (strB []),.slice (some ⟨b,o,none⟩) i cp2].map AV.val)) (hsub_mk (τ:=tauF []) hpl rfl) (fun i hi=>tauF_lt rfl hi) (Nat.le_of_ble_eq_true rfl) (gsLt rfl) rfl (.refl _) (.done ?_)
                 exact⟨_,nd',_,s',hW,fun k x q=>hle2 k x (hle k x q),TmAt.mk' ⟨Hn.symm,by omega,.inr ⟨b,o,rfl,(hts.mono hle2).el hcells⟩⟩ (by decide),rfl,rfl,rfl⟩
               ·have hlt:i<m:=by have:(i:Int)<m:=by simpa [cmp0] using h1
                                 omega
                obtain⟨kk,hkk⟩:∃ kk,m - i=kk+1:=⟨m - i - 1,by omega⟩
                rw [hkk] at hW
                refine He2 _ _ _ _ (CodeF.sub hF (τ:=tauF []) (subr_mk (τ:=tauF []) rtl hpl rfl rfl) (fun i hi=>tauF_lt rfl hi) (Nat.le_of_ble_eq_true rfl) (gsLt rfl) (part39o hs' hnd' (by omega) (fun B=>ih (by omega) s' nd' hs' hnd' B) rfl hvs (by rw [hvl,Hn]) (by omega) ?_ ?_))
                ·rintro s'' B'' ⟨k2,n2,u2,l2,a2,m2,c2,s5,nd2,dd,j,⟨hW1,hle1,hta⟩,hdd,rfl,rfl⟩
                 have hlen5:=pTerm_len d _ _ _ _ _ hW1
                 rw [restP_some hW1] at hW
                 cbv
                 refine Ha2 _ _ _ _ _ ?_
                 rintro q rfl
                 rw [ar0_suc (by omega)]
                 cbv
                 refine⟨(false,i+1,l'++[.mk k2 n2 u2 l2],vs++_,dd,s5,nd2),tauF [(4,6)],?_,⟨fun k x q=>hle1 k x (hle k x q),TsAt.snoc hta (hts.mono hle1),hdd,?_,?_,(fun q=>by cases q),(fun _=>by show 0<i+1;omega),?_,?_,?_⟩,(subr_mk (τ:=tauF [(4,6)]) rtl hpl rfl rfl),fun i hi=>tauF_lt rfl hi⟩
                 ·simp only;omega
                 ·simp only [List.length_append,List.length_singleton];omega
                 ·simp only;omega
                 ·simp only;omega
                 ·have h1:=bytesOf_len s5;have h2:=bytesOf_len s';simp only;omega
                 ·simp only;rw [hW,show m - (i+1)=kk by omega]
                ·rintro v st hW1 hdf rfl h0
                 have hfin:W=none:=by rw [hW,restP_none hW1]
                 refine hN _ _ hdf (PanicR.sub hF (τ:=tauF []) (n2:=2) (hl:=[(0,.ro calcAVs)]) (hsub_mk ⟨⟨rfl,rfl,rfl,_,h0,.refl _⟩,trivial⟩ rfl) (fun i hi=>tauF_lt rfl hi) (Nat.le_of_ble_eq_true rfl) rfl (.refl _) ⟨hfin,rfl,rfl,rfl⟩)
              ·simp only at hle hts hvs Hn hi hn1 hn2 hnd' hs' hW
               have hi0:i=0:=hn1 trivial
               clear hn1 hn2
               have hvl:=hts.len
               obtain rfl:l'=[]:=by rw [← List.length_eq_zero_iff];omega
               have hts:vs=[]:=hts
               subst hts
               refine CodeF.sy prog_okZ ?_
               intro _ _ _ _ _ _ _ _ _ _ _ _ _ Hc2 Hs2 Ha2 Hw2 Hd2 Ho2 Hl2 Hn2 Hi2 Hv2 Hz2 Hk2 He2
               cbv
               refine Hc2 _ _ _ _ ?_
               rintro(_|_) h1<;>cbv
               ·have hge:i=m:=by have:¬ (i:Int)<m:=by simpa [cmp0] using h1
                                 omega
                rw [hge,Nat.sub_self,restP_zero] at hW
                (with_reducible refine hQ _ _ _ rfl rfl ?_);refine⟨_,rfl,?_⟩
                refine ExitR.sub hF (τ:=tauF []) (n2:=2) (hl:=[(0,.ro calcAVs),(1,.cells [.val (.string s'),.val (.int .i64 (Int.ofNat nd'))] 0)]) (v2:=.agg ([.int .i64 (Int.ofNat 6),.int .i64 0,.string (strB []),.slice none 0 0].map AV.val)) (hsub_mk (τ:=tauF []) hpl rfl) (fun i hi=>tauF_lt rfl hi) (Nat.le_of_ble_eq_true rfl) (gsLt rfl) rfl (.agg (by repeat'(first|exact .nil|refine .cons ?_ ?_|exact .refl _|exact .val _ rfl rfl))) (.done ?_)
                exact⟨_,nd',_,s',hW,hle,TmAt.mk' ⟨rfl,by decide,.inl rfl⟩ (by decide),rfl,rfl,rfl⟩
               ·have hlt:i<m:=by have:(i:Int)<m:=by simpa [cmp0] using h1
                                 omega
                obtain⟨kk,hkk⟩:∃ kk,m - i=kk+1:=⟨m - i - 1,by omega⟩
                rw [hkk] at hW
                refine He2 _ _ _ _ (CodeF.sub hF (τ:=tauF []) (subr_mk (τ:=tauF []) rtl hpl rfl rfl) (fun i hi=>tauF_lt rfl hi) (Nat.le_of_ble_eq_true rfl) (gsLt rfl) (part39 hs' hnd' (by omega) (fun B=>ih (by omega) s' nd' hs' hnd' B) rfl hi0 (vs:=[]) rfl ?_ ?_))
                ·rintro s'' B'' ⟨k2,n2,u2,l2,a2,m2,c2,s5,nd2,dd,j,⟨hW1,hle1,hta⟩,hdd,rfl,rfl⟩
                 have hlen5:=pTerm_len d _ _ _ _ _ hW1
                 rw [restP_some hW1] at hW
                 cbv
                 refine Ha2 _ _ _ _ _ ?_
                 rintro q rfl
                 rw [ar0_suc (by omega)]
                 cbv
                 refine⟨(false,i+1,[.mk k2 n2 u2 l2],_,dd,s5,nd2),tauF [(4,6)],?_,⟨fun k x q=>hle1 k x (hle k x q),⟨_,[],(List.append_nil _).symm,hta,rfl⟩,hdd,?_,?_,(fun q=>by cases q),(fun _=>by show 0<i+1;omega),?_,?_,?_⟩,(subr_mk (τ:=tauF [(4,6)]) rtl hpl rfl rfl),fun i hi=>tauF_lt rfl hi⟩
                 ·simp only;omega
                 ·simp only [List.length_singleton];omega
                 ·simp only;omega
                 ·simp only;omega
                 ·have h1:=bytesOf_len s5;have h2:=bytesOf_len s';simp only;omega
                 ·simp only;rw [hW,show m - (i+1)=kk by omega];rfl
                ·rintro v st hW1 hdf rfl h0
                 have hfin:W=none:=by rw [hW,restP_none hW1]
                 refine hN _ _ hdf (PanicR.sub hF (τ:=tauF []) (n2:=2) (hl:=[(0,.ro calcAVs)]) (hsub_mk ⟨⟨rfl,rfl,rfl,_,h0,.refl _⟩,trivial⟩ rfl) (fun i hi=>tauF_lt rfl hi) (Nat.le_of_ble_eq_true rfl) rfl (.refl _) ⟨hfin,rfl,rfl,rfl⟩)
             ·have hm64:64<m:=by simp [cmp0] at hc;omega
              have hfin:W=none:=by rw [hW,pParts,hp];simp only;rw [if_pos hm64]
              refine hN _ _ rfl (PanicR.sub hF (τ:=tauF []) (n2:=2) (hl:=[(0,.ro calcAVs)]) (hsub_mk (τ:=tauF []) hpl rfl) (fun i hi=>tauF_lt rfl hi) (Nat.le_of_ble_eq_true rfl) rfl (.refl _) ⟨hfin,rfl,rfl,rfl⟩)
            ·rintro v hp' n' ⟨hbr,rfl,rfl,rfl⟩ _
             refine⟨_,rfl,rfl,?_⟩
             intro hpX hX
             simp only [layR] at hX
             subst hX
             rw [hs2] at hbr
             have hfin:W=none:=by rw [hW,pParts,hbr]
             cbv
             refine hN _ _ rfl (PanicR.sub hF (τ:=tauF []) (n2:=2) (hl:=[(0,.ro calcAVs)]) (hsub_mk (τ:=tauF []) hpl rfl) (fun i hi=>tauF_lt rfl hi) (Nat.le_of_ble_eq_true rfl) rfl (.refl _) ⟨hfin,rfl,rfl,rfl⟩)
          ·have hb:b=5:=by simp [cmp0] at hk5;omega
           subst hb
           clear hk1 hk2 hk3 hk4 hk5
           rw [if_neg (by decide),if_neg (by decide),if_neg (by decide),if_pos rfl] at hW
           refine Hk _ _ _ _ _ _ _ ?_
           refine CallZ.of (tauF []) (n:=2) (l0:=[(0,.ro calcAVs),(1,.cells [.val (.string s2),.val (.int .i64 (Int.ofNat e))] 0)]) call79 (rtextR s2 (Int.ofNat e) hsz2 B) hpl rfl rfl rfl (gsT rfl rfl) rfl rfl ?_ ?_
           ·rintro B v hp' n' ⟨u,r2,hpt,rfl,rfl,rfl,s3,hs3,rfl⟩ _
            refine⟨_,rfl,rfl,?_⟩
            intro hpX hX
            simp only [layR] at hX
            subst hX
            rw [hs2] at hpt
            rw [hpt] at hW
            simp only at hW
            rw [str_eq] at hW
            have hul:=pText_len hpt
            have hus:u.size≤1048576:=by
             rw [bytesOf_len] at hul
             have:=bytesOf_len s2;rw [hs2] at this;omega
            have hsz3:s3.size≤1048576:=by
             have h1:=bytesOf_len s2;have h2:=bytesOf_len s3
             rw [hs2] at h1;rw [hs3] at h2;omega
            cbv
            refine Hk _ _ _ _ _ _ _ ?_
            refine CallZ.of (tauF []) (n:=2) (l0:=[(0,.ro calcAVs),(1,.cells [.val (.string s3),.val (.int .i64 (Int.ofNat e))] 0)]) call38 (rnumber s3 (Int.ofNat e) B) hpl rfl rfl rfl (gsT rfl rfl) rfl rfl ?_ ?_
            ·rintro B v hp' n' ⟨m,r3,hp,rfl,rfl,rfl,s4,hs4,rfl⟩ _
             refine⟨_,rfl,rfl,?_⟩
             intro hpX hX
             simp only [layR] at hX
             subst hX
             rw [hs3] at hp
             have hsz4:s4.size≤1048576:=by
              have h1:=bytesOf_len s4;have h2:=bytesOf_len s3;have h3:=pNum_len _ _ _ _ hp
              rw [hs4] at h1;rw [hs3] at h2;omega
             cbv
             refine Hc _ _ _ _ ?_
             rintro(_|_) hc<;>cbv
             ·have hm64:¬ 64<m:=by simp [cmp0] at hc;omega
              rw [pParts_rest hp hm64,← hs4] at hW
              clear hc
              refine He _ _ _ _ (CodeF.loop hF (gsLt rfl) (fun x:Bool×Nat×List Tm×List Value×List AV×ByteArray×Nat=>match x.1 with
                | true=>mkS [(0,.ptr 1 0),(1,.val (.int .i64 (Int.ofNat (d+1)))),(4,.ptr 2 0),(5,.ptr 3 0),(76,.val (.int .i64 (Int.ofNat m))),(77,.val (.int .i64 (Int.ofNat x.2.1)))]
                  [(0,.ro calcAVs),(1,.cells [.val (.string x.2.2.2.2.2.1),.val (.int .i64 (Int.ofNat x.2.2.2.2.2.2))] 0),(2,.cells [.int .i64 0,.int .i64 0,.str [],.nsl] 0),(3,.cells [.val (.int .i64 (Int.ofNat 5)),.val (.int .i64 0),.val (.string u),.nsl] 0)] 5
                | false=>mkS [(0,.ptr 1 0),(1,.val (.int .i64 (Int.ofNat (d+1)))),(4,.ptr 2 0),(5,.ptr 3 0),(76,.val (.int .i64 (Int.ofNat m))),(77,.val (.int .i64 (Int.ofNat x.2.1)))]
                  [(0,.ro calcAVs),(1,.cells [.val (.string x.2.2.2.2.2.1),.val (.int .i64 (Int.ofNat x.2.2.2.2.2.2))] 0),(2,.cells [.int .i64 0,.int .i64 0,.str [],.nsl] 0),(3,.cells [.val (.int .i64 (Int.ofNat 5)),.val (.int .i64 0),.val (.string u),.sl 4 0 x.2.1 x.2.1 false 4] 0),(4,.cells x.2.2.2.2.1 0)] 5)
               (fun x=>m - x.2.1) (fun x B'=>(∀ k o,B k=some o→B' k=some o)∧TsAt B' x.2.2.1 x.2.2.2.1∧Vs x.2.2.2.2.1 x.2.2.2.1∧x.2.2.1.length=x.2.1∧x.2.1≤m∧(x.1=true→x.2.1=0)∧(x.1=false→0<x.2.1)∧x.2.2.2.2.2.2≤4000∧x.2.2.2.2.2.1.size≤1048576∧W=restP (pTerm d) (Int.ofNat 5) u x.2.2.1 (m - x.2.1) x.2.2.2.2.2.2 (bytesOf x.2.2.2.2.2.1))
               (true,0,[],[],[],s4,e) ⟨fun _ _ q=>q,rfl,⟨rfl,rfl⟩,rfl,Nat.zero_le _,fun _=>rfl,(fun q=>by cases q),by show e≤4000;omega,hsz4,hW⟩ (fun x=>by obtain⟨_|_,_⟩:=x<;>exact Nat.le_of_ble_eq_true rfl) (subr_mk (τ:=tauF []) rtl hpl rfl rfl) (fun i hi=>tauF_lt rfl hi) ?_)
              clear hW hp hs4 hsz4
              rintro⟨_|_,i,l',vs,c,s',nd'⟩ B' ⟨hle,hts,hvs,Hn,hi,hn1,hn2,hnd',hs',hW⟩
              ·simp only at hle hts hvs Hn hi hn1 hn2 hnd' hs' hW
               have hi0:0<i:=hn2 trivial
               clear hn1 hn2
               have hvl:=hts.len
               refine CodeF.sy prog_okZ ?_
               intro _ _ _ _ _ _ _ _ _ _ _ _ _ Hc2 Hs2 Ha2 Hw2 Hd2 Ho2 Hl2 Hn2 Hi2 Hv2 Hz2 Hk2 He2
               cbv
               refine Hc2 _ _ _ _ ?_
               rintro(_|_) h1<;>cbv
               ·have hge:i=m:=by have:¬ (i:Int)<m:=by simpa [cmp0] using h1
                                 omega
                rw [hge,Nat.sub_self,restP_zero] at hW
                (with_reducible refine hQ _ _ _ rfl rfl ?_);refine⟨_,rfl,?_⟩
                refine ExitR.freeze (xs:=[.val (.int .i64 (Int.ofNat 5)),.val (.int .i64 0),.val (.string u)]) (id:=4) rfl hvs (by intro q;rw [q] at hvl;simp at hvl;omega) (by omega) ?_ ?_
                ·intro j o hj ho
                 have:=mkT_get (show(mkT [(0,.ro calcAVs),(1,.cells [.val (.string s),.val (.int .i64 (Int.ofNat (e+1)))] 0)]).get j=some o from hj)
                 simp only [List.mem_cons,Prod.mk.injEq,List.not_mem_nil,or_false] at this
                 rcases this with⟨rfl,rfl⟩|⟨rfl,rfl⟩
                 ·exact⟨by decide,_,rfl⟩
                 ·exact⟨by decide,_,rfl⟩
                ·intro B2 b o cp2 hle2 hcells
                 refine ExitR.sub hF (τ:=tauF []) (n2:=2) (hl:=[(0,.ro calcAVs),(1,.cells [.val (.string s'),.val (.int .i64 (Int.ofNat nd'))] 0)]) (v2:=.agg ([.int .i64 (Int.ofNat 5),.int .i64 0,.string u,.slice (some ⟨b,o,none⟩) i cp2].map AV.val)) (hsub_mk (τ:=tauF []) hpl rfl) (fun i hi=>tauF_lt rfl hi) (Nat.le_of_ble_eq_true rfl) (gsLt rfl) rfl (.refl _) (.done ?_)
                 exact⟨_,nd',_,s',hW,fun k x q=>hle2 k x (hle k x q),TmAt.mk' ⟨Hn.symm,by omega,.inr ⟨b,o,rfl,(hts.mono hle2).el hcells⟩⟩ (by exact hus),rfl,rfl,rfl⟩
               ·have hlt:i<m:=by have:(i:Int)<m:=by simpa [cmp0] using h1
                                 omega
                obtain⟨kk,hkk⟩:∃ kk,m - i=kk+1:=⟨m - i - 1,by omega⟩
                rw [hkk] at hW
                refine He2 _ _ _ _ (CodeF.sub hF (τ:=tauF []) (subr_mk (τ:=tauF []) rtl hpl rfl rfl) (fun i hi=>tauF_lt rfl hi) (Nat.le_of_ble_eq_true rfl) (gsLt rfl) (part39o hs' hnd' (by omega) (fun B=>ih (by omega) s' nd' hs' hnd' B) rfl hvs (by rw [hvl,Hn]) (by omega) ?_ ?_))
                ·rintro s'' B'' ⟨k2,n2,u2,l2,a2,m2,c2,s5,nd2,dd,j,⟨hW1,hle1,hta⟩,hdd,rfl,rfl⟩
                 have hlen5:=pTerm_len d _ _ _ _ _ hW1
                 rw [restP_some hW1] at hW
                 cbv
                 refine Ha2 _ _ _ _ _ ?_
                 rintro q rfl
                 rw [ar0_suc (by omega)]
                 cbv
                 refine⟨(false,i+1,l'++[.mk k2 n2 u2 l2],vs++_,dd,s5,nd2),tauF [(4,6)],?_,⟨fun k x q=>hle1 k x (hle k x q),TsAt.snoc hta (hts.mono hle1),hdd,?_,?_,(fun q=>by cases q),(fun _=>by show 0<i+1;omega),?_,?_,?_⟩,(subr_mk (τ:=tauF [(4,6)]) rtl hpl rfl rfl),fun i hi=>tauF_lt rfl hi⟩
                 ·simp only;omega
                 ·simp only [List.length_append,List.length_singleton];omega
                 ·simp only;omega
                 ·simp only;omega
                 ·have h1:=bytesOf_len s5;have h2:=bytesOf_len s';simp only;omega
                 ·simp only;rw [hW,show m - (i+1)=kk by omega]
                ·rintro v st hW1 hdf rfl h0
                 have hfin:W=none:=by rw [hW,restP_none hW1]
                 refine hN _ _ hdf (PanicR.sub hF (τ:=tauF []) (n2:=2) (hl:=[(0,.ro calcAVs)]) (hsub_mk ⟨⟨rfl,rfl,rfl,_,h0,.refl _⟩,trivial⟩ rfl) (fun i hi=>tauF_lt rfl hi) (Nat.le_of_ble_eq_true rfl) rfl (.refl _) ⟨hfin,rfl,rfl,rfl⟩)
              ·simp only at hle hts hvs Hn hi hn1 hn2 hnd' hs' hW
               have hi0:i=0:=hn1 trivial
               clear hn1 hn2
               have hvl:=hts.len
               obtain rfl:l'=[]:=by rw [← List.length_eq_zero_iff];omega
               have hts:vs=[]:=hts
               subst hts
               refine CodeF.sy prog_okZ ?_
               intro _ _ _ _ _ _ _ _ _ _ _ _ _ Hc2 Hs2 Ha2 Hw2 Hd2 Ho2 Hl2 Hn2 Hi2 Hv2 Hz2 Hk2 He2
               cbv
               refine Hc2 _ _ _ _ ?_
               rintro(_|_) h1<;>cbv
               ·have hge:i=m:=by have:¬ (i:Int)<m:=by simpa [cmp0] using h1
                                 omega
                rw [hge,Nat.sub_self,restP_zero] at hW
                (with_reducible refine hQ _ _ _ rfl rfl ?_);refine⟨_,rfl,?_⟩
                refine ExitR.sub hF (τ:=tauF []) (n2:=2) (hl:=[(0,.ro calcAVs),(1,.cells [.val (.string s'),.val (.int .i64 (Int.ofNat nd'))] 0)]) (v2:=.agg ([.int .i64 (Int.ofNat 5),.int .i64 0,.string u,.slice none 0 0].map AV.val)) (hsub_mk (τ:=tauF []) hpl rfl) (fun i hi=>tauF_lt rfl hi) (Nat.le_of_ble_eq_true rfl) (gsLt rfl) rfl (.agg (by repeat'(first|exact .nil|refine .cons ?_ ?_|exact .refl _|exact .val _ rfl rfl))) (.done ?_)
                exact⟨_,nd',_,s',hW,hle,TmAt.mk' ⟨rfl,by decide,.inl rfl⟩ (by exact hus),rfl,rfl,rfl⟩
               ·have hlt:i<m:=by have:(i:Int)<m:=by simpa [cmp0] using h1
                                 omega
                obtain⟨kk,hkk⟩:∃ kk,m - i=kk+1:=⟨m - i - 1,by omega⟩
                rw [hkk] at hW
                refine He2 _ _ _ _ (CodeF.sub hF (τ:=tauF []) (subr_mk (τ:=tauF []) rtl hpl rfl rfl) (fun i hi=>tauF_lt rfl hi) (Nat.le_of_ble_eq_true rfl) (gsLt rfl) (part39 hs' hnd' (by omega) (fun B=>ih (by omega) s' nd' hs' hnd' B) rfl hi0 (vs:=[]) rfl ?_ ?_))
                ·rintro s'' B'' ⟨k2,n2,u2,l2,a2,m2,c2,s5,nd2,dd,j,⟨hW1,hle1,hta⟩,hdd,rfl,rfl⟩
                 have hlen5:=pTerm_len d _ _ _ _ _ hW1
                 rw [restP_some hW1] at hW
                 cbv
                 refine Ha2 _ _ _ _ _ ?_
                 rintro q rfl
                 rw [ar0_suc (by omega)]
                 cbv
                 refine⟨(false,i+1,[.mk k2 n2 u2 l2],_,dd,s5,nd2),tauF [(4,6)],?_,⟨fun k x q=>hle1 k x (hle k x q),⟨_,[],(List.append_nil _).symm,hta,rfl⟩,hdd,?_,?_,(fun q=>by cases q),(fun _=>by show 0<i+1;omega),?_,?_,?_⟩,(subr_mk (τ:=tauF [(4,6)]) rtl hpl rfl rfl),fun i hi=>tauF_lt rfl hi⟩
                 ·simp only;omega
                 ·simp only [List.length_singleton];omega
                 ·simp only;omega
                 ·simp only;omega
                 ·have h1:=bytesOf_len s5;have h2:=bytesOf_len s';simp only;omega
                 ·simp only;rw [hW,show m - (i+1)=kk by omega];rfl
                ·rintro v st hW1 hdf rfl h0
                 have hfin:W=none:=by rw [hW,restP_none hW1]
                 refine hN _ _ hdf (PanicR.sub hF (τ:=tauF []) (n2:=2) (hl:=[(0,.ro calcAVs)]) (hsub_mk ⟨⟨rfl,rfl,rfl,_,h0,.refl _⟩,trivial⟩ rfl) (fun i hi=>tauF_lt rfl hi) (Nat.le_of_ble_eq_true rfl) rfl (.refl _) ⟨hfin,rfl,rfl,rfl⟩)
             ·have hm64:64<m:=by simp [cmp0] at hc;omega
              have hfin:W=none:=by rw [hW,pParts,hp];simp only;rw [if_pos hm64]
              refine hN _ _ rfl (PanicR.sub hF (τ:=tauF []) (n2:=2) (hl:=[(0,.ro calcAVs)]) (hsub_mk (τ:=tauF []) hpl rfl) (fun i hi=>tauF_lt rfl hi) (Nat.le_of_ble_eq_true rfl) rfl (.refl _) ⟨hfin,rfl,rfl,rfl⟩)
            ·rintro v hp' n' ⟨hbr,rfl,rfl,rfl⟩ _
             refine⟨_,rfl,rfl,?_⟩
             intro hpX hX
             simp only [layR] at hX
             subst hX
             rw [hs3] at hbr
             have hfin:W=none:=by rw [hW,pParts,hbr]
             cbv
             refine hN _ _ rfl (PanicR.sub hF (τ:=tauF []) (n2:=2) (hl:=[(0,.ro calcAVs)]) (hsub_mk (τ:=tauF []) hpl rfl) (fun i hi=>tauF_lt rfl hi) (Nat.le_of_ble_eq_true rfl) rfl (.refl _) ⟨hfin,rfl,rfl,rfl⟩)
           ·rintro v hp' n' ⟨hbr,rfl,rfl,rfl⟩ _
            refine⟨_,rfl,rfl,?_⟩
            intro hpX hX
            simp only [layR] at hX
            subst hX
            rw [hs2] at hbr
            have hfin:W=none:=by rw [hW,hbr]
            cbv
            refine hN _ _ rfl (PanicR.sub hF (τ:=tauF []) (n2:=2) (hl:=[(0,.ro calcAVs)]) (hsub_mk (τ:=tauF []) hpl rfl) (fun i hi=>tauF_lt rfl hi) (Nat.le_of_ble_eq_true rfl) rfl (.refl _) ⟨hfin,rfl,rfl,rfl⟩)
         ·have hb:b=4:=by simp [cmp0] at hk4;omega
          subst hb
          clear hk1 hk2 hk3 hk4
          rw [if_neg (by decide),if_neg (by decide),if_pos (by decide)] at hW
          refine Hk _ _ _ _ _ _ _ ?_
          refine CallZ.of (tauF []) (n:=2) (l0:=[(0,.ro calcAVs),(1,.cells [.val (.string s2),.val (.int .i64 (Int.ofNat e))] 0)]) call79 (rtextR s2 (Int.ofNat e) hsz2 B) hpl rfl rfl rfl (gsT rfl rfl) rfl rfl ?_ ?_
          ·rintro B v hp' n' ⟨u,r2,hp,rfl,rfl,rfl,s3,hs3,rfl⟩ _
           refine⟨_,rfl,rfl,?_⟩
           intro hpX hX
           simp only [layR] at hX
           subst hX
           rw [hs2] at hp
           rw [hp] at hW
           simp only at hW
           rw [← hs3,str_eq] at hW
           have hul:=pText_len hp
           have hus:u.size≤1048576:=by
            rw [bytesOf_len] at hul
            have:=bytesOf_len s2;rw [hs2] at this;omega
           cbv
           (with_reducible refine hQ _ _ _ rfl rfl ?_);refine⟨_,rfl,?_⟩
           refine ExitR.sub hF (τ:=tauF []) (n2:=2) (hl:=[(0,.ro calcAVs),(1,.cells [.val (.string s3),.val (.int .i64 (Int.ofNat e))] 0)]) (v2:=.agg ([.int .i64 (Int.ofNat 4),.int .i64 0,.string u,.slice none 0 0].map AV.val)) (hsub_mk (τ:=tauF []) hpl rfl) (fun i hi=>tauF_lt rfl hi) (Nat.le_of_ble_eq_true rfl) (gsLt rfl) rfl (.agg (by repeat'(first|exact .nil|refine .cons ?_ ?_|exact .refl _|exact .val _ rfl rfl))) (.done ?_)
           exact⟨_,e,_,s3,hW,fun _ _ q=>q,TmAt.mk' ⟨rfl,by decide,.inl rfl⟩ hus,rfl,rfl,rfl⟩
          ·rintro v hp' n' ⟨hbr,rfl,rfl,rfl⟩ _
           refine⟨_,rfl,rfl,?_⟩
           intro hpX hX
           simp only [layR] at hX
           subst hX
           rw [hs2] at hbr
           have hfin:W=none:=by rw [hW,hbr]
           cbv
           refine hN _ _ rfl (PanicR.sub hF (τ:=tauF []) (n2:=2) (hl:=[(0,.ro calcAVs)]) (hsub_mk (τ:=tauF []) hpl rfl) (fun i hi=>tauF_lt rfl hi) (Nat.le_of_ble_eq_true rfl) rfl (.refl _) ⟨hfin,rfl,rfl,rfl⟩)
        ·have hb:b=3:=by simp [cmp0] at hk3;omega
         subst hb
         clear hk1 hk2 hk3
         rw [if_neg (by decide),if_neg (by decide),if_pos (by decide)] at hW
         refine Hk _ _ _ _ _ _ _ ?_
         refine CallZ.of (tauF []) (n:=2) (l0:=[(0,.ro calcAVs),(1,.cells [.val (.string s2),.val (.int .i64 (Int.ofNat e))] 0)]) call79 (rtextR s2 (Int.ofNat e) hsz2 B) hpl rfl rfl rfl (gsT rfl rfl) rfl rfl ?_ ?_
         ·rintro B v hp' n' ⟨u,r2,hp,rfl,rfl,rfl,s3,hs3,rfl⟩ _
          refine⟨_,rfl,rfl,?_⟩
          intro hpX hX
          simp only [layR] at hX
          subst hX
          rw [hs2] at hp
          rw [hp] at hW
          simp only at hW
          rw [← hs3,str_eq] at hW
          have hul:=pText_len hp
          have hus:u.size≤1048576:=by
           rw [bytesOf_len] at hul
           have:=bytesOf_len s2;rw [hs2] at this;omega
          cbv
          (with_reducible refine hQ _ _ _ rfl rfl ?_);refine⟨_,rfl,?_⟩
          refine ExitR.sub hF (τ:=tauF []) (n2:=2) (hl:=[(0,.ro calcAVs),(1,.cells [.val (.string s3),.val (.int .i64 (Int.ofNat e))] 0)]) (v2:=.agg ([.int .i64 (Int.ofNat 3),.int .i64 0,.string u,.slice none 0 0].map AV.val)) (hsub_mk (τ:=tauF []) hpl rfl) (fun i hi=>tauF_lt rfl hi) (Nat.le_of_ble_eq_true rfl) (gsLt rfl) rfl (.agg (by repeat'(first|exact .nil|refine .cons ?_ ?_|exact .refl _|exact .val _ rfl rfl))) (.done ?_)
          exact⟨_,e,_,s3,hW,fun _ _ q=>q,TmAt.mk' ⟨rfl,by decide,.inl rfl⟩ hus,rfl,rfl,rfl⟩
         ·rintro v hp' n' ⟨hbr,rfl,rfl,rfl⟩ _
          refine⟨_,rfl,rfl,?_⟩
          intro hpX hX
          simp only [layR] at hX
          subst hX
          rw [hs2] at hbr
          have hfin:W=none:=by rw [hW,hbr]
          cbv
          refine hN _ _ rfl (PanicR.sub hF (τ:=tauF []) (n2:=2) (hl:=[(0,.ro calcAVs)]) (hsub_mk (τ:=tauF []) hpl rfl) (fun i hi=>tauF_lt rfl hi) (Nat.le_of_ble_eq_true rfl) rfl (.refl _) ⟨hfin,rfl,rfl,rfl⟩)
       ·have hb:b=2:=by simp [cmp0] at hk2;omega
        subst hb
        clear hk1 hk2
        simp only [if_true,show ¬ (2:Nat)=1 by decide,if_false] at hW
        refine Hk _ _ _ _ _ _ _ ?_
        refine CallZ.of (tauF []) (n:=2) (l0:=[(0,.ro calcAVs),(1,.cells [.val (.string s2),.val (.int .i64 (Int.ofNat e))] 0)]) call38 (rnumber s2 (Int.ofNat e) B) hpl rfl rfl rfl (gsT rfl rfl) rfl rfl ?_ ?_
        ·rintro B v hp' n' ⟨n,r2,hp,rfl,rfl,rfl,s3,hs3,rfl⟩ _
         refine⟨_,rfl,rfl,?_⟩
         intro hpX hX
         simp only [layR] at hX
         subst hX
         rw [hs2] at hp
         rw [hp] at hW
         simp only at hW
         have hnb:=pNum_lt _ _ _ _ hp
         cbv
         refine Hz _ _ _ _ (op_quo ctxAt rfl rfl rfl (fun _=>rfl) rfl ?_)
         intro q hq
         obtain⟨h,hh⟩:∃ h,h=n / 2:=⟨_,rfl⟩
         obtain rfl:q=Int.ofNat h:=by rw [hq,hh];exact wrap_in (by show _≤(Int.ofNat (n / 2));simp;omega) (by show(Int.ofNat (n / 2))<_;simp;omega)
         cbv
         refine Hz _ _ _ _ (op_rem ctxAt rfl rfl rfl (fun _=>rfl) rfl ?_)
         intro q hq2
         obtain⟨p,hpp⟩:∃ p,p=n%2:=⟨_,rfl⟩
         obtain rfl:q=Int.ofNat p:=by rw [hq2,hpp];rfl
         clear hq hq2
         cbv
         refine Hc _ _ _ _ ?_
         rintro(_|_) hc<;>cbv
         ·have hodd:¬ n%2=1:=by simp [cmp0] at hc;omega
          rw [if_neg hodd,← hs3,← hh] at hW
          (with_reducible refine hQ _ _ _ rfl rfl ?_);refine⟨_,rfl,?_⟩
          refine ExitR.sub hF (τ:=tauF []) (n2:=2) (hl:=[(0,.ro calcAVs),(1,.cells [.val (.string s3),.val (.int .i64 (Int.ofNat e))] 0)]) (v2:=.agg ([.int .i64 (Int.ofNat 2),.int .i64 (Int.ofNat h),.string (strB []),.slice none 0 0].map AV.val)) (hsub_mk (τ:=tauF []) hpl rfl) (fun i hi=>tauF_lt rfl hi) (Nat.le_of_ble_eq_true rfl) (gsLt rfl) rfl (.agg (by repeat'(first|exact .nil|refine .cons ?_ ?_|exact .refl _|exact .val _ rfl rfl))) (.done ?_)
          exact⟨_,e,_,s3,hW,fun _ _ q=>q,TmAt.mk' ⟨rfl,by decide,.inl rfl⟩ (by decide),rfl,rfl,rfl⟩
         ·have hodd:n%2=1:=by simp [cmp0] at hc;omega
          rw [if_pos hodd,← hs3,← hh] at hW
          have hhb:h<4294967296:=by omega
          refine Hz _ _ _ _ (op_neg ctxAt rfl rfl ?_)
          intro qa hq
          have hqa:qa=-(n:Int):=by rw [hq,wrap_in (by simp<;>omega) (by simp<;>omega)];simp
          clear hq
          cbv
          refine Hz _ _ _ _ (op_quo ctxAt rfl rfl rfl (fun _=>rfl) rfl ?_)
          intro qb hq
          have hqb:qb=-(h:Int):=by
           have:qa.tdiv 2=-(h:Int):=by rw [hqa,hh,Int.neg_tdiv];rfl
           rw [hq,this,wrap_in (by omega) (by omega)]
          clear hq
          cbv
          refine Ha _ _ _ _ _ ?_
          intro q hq
          have hz1 : -9223372036854775808≤-(h:Int) - 1:=by omega
          have hz2 : -(h:Int) - 1<9223372036854775808:=by omega
          have hz3:q=-(h:Int) - 1:=by rw [hq,hqb];exact ar0_sub hz1 hz2
          rw [← hz3] at hW
          clear hq
          cbv
          (with_reducible refine hQ _ _ _ rfl rfl ?_);refine⟨_,rfl,?_⟩
          refine ExitR.sub hF (τ:=tauF []) (n2:=2) (hl:=[(0,.ro calcAVs),(1,.cells [.val (.string s3),.val (.int .i64 (Int.ofNat e))] 0)]) (v2:=.agg ([.int .i64 (Int.ofNat 2),.int .i64 q,.string (strB []),.slice none 0 0].map AV.val)) (hsub_mk (τ:=tauF []) hpl rfl) (fun i hi=>tauF_lt rfl hi) (Nat.le_of_ble_eq_true rfl) (gsLt rfl) rfl (.agg (by repeat'(first|exact .nil|refine .cons ?_ ?_|exact .refl _|exact .val _ rfl rfl))) (.done ?_)
          exact⟨_,e,_,s3,hW,fun _ _ q=>q,TmAt.mk' ⟨rfl,by decide,.inl rfl⟩ (by decide),rfl,rfl,rfl⟩
        ·rintro v hp' n' ⟨hbr,rfl,rfl,rfl⟩ _
         refine⟨_,rfl,rfl,?_⟩
         intro hpX hX
         simp only [layR] at hX
         subst hX
         rw [hs2] at hbr
         have hfin:W=none:=by rw [hW,hbr]
         cbv
         refine hN _ _ rfl (PanicR.sub hF (τ:=tauF []) (n2:=2) (hl:=[(0,.ro calcAVs)]) (hsub_mk (τ:=tauF []) hpl rfl) (fun i hi=>tauF_lt rfl hi) (Nat.le_of_ble_eq_true rfl) rfl (.refl _) ⟨hfin,rfl,rfl,rfl⟩)
      ·have hb:b=1:=by simp [cmp0] at hk1;omega
       subst hb
       clear hk1
       simp only [if_true] at hW
       refine Hk _ _ _ _ _ _ _ ?_
       refine CallZ.of (tauF []) (n:=2) (l0:=[(0,.ro calcAVs),(1,.cells [.val (.string s2),.val (.int .i64 (Int.ofNat e))] 0)]) call38 (rnumber s2 (Int.ofNat e) B) hpl rfl rfl rfl (gsT rfl rfl) rfl rfl ?_ ?_
       ·rintro B v hp' n' ⟨n,r2,hp,rfl,rfl,rfl,s3,hs3,rfl⟩ _
        refine⟨_,rfl,rfl,?_⟩
        intro hpX hX
        simp only [layR] at hX
        subst hX
        rw [hs2] at hp
        rw [hp] at hW
        simp only at hW
        rw [← hs3] at hW
        cbv
        (with_reducible refine hQ _ _ _ rfl rfl ?_);refine⟨_,rfl,?_⟩
        refine ExitR.sub hF (τ:=tauF []) (n2:=2) (hl:=[(0,.ro calcAVs),(1,.cells [.val (.string s3),.val (.int .i64 (Int.ofNat e))] 0)]) (v2:=.agg ([.int .i64 (Int.ofNat 1),.int .i64 (Int.ofNat n),.string (strB []),.slice none 0 0].map AV.val)) (hsub_mk (τ:=tauF []) hpl rfl) (fun i hi=>tauF_lt rfl hi) (Nat.le_of_ble_eq_true rfl) (gsLt rfl) rfl (.agg (by repeat'(first|exact .nil|refine .cons ?_ ?_|exact .refl _|exact .val _ rfl rfl))) (.done ?_)
        exact⟨_,e,_,s3,hW,fun _ _ q=>q,TmAt.mk' ⟨rfl,by decide,.inl rfl⟩ (by decide),rfl,rfl,rfl⟩
       ·rintro v hp' n' ⟨hbr,rfl,rfl,rfl⟩ _
        refine⟨_,rfl,rfl,?_⟩
        intro hpX hX
        simp only [layR] at hX
        subst hX
        rw [hs2] at hbr
        have hfin:W=none:=by rw [hW,hbr]
        cbv
        refine hN _ _ rfl (PanicR.sub hF (τ:=tauF []) (n2:=2) (hl:=[(0,.ro calcAVs)]) (hsub_mk (τ:=tauF []) hpl rfl) (fun i hi=>tauF_lt rfl hi) (Nat.le_of_ble_eq_true rfl) rfl (.refl _) ⟨hfin,rfl,rfl,rfl⟩)
     ·rintro v hp' n' ⟨hbr,rfl,rfl,rfl⟩ _
      refine⟨_,rfl,rfl,?_⟩
      intro hpX hX
      simp only [layR] at hX
      subst hX
      have hfin:W=none:=by rw [hW,hbr];rfl
      cbv
      refine hN _ _ rfl (PanicR.sub hF (τ:=tauF []) (n2:=2) (hl:=[(0,.ro calcAVs)]) (hsub_mk (τ:=tauF []) hpl rfl) (fun i hi=>tauF_lt rfl hi) (Nat.le_of_ble_eq_true rfl) rfl (.refl _) ⟨hfin,rfl,rfl,rfl⟩)
    ·simp [cmp0] at h2;omega
   ·simp [cmp0] at h1;omega
end Go.Proofs.YtaacpiniakmpbaaGreatDoor
