/- How the reference reads bytes, numbers and texts. -/
import Derived.Test.YtaacpiniakmpbaaGreatDoorU1
namespace Go.Proofs.YtaacpiniakmpbaaGreatDoor
open Go Ev Tryz
set_option linter.unusedSimpArgs false
set_option linter.unusedVariables false
set_option maxHeartbeats 4000000
set_option maxRecDepth 10000
def tNum:Nat→Nat→Nat→List Nat→Option (Nat×List Nat)
 | 0,_,_,_=>none
 | _+1,_,_,[]=>none
 | k+1,i,n,b::r=>if b<128 then some (n+b%128*128 ^ i,r) else tNum k (i+1) (n+b%128*128 ^ i) r
theorem tNum_len:∀ (k i n:Nat) (bs:List Nat) {m:Nat} {r:List Nat},tNum k i n bs=some (m,r)→r.length<bs.length
 | 0,_,_,_,_,_,h=>by simp [tNum] at h
 | _+1,_,_,[],_,_,h=>by simp [tNum] at h
 | k+1,i,n,b::t,m,r,h=>by
  rw [tNum] at h
  split at h
  ·cases h;simp
  ·have:=tNum_len k _ _ t h;simp;omega
def TookN (B:Base) (s:ByteArray) (a:Nat) (ok:Bool) (W:Option (Nat×List Nat)) (B':Base) (v:AV) (hp:T Ev.Obj) (n':Nat):Prop :=
 B'=B∧n'=2∧∃ n a' ok',v=.val (.int .i64 (Int.ofNat n))∧n<34359738368∧a'≤s.size∧a≤a'∧hp=mkT [(0,.ro calcAVs),(1,.cells [.val (.string s),.val (.int .i64 (Int.ofNat a')),.bool ok'] 0)] ∧
  ((W=some (n,(bytesOf s).drop a')∧ok'=ok)∨(W=none∧ok'=false∧n=0))
theorem ar0_addB {a b:Nat} (h:a+b<4611686018427387904):ar0 .add .i64 (Int.ofNat a) (Int.ofNat b)=Int.ofNat (a+b):=by
 rw [ar0_add (by simp<;>omega) (by simp<;>omega)];simp
theorem tnum {s:ByteArray} (hs:s.size≤1048576) {a:Nat} (ha:a≤s.size) (ok:Bool) (B:Base):CallG Tryz.prog ctxZ B 40 [.ptr 1 0] (mkT [(0,.ro calcAVs),(1,.cells [.val (.string s),.val (.int .i64 (Int.ofNat a)),.bool ok] 0)]).get 2
   (fun B' v H n'=>∃ hp,H=T.get hp∧TookN B s a ok (tNum 5 0 0 ((bytesOf s).drop a)) B' v hp n') (fun v H n'=>∃ hp,H=T.get hp∧False):=by
 refine CallG.body prog_okZ func40 rfl ?_
 rintro⟨φ0,H0,_,w0,B⟩ hF rfl rfl rfl Q N hQ hN
 obtain⟨W,hW⟩:∃ W,W=tNum 5 0 0 ((bytesOf s).drop a):=⟨_,rfl⟩
 rw [← hW] at hQ
 have hbl:=bytesOf_len s
 refine CodeF.sy prog_okZ ?_
 intro _ _ _ _ _ _ _ _ _ _ _ _ _ Hc Hs Ha Hw Hd Ho Hl Hn Hi Hv Hz Hk He
 cbv
 refine He _ _ _ _ (CodeF.loop hF (gsLt rfl) (fun x:Nat×Nat×Nat×Nat=>mkS [(0,.ptr 1 0),(3,.val (.int .i64 (Int.ofNat x.2.1))),(4,.val (.int .i64 (Int.ofNat x.2.2.2))),(5,.val (.int .i64 (Int.ofNat x.1)))] [(0,.ro calcAVs),(1,.cells [.val (.string s),.val (.int .i64 (Int.ofNat x.2.2.1)),.bool ok] 0)] 2)
  (fun x=>5 - x.1) (fun x B'=>B'=B∧x.1≤5∧x.2.1<128 ^ x.1∧x.2.2.2=128 ^ x.1∧x.2.2.1≤s.size∧a≤x.2.2.1∧W=tNum (5 - x.1) x.1 x.2.1 ((bytesOf s).drop x.2.2.1)) (0,0,a,1) ⟨rfl,Nat.zero_le _,Nat.zero_lt_one,rfl,ha,Nat.le_refl _,hW⟩ (fun _=>Nat.le_of_ble_eq_true rfl) (subr_mk (τ:=tauF []) rtl hpl rfl rfl) (fun i hi=>tauF_lt rfl hi) ?_)
 rintro⟨i,n,a',un⟩ B' ⟨hB,hi,hn,hun,ha',haa,hW'⟩
 simp only at hB hi hn hun ha' haa hW'
 clear hW
 subst hB
 refine CodeF.sy prog_okZ ?_
 intro _ _ _ _ _ _ _ _ _ _ _ _ _ Hc2 Hs2 Ha2 Hw2 Hd2 Ho2 Hl2 Hn2 Hi2 Hv2 Hz2 Hk2 He2
 cbv
 refine Hc2 _ _ _ _ ?_
 rintro(_|_) h1<;>cbv
 ·have h5:i=5:=by have:¬ (i:Int)<5:=by simpa [cmp0] using h1
                  omega
  subst h5
  have hfin:W=none:=by rw [hW'];rfl
  (with_reducible refine hQ _ _ _ rfl rfl ?_);refine⟨_,rfl,?_⟩
  refine ExitR.sub hF (τ:=tauF []) (n2:=2) (hl:=[(0,.ro calcAVs),(1,.cells [.val (.string s),.val (.int .i64 (Int.ofNat a')),.bool false] 0)]) (v2:=.val (.int .i64 (Int.ofNat 0))) (hsub_mk (τ:=tauF []) hpl rfl) (fun i hi=>tauF_lt rfl hi) (Nat.le_of_ble_eq_true rfl) (gsLt rfl) rfl (.val _ rfl rfl) (.done ?_)
  exact⟨rfl,rfl,0,a',false,rfl,by decide,ha',haa,rfl,.inr ⟨hfin,rfl,rfl⟩⟩
 ·have h5:i<5:=by have:(i:Int)<5:=by simpa [cmp0] using h1
                  omega
  obtain⟨k,hk⟩:∃ k,5 - i=k+1:=⟨4 - i,by omega⟩
  rw [hk] at hW'
  refine Hn2 _ _ _ _ (len_stZ ?_)
  intro z hz
  cbv
  refine Hc2 _ _ _ _ ?_
  rintro(_|_) h2<;>cbv
  ·have hlt:a'<s.size:=by simp [cmp0] at h2;omega
   obtain⟨b,hb⟩:∃ b,(bytesOf s)[a']?=some b:=⟨_,List.getElem?_eq_getElem (by omega)⟩
   rw [drop_get hb,tNum] at hW'
   have hb256:b<256:=by
    have:=List.all_eq_true.1 (bytes_lt s) b (List.mem_of_getElem? hb)
    simpa [Nat.blt_eq] using this
   refine Hz2 _ _ _ _ (idx_str ctxAt rfl (by decide) rfl rfl rfl rfl hb ?_)
   cbv
   refine Hw2 _ _ _ ?_
   intro q hq
   obtain rfl:q=Int.ofNat b:=by rw [hq];exact wrap_in (by simp<;>omega) (by simp<;>omega)
   cbv
   refine Ha2 _ _ _ _ _ ?_
   rintro q rfl
   rw [ar0_suc (by omega)]
   cbv
   refine Hz2 _ _ _ _ (op_rem ctxAt rfl rfl rfl (fun _=>rfl) rfl ?_)
   intro q hq2
   obtain⟨x,hx⟩:∃ x,x=b%128:=⟨_,rfl⟩
   have hx128:x<128:=by omega
   obtain rfl:q=Int.ofNat x:=by rw [hq2,hx];rfl
   rw [← hx] at hW'
   have hp:128 ^ i≤128 ^ 4:=Nat.pow_le_pow_right (by decide) (by omega)
   have hm:x*128 ^ i≤127*128 ^ i:=Nat.mul_le_mul_right _ (by omega)
   have hp4:128 ^ 4=268435456:=by decide
   rw [← hun] at hn hp hm hW'
   clear hq hq2 hx
   cbv
   refine Ha2 _ _ _ _ _ ?_
   intro q hq
   obtain⟨y,hy⟩:∃ y,y=x*un:=⟨_,rfl⟩
   rw [← hy] at hW' hm
   obtain rfl:q=Int.ofNat y:=by
    rw [hq,hy]
    have:(Int.ofNat x*Int.ofNat un:Int)=Int.ofNat (x*un):=by simp
    show IntKind.i64.wrap (Int.ofNat x*Int.ofNat un)=_
    rw [this,← hy,wrap_in (by simp<;>omega) (by simp<;>omega)]
   clear hq
   cbv
   refine Ha2 _ _ _ _ _ ?_
   intro q hq
   obtain⟨n2,hn2⟩:∃ n2,n2=n+y:=⟨_,rfl⟩
   rw [← hn2] at hW'
   obtain rfl:q=Int.ofNat n2:=by rw [hq,hn2];exact ar0_addB (by omega)
   clear hq
   cbv
   refine Hc2 _ _ _ _ ?_
   rintro(_|_) hc<;>cbv
   ·have hb128:¬ b<128:=by have:¬ (b:Int)<128:=by simpa [cmp0] using hc
                           omega
    rw [if_neg hb128] at hW'
    refine Ha2 _ _ _ _ _ ?_
    intro q hq
    obtain⟨u2,hu2⟩:∃ u2,u2=un*128:=⟨_,rfl⟩
    obtain rfl:q=Int.ofNat u2:=by
     rw [hq,hu2]
     show IntKind.i64.wrap (Int.ofNat un*128)=_
     rw [wrap_in (by simp<;>omega) (by simp<;>omega)];simp
    clear hq
    cbv
    refine Ha2 _ _ _ _ _ ?_
    rintro q rfl
    rw [ar0_suc (by omega)]
    cbv
    refine⟨(i+1,n2,a'+1,u2),tauF [],?_,⟨rfl,h5,?_,?_,hlt,?_,?_⟩,(subr_mk (τ:=tauF []) rtl hpl rfl rfl),fun i hi=>tauF_lt rfl hi⟩
    ·simp only;omega
    ·simp only;rw [Nat.pow_succ,← hun];omega
    ·simp only;rw [hu2,hun,Nat.pow_succ]
    ·simp only;omega
    ·simp only;rw [hW',show 5 - (i+1)=k by omega]
   ·have hb128:b<128:=by have:(b:Int)<128:=by simpa [cmp0] using hc
                         omega
    rw [if_pos hb128] at hW'
    (with_reducible refine hQ _ _ _ rfl rfl ?_);refine⟨_,rfl,?_⟩
    refine ExitR.sub hF (τ:=tauF []) (n2:=2) (hl:=[(0,.ro calcAVs),(1,.cells [.val (.string s),.val (.int .i64 (Int.ofNat (a'+1))),.bool ok] 0)]) (v2:=.val (.int .i64 (Int.ofNat n2))) (hsub_mk (τ:=tauF []) hpl rfl) (fun i hi=>tauF_lt rfl hi) (Nat.le_of_ble_eq_true rfl) (gsLt rfl) rfl (.refl _) (.done ?_)
    exact⟨rfl,rfl,n2,a'+1,ok,rfl,by omega,hlt,by omega,rfl,.inl ⟨hW',rfl⟩⟩
  ·have hge:s.size≤a':=by simp [cmp0] at h2;omega
   rw [List.drop_of_length_le (by omega)] at hW'
   have hfin:W=none:=by rw [hW'];rfl
   (with_reducible refine hQ _ _ _ rfl rfl ?_);refine⟨_,rfl,?_⟩
   refine ExitR.sub hF (τ:=tauF []) (n2:=2) (hl:=[(0,.ro calcAVs),(1,.cells [.val (.string s),.val (.int .i64 (Int.ofNat a')),.bool false] 0)]) (v2:=.val (.int .i64 (Int.ofNat 0))) (hsub_mk (τ:=tauF []) hpl rfl) (fun i hi=>tauF_lt rfl hi) (Nat.le_of_ble_eq_true rfl) (gsLt rfl) rfl (.val _ rfl rfl) (.done ?_)
   exact⟨rfl,rfl,0,a',false,rfl,by decide,ha',haa,rfl,.inr ⟨hfin,rfl,rfl⟩⟩
def tText (bs:List Nat):Option (List Nat×List Nat) :=
 match tNum 5 0 0 bs with
 | some (n,r)=>if n≤r.length then some (r.take n,r.drop n) else none
 | none=>none
def TookS (B:Base) (s:ByteArray) (a:Nat) (ok:Bool) (W:Option (List Nat×List Nat)) (B':Base) (v:AV) (hp:T Ev.Obj) (n':Nat):Prop :=
 B'=B∧n'=2∧∃ u a' ok',v=.val (.string u)∧u.size≤s.size∧a'≤s.size∧a≤a'∧hp=mkT [(0,.ro calcAVs),(1,.cells [.val (.string s),.val (.int .i64 (Int.ofNat a')),.bool ok'] 0)] ∧
  ((W=some (bytesOf u,(bytesOf s).drop a')∧ok'=ok)∨(W=none∧ok'=false))
theorem ttext {s:ByteArray} (hs:s.size≤1048576) {a:Nat} (ha:a≤s.size) (ok:Bool) (B:Base):CallG Tryz.prog ctxZ B 80 [.ptr 1 0] (mkT [(0,.ro calcAVs),(1,.cells [.val (.string s),.val (.int .i64 (Int.ofNat a)),.bool ok] 0)]).get 2
   (fun B' v H n'=>∃ hp,H=T.get hp∧TookS B s a ok (tText ((bytesOf s).drop a)) B' v hp n') (fun v H n'=>∃ hp,H=T.get hp∧False):=by
 refine CallG.body prog_okZ func80 rfl ?_
 rintro⟨φ0,H0,_,w0,B⟩ hF rfl rfl rfl Q N hQ hN
 obtain⟨W,hW⟩:∃ W,W=tText ((bytesOf s).drop a):=⟨_,rfl⟩
 rw [← hW] at hQ
 have hbl:=bytesOf_len s
 refine CodeF.sy prog_okZ ?_
 intro _ _ _ _ _ _ _ _ _ _ _ _ _ Hc Hs Ha Hw Hd Ho Hl Hn Hi Hv Hz Hk He
 cbv
 refine Hk _ _ _ _ _ _ _ ?_
 refine CallZ.of (tauF []) (n:=2) (l0:=[(0,.ro calcAVs),(1,.cells [.val (.string s),.val (.int .i64 (Int.ofNat a)),.bool ok] 0)]) call40 (tnum hs ha ok B) hpl rfl rfl rfl (gsT rfl rfl) rfl rfl ?_ (fun _ _ _ h=>h.elim)
 rintro B v hp' n' ⟨rfl,rfl,n,a',ok',rfl,hnb,ha',haa,rfl,hor⟩ _
 refine⟨_,rfl,rfl,?_⟩
 intro hpX hX
 simp only [layR] at hX
 subst hX
 unfold tText at hW
 cbv
 refine Hn _ _ _ _ (len_stZ ?_)
 intro sz hsz
 cbv
 refine Ha _ _ _ _ _ ?_
 intro q hq
 obtain⟨z,hz⟩:∃ z,z=sz - a':=⟨_,rfl⟩
 obtain rfl:q=Int.ofNat z:=by rw [hq,hz,ar0_sub (by simp<;>omega) (by simp<;>omega)];simp;omega
 clear hq
 cbv
 refine Hc _ _ _ _ ?_
 rintro(_|_) h1<;>cbv
 ·have hle:n≤z:=by simp [cmp0] at h1;omega
  refine Ha _ _ _ _ _ ?_
  intro q hq
  obtain⟨a2,ha2⟩:∃ a2,a2=a'+n:=⟨_,rfl⟩
  obtain rfl:q=Int.ofNat a2:=by rw [hq,ha2];exact ar0_addB (by omega)
  clear hq
  cbv
  refine Ha _ _ _ _ _ ?_
  intro q hq
  obtain rfl:q=Int.ofNat a':=by rw [hq,ar0_sub (by simp<;>omega) (by simp<;>omega)];simp;omega
  clear hq
  cbv
  refine Hz _ _ _ _ (op_slice (tl:=[(33,.str (bytesOf s)),(39,.int .i64 (.ofNat a')),(43,.int .i64 (.ofNat a2))]) (s:=s) (l:=a') (h:=a2) ctxAt rfl rfl rfl (told_str rfl (told_int rfl (told_int rfl told_nil))) rfl (.inr ⟨_,_,rfl,rfl⟩) (.inr ⟨_,_,rfl,rfl⟩) (by omega) (by omega) ?_)
  intro u hu
  have hul:u.size≤s.size:=by
   have:=bytesOf_len u
   rw [hu,List.length_take,List.length_drop] at this;omega
  cbv
  (with_reducible refine hQ _ _ _ rfl rfl ?_);refine⟨_,rfl,?_⟩
  refine ExitR.sub hF (τ:=tauF []) (n2:=2) (hl:=[(0,.ro calcAVs),(1,.cells [.val (.string s),.val (.int .i64 (Int.ofNat a2)),.bool ok'] 0)]) (v2:=.val (.string u)) (hsub_mk (τ:=tauF []) hpl rfl) (fun i hi=>tauF_lt rfl hi) (Nat.le_of_ble_eq_true rfl) (gsLt rfl) rfl (.refl _) (.done ?_)
  refine⟨rfl,rfl,u,a2,ok',rfl,hul,by omega,by omega,rfl,?_⟩
  rcases hor with⟨hw,rfl⟩|⟨hw,rfl,rfl⟩
  ·rw [hw] at hW
   simp only at hW
   rw [if_pos (by rw [List.length_drop];omega)] at hW
   refine .inl ⟨?_,rfl⟩
   rw [hW,hu,List.drop_drop,← ha2,show a2 - a'=n by omega]
  ·rw [hw] at hW
   exact .inr ⟨hW,rfl⟩
 ·have hgt:¬ n≤z:=by simp [cmp0] at h1;omega
  (with_reducible refine hQ _ _ _ rfl rfl ?_);refine⟨_,rfl,?_⟩
  refine ExitR.sub hF (τ:=tauF []) (n2:=2) (hl:=[(0,.ro calcAVs),(1,.cells [.val (.string s),.val (.int .i64 (Int.ofNat a')),.bool false] 0)]) (v2:=.val (.string (strB []))) (hsub_mk (τ:=tauF []) hpl rfl) (fun i hi=>tauF_lt rfl hi) (Nat.le_of_ble_eq_true rfl) (gsLt rfl) rfl (.val _ rfl rfl) (.done ?_)
  refine⟨rfl,rfl,_,a',false,rfl,Nat.zero_le _,ha',haa,rfl,.inr ⟨?_,rfl⟩⟩
  rcases hor with⟨hw,rfl⟩|⟨hw,rfl,rfl⟩
  ·rw [hw] at hW
   simp only at hW
   rw [if_neg (by rw [List.length_drop];omega)] at hW
   exact hW
  ·omega
def tRep (f:List Nat→Option (Tm×List Nat)):Nat→List Nat→Option (List Tm×List Nat)
 | 0,bs=>some ([],bs)
 | m+1,bs=>match f bs with
  | some (t,r)=>match tRep f m r with
   | some (l,r')=>some (t::l,r')
   | none=>none
  | none=>none
def tRest (f:List Nat→Option (Tm×List Nat)) (k:Int) (u:ByteArray) (l':List Tm) (m:Nat) (bs:List Nat):Option (Tm×List Nat) :=
 match tRep f m bs with
 | some (l,r)=>some (.mk k 0 u (l'++l),r)
 | none=>none
theorem tRest_zero {f:List Nat→Option (Tm×List Nat)} {k:Int} {u:ByteArray} {l':List Tm} {bs:List Nat}:tRest f k u l' 0 bs=some (.mk k 0 u l',bs):=by
 simp [tRest,tRep]
theorem tRest_none {f:List Nat→Option (Tm×List Nat)} {k:Int} {u:ByteArray} {l':List Tm} {m:Nat} {bs:List Nat} (h:f bs=none):tRest f k u l' (m+1) bs=none:=by
 simp [tRest,tRep,h]
theorem tRest_some {f:List Nat→Option (Tm×List Nat)} {k:Int} {u:ByteArray} {l':List Tm} {m:Nat} {bs r:List Nat} {t:Tm} (h:f bs=some (t,r)):tRest f k u l' (m+1) bs=tRest f k u (l'++[t]) m r:=by
 simp only [tRest,tRep,h]
 cases tRep f m r with
 | none=>rfl
 | some x=>simp
def tParts (f:List Nat→Option (Tm×List Nat)) (k:Int) (u:ByteArray) (bs:List Nat):Option (Tm×List Nat) :=
 match tNum 5 0 0 bs with
 | some (m,r)=>tRest f k u [] m r
 | none=>none
def tTerm:Nat→List Nat→Option (Tm×List Nat)
 | 0,_=>none
 | _+1,[]=>none
 | d+1,k::bs =>
  if k=1 then match tNum 5 0 0 bs with
   | some (n,r)=>some (.mk 1 n (strB []) [],r)
   | none=>none
  else if k=2 then match tNum 5 0 0 bs with
   | some (n,r)=>some (.mk 2 (if n%2=1 then -(n / 2:Nat) - 1 else(n / 2:Nat)) (strB []) [],r)
   | none=>none
  else if k=3∨k=4 then match tText bs with
   | some (x,r)=>some (.mk k 0 (strB x) [],r)
   | none=>none
  else if k=5 then match tText bs with
   | some (x,r)=>tParts (tTerm d) 5 (strB x) r
   | none=>none
  else if k=6 then tParts (tTerm d) 6 (strB []) bs
  else none
end Go.Proofs.YtaacpiniakmpbaaGreatDoor
