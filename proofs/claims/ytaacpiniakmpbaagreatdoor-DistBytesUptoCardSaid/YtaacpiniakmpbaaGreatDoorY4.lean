/- How the reference unpacks messages. -/
import Derived.Test.YtaacpiniakmpbaaGreatDoorX5
import Derived.Test.YtaacpiniakmpbaaGreatDoorY3
namespace Go.Proofs.YtaacpiniakmpbaaGreatDoor
open Go Ev Tryz
set_option linter.unusedSimpArgs false
set_option linter.unusedVariables false
set_option maxHeartbeats 8000000
set_option maxRecDepth 20000
theorem refUnpack_g {s:ByteArray} (hs:s.size≤1048576) {B:Base} (hB:EnvB B):CallG Tryz.prog ctxZ B 9 [.val (.string s)] (mkT [(0,.ro calcAVs)]).get 1
   (fun B' v H n'=>∃ hp,H=T.get hp∧Unpacked B (laxM (bytesOf s)) B' v hp n') (fun v H n'=>∃ hp,H=T.get hp∧False):=by
 obtain⟨W,hW⟩:∃ W,W=laxM (bytesOf s):=⟨_,rfl⟩
 rw [← hW]
 rw [laxM] at hW
 refine CallG.body prog_okZ func9 rfl ?_
 rintro⟨φ0,H0,_,w0,B⟩ hF rfl rfl rfl Q N hQ hN
 refine CodeF.sy prog_okZ ?_
 intro _ _ _ _ _ _ _ _ _ _ _ _ _ Hc Hs Ha Hw Hd Ho Hl Hn Hi Hv Hz Hk He
 cbv
 refine Hk _ _ _ _ _ _ _ ?_
 refine CallZ.of (tauF [(1,2)]) (n:=2) (l0:=[(0,.ro calcAVs),(1,.cells [.val (.string s),.val (.int .i64 (Int.ofNat 0)),.bool true] 0)]) call40 (tnum hs (by omega) true B) hpl rfl rfl rfl (gsT rfl rfl) rfl rfl ?_ (fun _ _ _ h=>h.elim)
 rintro B v hp' n' ⟨rfl,rfl,n1,a1,ok1,rfl,hb1,hle1,hge1,rfl,hor1⟩ _
 refine⟨_,rfl,rfl,?_⟩
 intro hpX hX
 simp only [layR] at hX
 subst hX
 cbv
 refine Hk _ _ _ _ _ _ _ ?_
 refine CallZ.of (tauF [(1,2)]) (n:=2) (l0:=[(0,.ro calcAVs),(1,.cells [.val (.string s),.val (.int .i64 (Int.ofNat a1)),.bool ok1] 0)]) call40 (tnum hs (by omega) ok1 B) hpl rfl rfl rfl (gsT rfl rfl) rfl rfl ?_ (fun _ _ _ h=>h.elim)
 rintro B v hp' n' ⟨rfl,rfl,n2,a2,ok2,rfl,hb2,hle2,hge2,rfl,hor2⟩ _
 refine⟨_,rfl,rfl,?_⟩
 intro hpX hX
 simp only [layR] at hX
 subst hX
 cbv
 refine Hk _ _ _ _ _ _ _ ?_
 refine CallZ.of (tauF [(1,2)]) (n:=2) (l0:=[(0,.ro calcAVs),(1,.cells [.val (.string s),.val (.int .i64 (Int.ofNat a2)),.bool ok2] 0)]) call40 (tnum hs (by omega) ok2 B) hpl rfl rfl rfl (gsT rfl rfl) rfl rfl ?_ (fun _ _ _ h=>h.elim)
 rintro B v hp' n' ⟨rfl,rfl,n3,a3,ok3,rfl,hb3,hle3,hge3,rfl,hor3⟩ _
 refine⟨_,rfl,rfl,?_⟩
 intro hpX hX
 simp only [layR] at hX
 subst hX
 cbv
 refine Ha _ _ _ _ _ ?_
 intro f hf
 obtain rfl:f=(n3:Int) - 1:=by rw [hf,ar0_sub (by simp<;>omega) (by simp<;>omega)];rfl
 obtain⟨f,hf0⟩:∃ f,f=(n3:Int) - 1:=⟨_,rfl⟩
 rw [← hf0] at ⊢
 clear hf
 cbv
 refine Hk _ _ _ _ _ _ _ ?_
 refine CallZ.of (tauF [(1,2)]) (n:=2) (l0:=[(0,.ro calcAVs),(1,.cells [.val (.string s),.val (.int .i64 (Int.ofNat a3)),.bool ok3] 0)]) call40 (tnum hs (by omega) ok3 B) hpl rfl rfl rfl (gsT rfl rfl) rfl rfl ?_ (fun _ _ _ h=>h.elim)
 rintro B v hp' n' ⟨rfl,rfl,n4,a4,ok4,rfl,hb4,hle4,hge4,rfl,hor4⟩ _
 refine⟨_,rfl,rfl,?_⟩
 intro hpX hX
 simp only [layR] at hX
 subst hX
 cbv
 rw [List.drop_zero] at hor1
 have k2:ok1=false→ok2=false:=fun q=>by rcases hor2 with⟨_,h⟩|⟨_,h,_⟩<;>simp [h,q]
 have k3:ok2=false→ok3=false:=fun q=>by rcases hor3 with⟨_,h⟩|⟨_,h,_⟩<;>simp [h,q]
 have k4:ok3=false→ok4=false:=fun q=>by rcases hor4 with⟨_,h⟩|⟨_,h,_⟩<;>simp [h,q]
 cases hok:ok4 with
 | false =>
  subst hok
  have hWn:W=none:=by
   rcases hor1 with⟨e1,q1⟩|⟨e1,q1,_⟩
   ·rw [e1] at hW
    simp only at hW
    rcases hor2 with⟨e2,q2⟩|⟨e2,q2,_⟩
    ·rw [e2] at hW
     simp only at hW
     rcases hor3 with⟨e3,q3⟩|⟨e3,q3,_⟩
     ·rw [e3] at hW
      simp only at hW
      rcases hor4 with⟨e4,q4⟩|⟨e4,q4,_⟩
      ·rw [q3,q2,q1] at q4;cases q4
      ·rw [e4] at hW;exact hW
     ·rw [e3] at hW;exact hW
    ·rw [e2] at hW;exact hW
   ·rw [e1] at hW;exact hW
  clear hW
  cbv
  (with_reducible refine hQ _ _ _ rfl rfl ?_);refine⟨_,rfl,?_⟩
  refine ExitR.sub hF (τ:=tauF []) (n2:=1) (hl:=[(0,.ro calcAVs)]) (v2:=.tup [.agg [.val (.int .i64 0),.val (.int .i64 0),.val (.int .i64 0),.val (.int .i64 0),.val (.int .i64 0),.val (.int .i64 0),.val (.string (strB [])),.val (.slice none 0 0)],.val (.int .i64 200)]) (hsub_mk (τ:=tauF []) hpl rfl) (fun i hi=>tauF_lt rfl hi) (Nat.le_of_ble_eq_true rfl) (gsLt rfl) rfl (.tup (by repeat'(first|exact .nil|refine .cons ?_ ?_|exact .refl _|exact .val _ rfl rfl|exact .agg (by repeat'(first|exact .nil|refine .cons ?_ ?_|exact .refl _|exact .val _ rfl rfl))))) (.done ?_)
  exact⟨rfl,rfl,(fun _ _ q=>q),0,0,0,0,0,0,strB [],[],none,0,0,200,rfl,zero_at _,by rw [hWn];rfl⟩
 | true =>
  subst hok
  have j3:ok3=true:=by cases h:ok3 with|true=>rfl|false=>exact(k4 h).symm▸rfl
  have j2:ok2=true:=by cases h:ok2 with|true=>rfl|false=>rw [k3 h] at j3;cases j3
  have j1:ok1=true:=by cases h:ok1 with|true=>rfl|false=>rw [k2 h] at j2;cases j2
  rcases hor1 with⟨e1,_⟩|⟨_,q,_⟩
  rotate_left
  ·rw [q] at j1;cases j1
  rcases hor2 with⟨e2,_⟩|⟨_,q,_⟩
  rotate_left
  ·rw [q] at j2;cases j2
  rcases hor3 with⟨e3,_⟩|⟨_,q,_⟩
  rotate_left
  ·rw [q] at j3;cases j3
  rcases hor4 with⟨e4,_⟩|⟨_,q,_⟩
  rotate_left
  ·cases q
  rw [e1] at hW
  simp only at hW
  rw [e2] at hW
  simp only at hW
  rw [e3] at hW
  simp only at hW
  rw [e4] at hW
  simp only at hW
  rw [← hf0] at hW
  clear e1 e2 e3 e4 k2 k3 k4
  cbv
  refine Hc _ _ _ _ ?_
  rintro(_|_) hk<;>cbv
  ·have hk3:n1=3:=by simp [cmp0] at hk;omega
   rw [if_pos hk3] at hW
   have hz0:tsz zeroT≤1048576:=by decide
   refine Hk _ _ _ _ _ _ _ ?_
   refine CallZ.ret (validS (.mk (Int.ofNat n1) (Int.ofNat n2) f (Int.ofNat n4) zeroT)) AV.bool call35 rfl (fun _=>rfl) (fun w hx=>refValid_ret (hB.ext hx) _ _ _ _ hz0 ((zero_at _).mono (ext_at hx))) ?_
   rintro(_|_) hv<;>cbv
   ·(with_reducible refine hQ _ _ _ rfl rfl ?_);refine⟨_,rfl,?_⟩
    refine ExitR.sub hF (τ:=tauF []) (n2:=1) (hl:=[(0,.ro calcAVs)]) (v2:=.tup [.agg [.val (.int .i64 0),.val (.int .i64 0),.val (.int .i64 0),.val (.int .i64 0),.val (.int .i64 0),.val (.int .i64 0),.val (.string (strB [])),.val (.slice none 0 0)],.val (.int .i64 200)]) (hsub_mk (τ:=tauF []) hpl rfl) (fun i hi=>tauF_lt rfl hi) (Nat.le_of_ble_eq_true rfl) (gsLt rfl) rfl (.tup (by repeat'(first|exact .nil|refine .cons ?_ ?_|exact .refl _|exact .val _ rfl rfl|exact .agg (by repeat'(first|exact .nil|refine .cons ?_ ?_|exact .refl _|exact .val _ rfl rfl))))) (.done ?_)
    exact⟨rfl,rfl,(fun _ _ q=>q),0,0,0,0,0,0,strB [],[],none,0,0,200,rfl,zero_at _,by rw [hW,laxF,if_neg (fun q=>Bool.noConfusion (hv.trans q.1))];rfl⟩
   ·refine Hk _ _ _ _ _ _ _ ?_
    refine CallZ.vw (args2:=[.agg [.val (.int .i64 (Int.ofNat n1)),.val (.int .i64 (Int.ofNat n2)),.val (.int .i64 f),.val (.int .i64 (Int.ofNat n4)),.val (.int .i64 0),.val (.int .i64 0),.val (.string (strB [])),.val (.slice none 0 0)]]) (by repeat'(first|exact .nil|refine .cons ?_ ?_|exact .refl _|exact .val _ rfl rfl|exact .agg (by repeat'(first|exact .nil|refine .cons ?_ ?_|exact .refl _|exact .val _ rfl rfl)))) ?_
    refine CallZ.of (tauF []) (n:=1) (l0:=[(0,.ro calcAVs)]) call36 (bytes_g _ _ _ _ hv.symm (zero_at _)) hpl rfl rfl rfl (gsT rfl rfl) rfl rfl ?_ (fun _ _ _ h=>h.elim)
    rintro B3 v hp' n' ⟨rfl,rfl,rfl,bs,hbs,rfl⟩ _
    refine⟨_,rfl,rfl,?_⟩
    intro hpX hX
    simp only [layR] at hX
    subst hX
    cbv
    refine Hs _ _ _ _ ?_
    rintro(_|_) hc<;>cbv
    ·have he:bytesOf bs=bytesOf s:=by
      have:bytesEq (bytesOf bs) (bytesOf s)=true:=by simpa [scmp0,SB.bytes] using hc
      rwa [bytesEq_iff] at this
     (with_reducible refine hQ _ _ _ rfl rfl ?_);refine⟨_,rfl,?_⟩
     refine ExitR.sub hF (τ:=tauF []) (n2:=1) (hl:=[(0,.ro calcAVs)]) (v2:=.tup [.agg [.val (.int .i64 (Int.ofNat n1)),.val (.int .i64 (Int.ofNat n2)),.val (.int .i64 f),.val (.int .i64 (Int.ofNat n4)),.val (.int .i64 0),.val (.int .i64 0),.val (.string (strB [])),.val (.slice none 0 0)],.val (.int .i64 0)]) (hsub_mk (τ:=tauF []) hpl rfl) (fun i hi=>tauF_lt rfl hi) (Nat.le_of_ble_eq_true rfl) (gsLt rfl) rfl (.tup (by repeat'(first|exact .nil|refine .cons ?_ ?_|exact .refl _|exact .val _ rfl rfl|exact .agg (by repeat'(first|exact .nil|refine .cons ?_ ?_|exact .refl _|exact .val _ rfl rfl))))) (.done ?_)
     exact⟨rfl,rfl,(fun _ _ q=>q),_,_,_,_,0,0,strB [],[],none,0,0,0,rfl,(zero_at _),by rw [hW,laxF,if_pos ⟨hv.symm,hbs.symm.trans he⟩];rfl⟩
    ·have he:¬ bytesOf bs=bytesOf s:=by
      intro q
      rw [← bytesEq_iff] at q
      simp [scmp0,SB.bytes,q] at hc
     (with_reducible refine hQ _ _ _ rfl rfl ?_);refine⟨_,rfl,?_⟩
     refine ExitR.sub hF (τ:=tauF []) (n2:=1) (hl:=[(0,.ro calcAVs)]) (v2:=.tup [.agg [.val (.int .i64 0),.val (.int .i64 0),.val (.int .i64 0),.val (.int .i64 0),.val (.int .i64 0),.val (.int .i64 0),.val (.string (strB [])),.val (.slice none 0 0)],.val (.int .i64 200)]) (hsub_mk (τ:=tauF []) hpl rfl) (fun i hi=>tauF_lt rfl hi) (Nat.le_of_ble_eq_true rfl) (gsLt rfl) rfl (.tup (by repeat'(first|exact .nil|refine .cons ?_ ?_|exact .refl _|exact .val _ rfl rfl|exact .agg (by repeat'(first|exact .nil|refine .cons ?_ ?_|exact .refl _|exact .val _ rfl rfl))))) (.done ?_)
     exact⟨rfl,rfl,(fun _ _ q=>q),0,0,0,0,0,0,strB [],[],none,0,0,200,rfl,zero_at _,by rw [hW,laxF,if_neg (fun q=>he (hbs.trans q.2))];rfl⟩
  ·have hk3:¬ n1=3:=by simp [cmp0] at hk;omega
   rw [if_neg hk3] at hW
   refine Hk _ _ _ _ _ _ _ ?_
   refine CallZ.vw (args2:=[.ptr 2 0,.val (.int .i64 (Int.ofNat 600))]) (by repeat'(first|exact .nil|refine .cons ?_ ?_|exact .refl _|exact .val _ rfl rfl)) ?_
   refine CallZ.of (tauF [(1,2)]) (n:=2) (l0:=[(0,.ro calcAVs),(1,.cells [.val (.string s),.val (.int .i64 (Int.ofNat a4)),.bool true] 0)]) call41 (tterm 600 (by decide) s hs a4 hle4 B) hpl rfl rfl rfl (gsT rfl rfl) rfl rfl ?_ (fun _ _ _ h=>h.elim)
   rintro B2 v hp' n' ⟨rfl,a5,ok5,k,n,u,x,m,c,rfl,rfl,hm5,hle5,hge5,hor5⟩ _
   have hB2:=hB.mono hm5
   refine⟨_,rfl,rfl,?_⟩
   intro hpX hX
   simp only [layR] at hX
   subst hX
   rcases hor5 with⟨rfl,hlt5,l,e5,ht5⟩|⟨rfl,e5⟩
   ·have hz5:tsz (.mk k n u l)≤1048576:=by
     have:=tTerm_len _ _ _ _ e5
     simp only [List.length_drop,bytesOf_len] at this;omega
    rw [e5] at hW
    simp only at hW
    cbv
    have ht5:TmAt B2 (.mk k n u l) [.int .i64 k,.int .i64 n,.string u,.slice x m c]:=ht5
    refine Hk _ _ _ _ _ _ _ ?_
    refine CallZ.ret (validS (.mk (Int.ofNat n1) (Int.ofNat n2) f (Int.ofNat n4) (.mk k n u l))) AV.bool call35 rfl (fun _=>rfl) (fun w hx=>refValid_ret (hB2.ext hx) _ _ _ _ hz5 (ht5.mono (ext_at hx))) ?_
    rintro(_|_) hv<;>cbv
    ·(with_reducible refine hQ _ _ _ rfl rfl ?_);refine⟨_,rfl,?_⟩
     refine ExitR.sub hF (τ:=tauF []) (n2:=1) (hl:=[(0,.ro calcAVs)]) (v2:=.tup [.agg [.val (.int .i64 0),.val (.int .i64 0),.val (.int .i64 0),.val (.int .i64 0),.val (.int .i64 0),.val (.int .i64 0),.val (.string (strB [])),.val (.slice none 0 0)],.val (.int .i64 200)]) (hsub_mk (τ:=tauF []) hpl rfl) (fun i hi=>tauF_lt rfl hi) (Nat.le_of_ble_eq_true rfl) (gsLt rfl) rfl (.tup (by repeat'(first|exact .nil|refine .cons ?_ ?_|exact .refl _|exact .val _ rfl rfl|exact .agg (by repeat'(first|exact .nil|refine .cons ?_ ?_|exact .refl _|exact .val _ rfl rfl))))) (.done ?_)
     exact⟨rfl,rfl,hm5,0,0,0,0,0,0,strB [],[],none,0,0,200,rfl,zero_at _,by rw [hW,laxF,if_neg (fun q=>Bool.noConfusion (hv.trans q.1))];rfl⟩
    ·refine Hk _ _ _ _ _ _ _ ?_
     refine CallZ.vw (args2:=[.agg [.val (.int .i64 (Int.ofNat n1)),.val (.int .i64 (Int.ofNat n2)),.val (.int .i64 f),.val (.int .i64 (Int.ofNat n4)),.val (.int .i64 k),.val (.int .i64 n),.val (.string u),.val (.slice x m c)]]) (by repeat'(first|exact .nil|refine .cons ?_ ?_|exact .refl _|exact .val _ rfl rfl|exact .agg (by repeat'(first|exact .nil|refine .cons ?_ ?_|exact .refl _|exact .val _ rfl rfl)))) ?_
     refine CallZ.of (tauF []) (n:=1) (l0:=[(0,.ro calcAVs)]) call36 (bytes_g _ _ _ _ hv.symm ht5) hpl rfl rfl rfl (gsT rfl rfl) rfl rfl ?_ (fun _ _ _ h=>h.elim)
     rintro B3 v hp' n' ⟨rfl,rfl,rfl,bs,hbs,rfl⟩ _
     refine⟨_,rfl,rfl,?_⟩
     intro hpX hX
     simp only [layR] at hX
     subst hX
     cbv
     refine Hs _ _ _ _ ?_
     rintro(_|_) hc<;>cbv
     ·have he:bytesOf bs=bytesOf s:=by
       have:bytesEq (bytesOf bs) (bytesOf s)=true:=by simpa [scmp0,SB.bytes] using hc
       rwa [bytesEq_iff] at this
      (with_reducible refine hQ _ _ _ rfl rfl ?_);refine⟨_,rfl,?_⟩
      refine ExitR.sub hF (τ:=tauF []) (n2:=1) (hl:=[(0,.ro calcAVs)]) (v2:=.tup [.agg [.val (.int .i64 (Int.ofNat n1)),.val (.int .i64 (Int.ofNat n2)),.val (.int .i64 f),.val (.int .i64 (Int.ofNat n4)),.val (.int .i64 k),.val (.int .i64 n),.val (.string u),.val (.slice x m c)],.val (.int .i64 0)]) (hsub_mk (τ:=tauF []) hpl rfl) (fun i hi=>tauF_lt rfl hi) (Nat.le_of_ble_eq_true rfl) (gsLt rfl) rfl (.tup (by repeat'(first|exact .nil|refine .cons ?_ ?_|exact .refl _|exact .val _ rfl rfl|exact .agg (by repeat'(first|exact .nil|refine .cons ?_ ?_|exact .refl _|exact .val _ rfl rfl))))) (.done ?_)
      exact⟨rfl,rfl,hm5,_,_,_,_,k,n,u,l,x,m,c,0,rfl,ht5,by rw [hW,laxF,if_pos ⟨hv.symm,hbs.symm.trans he⟩];rfl⟩
     ·have he:¬ bytesOf bs=bytesOf s:=by
       intro q
       rw [← bytesEq_iff] at q
       simp [scmp0,SB.bytes,q] at hc
      (with_reducible refine hQ _ _ _ rfl rfl ?_);refine⟨_,rfl,?_⟩
      refine ExitR.sub hF (τ:=tauF []) (n2:=1) (hl:=[(0,.ro calcAVs)]) (v2:=.tup [.agg [.val (.int .i64 0),.val (.int .i64 0),.val (.int .i64 0),.val (.int .i64 0),.val (.int .i64 0),.val (.int .i64 0),.val (.string (strB [])),.val (.slice none 0 0)],.val (.int .i64 200)]) (hsub_mk (τ:=tauF []) hpl rfl) (fun i hi=>tauF_lt rfl hi) (Nat.le_of_ble_eq_true rfl) (gsLt rfl) rfl (.tup (by repeat'(first|exact .nil|refine .cons ?_ ?_|exact .refl _|exact .val _ rfl rfl|exact .agg (by repeat'(first|exact .nil|refine .cons ?_ ?_|exact .refl _|exact .val _ rfl rfl))))) (.done ?_)
      exact⟨rfl,rfl,hm5,0,0,0,0,0,0,strB [],[],none,0,0,200,rfl,zero_at _,by rw [hW,laxF,if_neg (fun q=>he (hbs.trans q.2))];rfl⟩
   ·rw [e5] at hW
    simp only at hW
    cbv
    (with_reducible refine hQ _ _ _ rfl rfl ?_);refine⟨_,rfl,?_⟩
    refine ExitR.sub hF (τ:=tauF []) (n2:=1) (hl:=[(0,.ro calcAVs)]) (v2:=.tup [.agg [.val (.int .i64 0),.val (.int .i64 0),.val (.int .i64 0),.val (.int .i64 0),.val (.int .i64 0),.val (.int .i64 0),.val (.string (strB [])),.val (.slice none 0 0)],.val (.int .i64 200)]) (hsub_mk (τ:=tauF []) hpl rfl) (fun i hi=>tauF_lt rfl hi) (Nat.le_of_ble_eq_true rfl) (gsLt rfl) rfl (.tup (by repeat'(first|exact .nil|refine .cons ?_ ?_|exact .refl _|exact .val _ rfl rfl|exact .agg (by repeat'(first|exact .nil|refine .cons ?_ ?_|exact .refl _|exact .val _ rfl rfl))))) (.done ?_)
    exact⟨rfl,rfl,hm5,0,0,0,0,0,0,strB [],[],none,0,0,200,rfl,zero_at _,by rw [hW];rfl⟩
end Go.Proofs.YtaacpiniakmpbaaGreatDoor
