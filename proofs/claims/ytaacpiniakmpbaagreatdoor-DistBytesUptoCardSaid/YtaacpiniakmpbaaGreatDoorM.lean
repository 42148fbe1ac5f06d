/- Terms that are the same; how many nodes terms have. -/
import Derived.Test.YtaacpiniakmpbaaGreatDoorL
namespace Go.Proofs.YtaacpiniakmpbaaGreatDoor
open Go Ev Tryz
set_option linter.unusedSimpArgs false
set_option linter.unusedVariables false
set_option maxHeartbeats 4000000
set_option maxRecDepth 10000
mutual
def sameT:Tm→Tm→Bool
 | .mk k n s l,.mk k' n' s' l'=>decide (k=k')&&decide (n=n')&&decide (bytesOf s=bytesOf s')&&sameTs l l'
def sameTs:List Tm→List Tm→Bool
 | [],[]=>true
 | t::l,t'::l'=>sameT t t'&&sameTs l l'
 | _,_=>false
end
theorem sameTs_len:∀ {l l':List Tm},l.length≠l'.length→sameTs l l'=false
 | [],[],h=>(h rfl).elim
 | [],_::_,_=>by simp [sameTs]
 | _::_,[],_=>by simp [sameTs]
 | _::l,_::l',h=>by
  rw [sameTs,sameTs_len (l:=l) (l':=l') (by simpa using h),Bool.and_false]
theorem rsame (N:Nat):∀ (t:Tm),tsz t<N→∀ (t':Tm) {w:World} {cs cs':List Value},Env w→TmAt (hb w) t cs→TmAt (hb w) t' cs'→Ret Tryz.prog 14 #[.agg cs.toArray,.agg cs'.toArray] w (.bool (sameT t t')):=by
 induction N with
 | zero=>intro t h;omega
 | succ N ih =>
  rintro⟨k,n,s,l⟩ hN ⟨k',n',s',l'⟩ w cs cs' hE ht ht'
  obtain⟨a,m,c,rfl,hl⟩:=ht.out
  obtain⟨a',m',c',rfl,hl'⟩:=ht'.out
  rw [tsz] at hN
  obtain⟨r,hr⟩:∃ r,r=sameT (.mk k n s l) (.mk k' n' s' l'):=⟨_,rfl⟩
  rw [← hr]
  rw [sameT] at hr
  refine ret_of hE func14 rfl [.agg [.val (.int .i64 k),.val (.int .i64 n),.val (.string s),.val (.slice a m c)],.agg [.val (.int .i64 k'),.val (.int .i64 n'),.val (.string s'),.val (.slice a' m' c')]] rfl fun Q hQ=>?_
  refine .sy (prog_okB _) ?_
  intro _ _ _ _ _ _ _ _ _ _ _ _ _ _ Hc Hs Ha Hw Hd Ho Hl Hn Hi Hk Hv Hz Hr Hx
  cbv
  refine Hc _ _ _ _ ?_
  rintro(_|_) h1<;>cbv
  ·refine Hc _ _ _ _ ?_
   rintro(_|_) h2<;>cbv
   ·refine Hs _ _ _ _ ?_
    rintro(_|_) h3<;>cbv
    ·refine Hn _ _ _ (len_sl rfl rfl ?_)
     cbv
     refine Hn _ _ _ (len_sl rfl rfl ?_)
     cbv
     refine Hc _ _ _ _ ?_
     rintro(_|_) h4<;>cbv
     ·have e1:k=k':=by simpa [cmp0] using h1
      have e2:n=n':=by simpa [cmp0] using h2
      have e3:bytesOf s=bytesOf s':=by simpa [scmp0,SB.bytes,bytesEq_iff] using h3
      have e4:m=m':=by simp [cmp0] at h4;omega
      subst e1 e2 e4
      rw [decide_eq_true e3] at hr
      simp only [decide_true,Bool.true_and] at hr
      clear h1 h2 h3 h4
      refine Hr _ _ _ (CodeP.loopN 3 (fun i:Nat=>mkS [(2,.ptr 1 0),(3,.ptr 2 0),(5,.val (.int .i64 (Int.ofNat i)))] [(0,.ro calcAVs),(1,.cells [.val (.int .i64 k),.val (.int .i64 n),.val (.string s),.val (.slice a m c)] 0),(2,.cells [.val (.int .i64 k),.val (.int .i64 n),.val (.string s'),.val (.slice a' m c')] 0)] 3)
       (fun i=>m - i) (fun i=>i≤m∧r=sameTs (l.drop i) (l'.drop i)) 0 ⟨Nat.zero_le _,hr⟩ (sub_mk sbt sbh) rfl rfl (fun _=>⟨rfl,rfl⟩) ?_)
      rintro G i ⟨hi,hri⟩ hG
      have hmb:=hl.2.1
      refine .sy (prog_okB _) ?_
      intro _ _ _ _ _ _ _ _ _ _ _ _ _ _ Hc2 Hs2 Ha2 Hw2 Hd2 Ho2 Hl2 Hn2 Hi2 Hk2 Hv2 Hz2 Hr2 Hx2
      cbv
      refine Hn2 _ _ _ (len_sl rfl rfl ?_)
      cbv
      refine Hc2 _ _ _ _ ?_
      rintro(_|_) h2<;>cbv
      ·have hge:m≤i:=by simpa [cmp0] using h2
       (with_reducible refine hQ _ _ ?_);refine⟨rfl,rfl,_,rfl,rfl,?_⟩
       rw [hri,List.drop_of_length_le (by have:=hl.1;omega),List.drop_of_length_le (by have:=hl'.1;omega)];simp [sameTs,toV,toVs,retA]
      ·have hlt:i<m:=by simpa [cmp0] using h2
       refine Hi2 _ _ _ _ (idx_tm hl hlt ?_)
       rintro p ⟨k1,n1,s1,l1⟩ cs1 hg hc ht1
       cbv
       refine Hl2 _ _ _ (load_tm hc ht1 ?_)
       obtain⟨a1,m1,c1,rfl,hl1⟩:=ht1.out
       have hm:=tsz_mem hg
       cbv
       refine Hi2 _ _ _ _ (idx_tm hl' hlt ?_)
       rintro p2 ⟨k2,n2,s2,l2⟩ cs2 hg2 hc2 ht2
       cbv
       refine Hl2 _ _ _ (load_tm hc2 ht2 ?_)
       obtain⟨a2,m2,c2,rfl,hl2⟩:=ht2.out
       rw [drop_get hg,drop_get hg2,sameTs] at hri
       cbv
       refine Hk2 _ _ _ _ _ (callBo _ call14 rfl (fun w' hx=>ih _ (by omega) _ (hE.ext hx) (ht1.mono (ext_hb hx)) (ht2.mono (ext_hb hx))) ?_)
       rintro(_|_) hu<;>cbv
       ·(with_reducible refine hQ _ _ ?_);refine⟨rfl,rfl,_,rfl,rfl,?_⟩
        rw [hri,← hu];rfl
       ·refine Ha2 _ _ _ _ _ ?_
        rintro q rfl
        rw [ar0_suc (by omega)]
        cbv
        refine hG _ (i+1) rfl (by omega) ⟨by omega,?_⟩ (sub_mk sbt sbh) (lt_mk rfl rfl)
        rw [hri,← hu];rfl
     ·have e4:m≠m':=by simp [cmp0] at h4;omega
      (with_reducible refine hQ _ _ ?_);refine⟨rfl,rfl,_,rfl,rfl,?_⟩
      rw [hr,sameTs_len (by rw [← hl.1,← hl'.1];exact e4),Bool.and_false];rfl
    ·have e3:¬ bytesOf s=bytesOf s':=by intro q;rw [← bytesEq_iff] at q;simp [scmp0,SB.bytes,q] at h3
     (with_reducible refine hQ _ _ ?_);refine⟨rfl,rfl,_,rfl,rfl,?_⟩
     rw [hr,decide_eq_false e3];simp [toV,toVs,retA]
   ·have e2:¬ n=n':=by simpa [cmp0] using h2
    (with_reducible refine hQ _ _ ?_);refine⟨rfl,rfl,_,rfl,rfl,?_⟩
    rw [hr,decide_eq_false e2];simp [toV,toVs,retA]
  ·have e1:¬ k=k':=by simpa [cmp0] using h1
   (with_reducible refine hQ _ _ ?_);refine⟨rfl,rfl,_,rfl,rfl,?_⟩
   rw [hr,decide_eq_false e1];simp [toV,toVs,retA]
def nodeS (k n:Int) (s:ByteArray) (m:Nat):Bool :=
 if k=1 then decide (0≤n)&&decide (n<100000)&&decide (bytesOf s=[])&&decide (m=0)
 else if k=2 then decide (-2147483647≤n)&&decide (n≤2147483647)&&decide (bytesOf s=[])&&decide (m=0)
 else if k=3 then decide (n=0)&&nameS s&&decide (m=0)
 else if k=4 then decide (n=0)&&decide (s.size≤255)&&decide (m=0)
 else if k=5 then decide (n=0)&&nameS s&&decide (1≤m)&&decide (m≤16)
 else if k=6 then decide (n=0)&&decide (bytesOf s=[])&&decide (m≤64)
 else false
mutual
def nodesS:Tm→Bool
 | .mk k n s l=>nodeS k n s l.length&&nodessS l
def nodessS:List Tm→Bool
 | []=>true
 | t::r=>nodesS t&&nodessS r
end
def isS (t:Tm):Bool:=decide (tsz t≤4000)&&decide (tdep t≤600)&&nodesS t
section
variable {w:World}
theorem node_ret (hE:Env w) (k n:Int) (s:ByteArray) (a:Option Addr) (m c:Nat) (hs:s.size≤1048576):Ret Tryz.prog 328 #[.agg #[.int .i64 k,.int .i64 n,.string s,.slice a m c]] w (.bool (nodeS k n s m)):=by
 refine ret_of hE func328 rfl [.agg [.val (.int .i64 k),.val (.int .i64 n),.val (.string s),.val (.slice a m c)]] rfl fun Q hQ=>?_
 refine .sy (prog_okB _) ?_
 intro _ _ _ _ _ _ _ _ _ _ _ _ _ _ Hc Hs Ha Hw Hd Ho Hl Hn Hi Hk Hv Hz Hr Hx
 cbv
 repeat'(first|((with_reducible refine hQ _ _ ?_);refine⟨rfl,rfl,_,rfl,rfl,?_⟩)|((with_reducible first|refine Hc _ _ _ _ ?_|refine Hs _ _ _ _ ?_);rintro(_|_) hq0<;>cbv)|((with_reducible first|refine Ha _ _ _ _ _ ?_|refine Hw _ _ _ ?_);intro _ hn;cbv)|((with_reducible refine Hn _ _ _ ?_);(first|refine len_sl rfl rfl ?_|(refine len_st ?_;intro _ hm));cbv)|((with_reducible refine Hk 408 _ _ _ _ ?_);refine callBo _ call408 rfl (fun w2 hx=>refName_ret (hE.ext hx) s hs) ?_;rintro(_|_) hu<;>cbv))
 all_goals(clear Hc Hs Ha Hw Hd Ho Hl Hn Hi Hk Hv Hz Hr Hx;clear hQ;simp only [toV,toVs,retA,Value.bool.injEq,nodeS,SB.bytes] at *;grind [cmp0,scmp0,bytesEq_iff])
theorem nodes_ret (N:Nat):∀ (t:Tm),tsz t<N→∀ {w:World} {cs:List Value},Env w→TmAt (hb w) t cs→Ret Tryz.prog 207 #[.agg cs.toArray] w (.bool (nodesS t)):=by
 induction N with
 | zero=>intro t h;omega
 | succ N ih =>
  rintro⟨k,n,s,l⟩ hN w cs hE ht
  obtain⟨a,m,c,rfl,hl⟩:=ht.out
  obtain⟨r,hr⟩:∃ r,r=nodesS (.mk k n s l):=⟨_,rfl⟩
  rw [← hr]
  rw [nodesS] at hr
  rw [tsz] at hN
  refine ret_of hE func207 rfl [.agg [.val (.int .i64 k),.val (.int .i64 n),.val (.string s),.val (.slice a m c)]] rfl fun Q hQ=>?_
  refine .sy (prog_okB _) ?_
  intro _ _ _ _ _ _ _ _ _ _ _ _ _ _ Hc Hs Ha Hw Hd Ho Hl Hn Hi Hk Hv Hz Hr Hx
  cbv
  refine Hk _ _ _ _ _ (callBo _ call328 rfl (fun w' hx=>node_ret (hE.ext hx) k n s a m c ht.sz) ?_)
  rw [← hl.1] at hr
  rintro(_|_) hu<;>cbv
  ·(with_reducible refine hQ _ _ ?_);refine⟨rfl,rfl,_,rfl,rfl,?_⟩
   rw [hr,← hu];rfl
  ·rw [← hu] at hr
   refine Hr _ _ _ (CodeP.loopN 2 (fun i:Nat=>mkS [(1,.ptr 1 0),(3,.val (.int .i64 (Int.ofNat i)))] [(0,.ro calcAVs),(1,.cells [.val (.int .i64 k),.val (.int .i64 n),.val (.string s),.val (.slice a m c)] 0)] 2)
    (fun i=>m - i) (fun i=>i≤m∧r=nodessS (l.drop i)) 0 ⟨Nat.zero_le _,hr⟩ (sub_mk sbt sbh) rfl rfl (fun _=>⟨rfl,rfl⟩) ?_)
   rintro G i ⟨hi,hri⟩ hG
   have hmb:=hl.2.1
   refine .sy (prog_okB _) ?_
   intro _ _ _ _ _ _ _ _ _ _ _ _ _ _ Hc2 Hs2 Ha2 Hw2 Hd2 Ho2 Hl2 Hn2 Hi2 Hk2 Hv2 Hz2 Hr2 Hx2
   cbv
   refine Hn2 _ _ _ (len_sl rfl rfl ?_)
   cbv
   refine Hc2 _ _ _ _ ?_
   rintro(_|_) h2<;>cbv
   ·have hge:m≤i:=by simpa [cmp0] using h2
    (with_reducible refine hQ _ _ ?_);refine⟨rfl,rfl,_,rfl,rfl,?_⟩
    rw [hri,List.drop_of_length_le (by have:=hl.1;omega)];rfl
   ·have hlt:i<m:=by simpa [cmp0] using h2
    refine Hi2 _ _ _ _ (idx_tm hl hlt ?_)
    rintro p ⟨k',n',s',l'⟩ cs' hg hc ht'
    cbv
    refine Hl2 _ _ _ (load_tm hc ht' ?_)
    obtain⟨a',m',c',rfl,hl'⟩:=ht'.out
    have hm:=tsz_mem hg
    rw [drop_get hg,nodessS] at hri
    cbv
    refine Hk2 _ _ _ _ _ (callBo _ call207 rfl (fun w' hx=>ih _ (by omega) (hE.ext hx) (ht'.mono (ext_hb hx))) ?_)
    rintro(_|_) hu<;>cbv
    ·(with_reducible refine hQ _ _ ?_);refine⟨rfl,rfl,_,rfl,rfl,?_⟩
     rw [hri,← hu];rfl
    ·refine Ha2 _ _ _ _ _ ?_
     rintro q rfl
     rw [ar0_suc (by omega)]
     cbv
     refine hG _ (i+1) rfl (by omega) ⟨by omega,?_⟩ (sub_mk sbt sbh) (lt_mk rfl rfl)
     rw [hri,← hu];rfl
theorem is_ret {t:Tm} (hE:Env w) (hz:tsz t≤1048576) {cs:List Value} (ht:TmAt (hb w) t cs):Ret Tryz.prog 127 #[.agg cs.toArray] w (.bool (isS t)):=by
 obtain⟨k,n,s,l⟩:=t
 obtain⟨a,m,c,rfl,hl⟩:=ht.out
 obtain⟨r,hr⟩:∃ r,r=isS (.mk k n s l):=⟨_,rfl⟩
 rw [← hr]
 unfold isS at hr
 refine ret_of hE func127 rfl [.agg [.val (.int .i64 k),.val (.int .i64 n),.val (.string s),.val (.slice a m c)]] rfl fun Q hQ=>?_
 refine .sy (prog_okB _) ?_
 intro _ _ _ _ _ _ _ _ _ _ _ _ _ _ Hc Hs Ha Hw Hd Ho Hl Hn Hi Hk Hv Hz Hr Hx
 cbv
 refine Hk _ _ _ _ _ (callII _ _ call206 rfl (fun w' hx=>refSize_ret _ _ (Nat.lt_succ_self _) hz (hE.ext hx) (ht.mono (ext_hb hx))) ?_)
 intro u v hu hv
 cbv
 repeat'(first|((with_reducible refine hQ _ _ ?_);refine⟨rfl,rfl,_,rfl,rfl,?_⟩)|((with_reducible first|refine Hc _ _ _ _ ?_|refine Hs _ _ _ _ ?_);rintro(_|_) hq0<;>cbv)|((with_reducible first|refine Ha _ _ _ _ _ ?_|refine Hw _ _ _ ?_);intro _ hn;cbv)|((with_reducible refine Hn _ _ _ ?_);(first|refine len_sl rfl rfl ?_|(refine len_st ?_;intro _ hm));cbv)|((with_reducible refine Hk 207 _ _ _ _ ?_);refine callBo _ call207 rfl (fun w2 hx=>nodes_ret _ _ (Nat.lt_succ_self _) (hE.ext hx) (ht.mono (ext_hb hx))) ?_;rintro(_|_) hu<;>cbv))
 all_goals(clear Hc Hs Ha Hw Hd Ho Hl Hn Hi Hk Hv Hz Hr Hx;clear hQ;simp only [toV,toVs,retA,Value.bool.injEq] at *;grind [cmp0])
theorem refCheck_ret {t:Tm} (hE:Env w) (hz:tsz t≤1048576) {cs:List Value} (ht:TmAt (hb w) t cs):Ret Tryz.prog 73 #[.agg cs.toArray] w (.int .i64 (if isS t then 0 else 3)):=by
 obtain⟨k,n,s,l⟩:=t
 obtain⟨a,m,c,rfl,hl⟩:=ht.out
 obtain⟨r,hr⟩:∃ r:Int,r=if isS (.mk k n s l) then 0 else 3:=⟨_,rfl⟩
 rw [← hr]
 refine ret_of hE func73 rfl [.agg [.val (.int .i64 k),.val (.int .i64 n),.val (.string s),.val (.slice a m c)]] rfl fun Q hQ=>?_
 refine .sy (prog_okB _) ?_
 intro _ _ _ _ _ _ _ _ _ _ _ _ _ _ Hc Hs Ha Hw Hd Ho Hl Hn Hi Hk Hv Hz Hr Hx
 cbv
 refine Hk _ _ _ _ _ (callBo _ call127 rfl (fun w' hx=>is_ret (hE.ext hx) hz (ht.mono (ext_hb hx))) ?_)
 rintro(_|_) hu<;>rw [← hu] at hr<;>cbv
 ·(with_reducible refine hQ _ _ ?_);refine⟨rfl,rfl,_,rfl,rfl,?_⟩
  rw [hr];rfl
 ·(with_reducible refine hQ _ _ ?_);refine⟨rfl,rfl,_,rfl,rfl,?_⟩
  rw [hr];rfl
end
end Go.Proofs.YtaacpiniakmpbaaGreatDoor
