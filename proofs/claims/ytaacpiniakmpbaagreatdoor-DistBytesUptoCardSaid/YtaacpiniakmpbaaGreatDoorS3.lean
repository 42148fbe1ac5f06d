/- How the program counts nodes. -/
import Derived.Test.YtaacpiniakmpbaaGreatDoorS1
namespace Go.Proofs.YtaacpiniakmpbaaGreatDoor
open Go Ev Tryz
set_option linter.unusedSimpArgs false
set_option linter.unusedVariables false
set_option maxHeartbeats 8000000
set_option maxRecDepth 10000
theorem count_m:CntK 4∧CntK 5∧CntK 6:=by
 refine⟨?_,?_,?_⟩
 all_goals
  intro N ih n s l hN left deep hleft hdeep w p a m c hE hl hs hp r hr hkd
  simp only [cntS,tsz,tdep,nodesS,Bool.and_eq_true,← hl.1] at hr
  refine ret_of hE func203 rfl [.agg [.int .i64 _,.val (.int .i64 n),.val (.string s),.val (.slice a m c)],.val (.int .i64 (Int.ofNat left)),.val (.int .i64 (Int.ofNat deep)),FA p] rfl fun Q hQ=>?_
  refine .sy (prog_okB _) ?_
  intro _ _ _ _ _ _ _ _ _ _ _ _ _ _ Hc Hs Ha Hw Hd Ho Hl Hn Hi Hk Hv Hz Hr Hx
  cbv
  refine Hc _ _ _ _ ?_
  rintro(_|_) hd<;>cbv
  ·have hd:1≤deep:=by simp [cmp0] at hd;omega
   refine Hc _ _ _ _ ?_
   rintro(_|_) hl0<;>cbv
   ·have hl0:1≤left:=by simp [cmp0] at hl0;omega
    (first|((have _:Kd 4:=by with_reducible assumption);refine Hv _ _ _ _ _ (callv_ret (nodeS _ n s m) AV.bool call321 rfl rfl rfl (fun _=>rfl) (fun w2 hx=>form4_ret (hE.ext hx) (hp.mono (ext_hb hx)) _ n s a m c hs) ?_))|((have _:Kd 5:=by with_reducible assumption);refine Hv _ _ _ _ _ (callv_ret (nodeS _ n s m) AV.bool call322 rfl rfl rfl (fun _=>rfl) (fun w2 hx=>form5_ret (hE.ext hx) (hp.mono (ext_hb hx)) _ n s a m c hs) ?_))|((have _:Kd 6:=by with_reducible assumption);refine Hv _ _ _ _ _ (callv_ret (nodeS _ n s m) AV.bool call323 rfl rfl rfl (fun _=>rfl) (fun w2 hx=>form6_ret (hE.ext hx) (hp.mono (ext_hb hx)) _ n s a m c hs) ?_)))
    rintro(_|_) hu<;>cbv
    ·have hrr:r=left+1:=by rw [hr,if_neg];intro q;rw [← hu] at q;exact absurd q.2.2.1 (by decide)
     refine Ha _ _ _ _ _ ?_
     rintro q rfl
     rw [ar0_suc (by omega)]
     cbv
     (with_reducible refine hQ _ _ ?_);refine⟨rfl,rfl,_,rfl,rfl,?_⟩
     rw [hrr];rfl
    ·refine Hn _ _ _ (len_sl rfl rfl ?_)
     cbv
     have hr1:r=if 1+tszs (l.drop 0)≤left∧tdeps (l.drop 0)≤deep - 1∧nodessS (l.drop 0)=true then 1+tszs (l.drop 0) else left+1:=by
      rw [hr,← hu,List.drop_zero,Nat.add_comm 1]
      congr 1
      exact propext ⟨fun q=>⟨q.1,by omega,q.2.2.2⟩,fun q=>⟨q.1,by omega,rfl,q.2.2⟩⟩
     refine Hr _ _ _ (CodeP.loopN 28 (fun x:Nat×Nat=>mkS [(1,.val (.int .i64 (Int.ofNat left))),(2,.val (.int .i64 (Int.ofNat deep))),(7,.ptr 2 0),(9,.val (.int .i64 (Int.ofNat x.2))),(40,.val (.slice a m c)),(41,.val (.int .i64 (Int.ofNat m))),(42,.val (.int .i64 (Int.ofNat x.1)))] [(0,.ro calcAVs),(2,.cells [.nfn,.val (.func (.func 317) #[] #[.pointer (some p)]),.val (.func (.func 318) #[] #[.pointer (some p)]),.val (.func (.func 319) #[] #[.pointer (some p)]),.val (.func (.func 321) #[] #[.pointer (some p)]),.val (.func (.func 322) #[] #[.pointer (some p)]),.val (.func (.func 323) #[] #[.pointer (some p)])] 0)] 28)
      (fun x=>m - x.1) (fun x=>x.1≤m∧x.2≤left∧r=if x.2+tszs (l.drop x.1)≤left∧tdeps (l.drop x.1)≤deep - 1∧nodessS (l.drop x.1)=true then x.2+tszs (l.drop x.1) else left+1) (0,1) ⟨Nat.zero_le _,hl0,hr1⟩ (sub_mk sbt sbh) rfl rfl (fun _=>⟨rfl,rfl⟩) ?_)
     clear hr hr1
     rintro G ⟨i,j⟩ ⟨hi,hj,hri⟩ hG
     simp only at hi hj hri
     have hmb:=hl.2.1
     refine .sy (prog_okB _) ?_
     intro _ _ _ _ _ _ _ _ _ _ _ _ _ _ Hc2 Hs2 Ha2 Hw2 Hd2 Ho2 Hl2 Hn2 Hi2 Hk2 Hv2 Hz2 Hr2 Hx2
     cbv
     refine Hc2 _ _ _ _ ?_
     rintro(_|_) h2<;>cbv
     ·have hge:m≤i:=by simpa [cmp0] using h2
      (with_reducible refine hQ _ _ ?_);refine⟨rfl,rfl,_,rfl,rfl,?_⟩
      rw [hri,List.drop_of_length_le (by have:=hl.1;omega),if_pos ⟨by simp only [tszs];omega,Nat.zero_le _,rfl⟩];rfl
     ·have hlt:i<m:=by simpa [cmp0] using h2
      refine Hi2 _ _ _ _ (idx_tm hl hlt ?_)
      rintro p2 ⟨k1,n1,s1,l1⟩ cs1 hg hc ht1
      cbv
      refine Hl2 _ _ _ (load_tm hc ht1 ?_)
      obtain⟨a1,m1,c1,rfl,hl1⟩:=ht1.out
      have hm:=tsz_mem hg
      simp only [cnt_step (deep:=deep - 1) hg hj] at hri
      cbv
      refine Ha2 _ _ _ _ _ ?_
      intro q hq
      obtain⟨j2,hj2⟩:∃ j2,j2=left - j:=⟨_,rfl⟩
      obtain rfl:q=Int.ofNat j2:=by rw [hq,hj2,ar0_sub (by simp<;>omega) (by simp<;>omega)];simp;omega
      clear hq
      cbv
      refine Ha2 _ _ _ _ _ ?_
      intro q hq
      obtain⟨d2,hd2⟩:∃ d2,d2=deep - 1:=⟨_,rfl⟩
      obtain rfl:q=Int.ofNat d2:=by rw [hq,hd2,ar0_sub (by simp<;>omega) (by simp<;>omega)];simp;omega
      clear hq
      rw [← hj2,← hd2] at hri
      cbv
      refine Hk2 _ _ _ _ _ (callIn _ call203 rfl (fun w' hx=>ih _ (by omega) j2 d2 (by omega) (by omega) (hE.ext hx) (ht1.mono (ext_hb hx)) (hp.mono (ext_hb hx))) ?_)
      have hcb:cntS j2 d2 (.mk k1 n1 s1 l1)≤4001:=by unfold cntS;split<;>omega
      obtain⟨z,hz⟩:∃ z,z=cntS j2 d2 (.mk k1 n1 s1 l1):=⟨_,rfl⟩
      rw [← hz] at hri hcb ⊢
      intro q hq
      subst hq
      cbv
      refine Ha2 _ _ _ _ _ ?_
      intro q hq
      obtain⟨j3,hj3⟩:∃ j3,j3=j+z:=⟨_,rfl⟩
      obtain rfl:q=Int.ofNat j3:=by rw [hq,hj3];exact ar0_addN (by omega)
      clear hq
      rw [← hj3] at hri
      cbv
      refine Hc2 _ _ _ _ ?_
      rintro(_|_) h4<;>cbv
      ·have h4:j3≤left:=by simp [cmp0] at h4;omega
       refine Ha2 _ _ _ _ _ ?_
       rintro q rfl
       rw [ar0_suc (by omega)]
       cbv
       refine hG _ (i+1,j3) rfl (by simp only;omega) ⟨by simp only;omega,h4,?_⟩ (sub_mk sbt sbh) (lt_mk rfl rfl)
       simp only
       have ex:j+tszs (l.drop i)=j3+tszs (l.drop (i+1))∨¬ (j3≤left∧j3+tszs (l.drop (i+1))≤left∧tdeps (l.drop (i+1))≤d2∧nodessS (l.drop (i+1))=true):=by
        by_cases q:tsz (.mk k1 n1 s1 l1)≤j2∧tdep (.mk k1 n1 s1 l1)≤d2∧nodesS (.mk k1 n1 s1 l1)=true
        ·left
         rw [cntS,if_pos q] at hz
         rw [drop_get hg,tszs];omega
        ·rw [cntS,if_neg q] at hz
         omega
       rw [hri]
       simp only [← hd2]
       rcases ex with ex|ex
       ·rw [ex]
        congr 1
        exact propext ⟨fun q=>q.2,fun q=>⟨h4,q⟩⟩
       ·rw [if_neg ex,if_neg fun q=>ex ⟨h4,q⟩]
      ·have h4:left<j3:=by simp [cmp0] at h4;omega
       rw [if_neg fun q=>by omega] at hri
       refine Ha2 _ _ _ _ _ ?_
       rintro q rfl
       rw [ar0_suc (by omega)]
       cbv
       (with_reducible refine hQ _ _ ?_);refine⟨rfl,rfl,_,rfl,rfl,?_⟩
       rw [hri];rfl
   ·have hl0:left<1:=by simp [cmp0] at hl0;omega
    have hrr:r=left+1:=by rw [hr,if_neg];intro q;omega
    refine Ha _ _ _ _ _ ?_
    rintro q rfl
    rw [ar0_suc (by omega)]
    cbv
    (with_reducible refine hQ _ _ ?_);refine⟨rfl,rfl,_,rfl,rfl,?_⟩
    rw [hrr];rfl
  ·have hd:deep<1:=by simp [cmp0] at hd;omega
   have hrr:r=left+1:=by rw [hr,if_neg];intro q;omega
   refine Ha _ _ _ _ _ ?_
   rintro q rfl
   rw [ar0_suc (by omega)]
   cbv
   (with_reducible refine hQ _ _ ?_);refine⟨rfl,rfl,_,rfl,rfl,?_⟩
   rw [hrr];rfl
end Go.Proofs.YtaacpiniakmpbaaGreatDoor
