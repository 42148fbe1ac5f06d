/- The kinds of goals whose names are none of those. (Printed by wip/gen/genb6.py.) -/
import Derived.Test.YtaacpiniakmpbaaGreatDoorV0
import Derived.Test.YtaacpiniakmpbaaGreatDoorV1
import Derived.Test.YtaacpiniakmpbaaGreatDoorV2
namespace Go.Proofs.YtaacpiniakmpbaaGreatDoor
open Go Ev Tryz
set_option linter.unusedSimpArgs false
set_option linter.unusedVariables false
set_option maxHeartbeats 8000000
set_option maxRecDepth 10000
theorem kind_n0 {w:World} (hE:Env w) (k n:Int) {l:List Nat} (a:Option Addr) (m c:Nat) (hl:(l.all fun n=>Nat.blt n 256)=true) (n1:l≠[118,101,99,116,111,114,95,110,101,119]) (n2:l≠[118,101,99,116,111,114,95,103,101,116]) (n3:l≠[118,101,99,116,111,114,95,115,101,116]) (n4:l≠[118,101,99,116,111,114,95,115,105,122,101]) (n5:l≠[115,116,114,105,110,103,95,110,101,119]) (n6:l≠[115,116,114,105,110,103,95,103,101,116]) (n7:l≠[115,116,114,105,110,103,95,115,101,116]) (n8:l≠[115,116,114,105,110,103,95,115,105,122,101]) (n9:l≠[115,116,114,105,110,103,95,106,111,105,110]) (n10:l≠[116,114,117,101]) (n11:l≠[61]) (n12:l≠[58,61]) (n13:l≠[64]) (n14:l≠[58,45]) (n15:l≠[44]) (n16:l≠[124]) (n17:l≠[111,116,104,101,114,119,105,115,101]) (n18:l≠[97,108,116,101,114,110,97,116,105,118,101,108,121]):Ret Tryz.prog 205 #[.agg #[.int .i64 k,.int .i64 n,.string (strB l),.slice a m c]] w (.int .i64 (plainS k (strB l) m)):=by
 have hs:bytesOf (strB l)=l:=strB_bytes hl
 obtain⟨r,hr⟩:∃ r,r=plainS k (strB l) m:=⟨_,rfl⟩
 rw [← hr]
 rw [plainS,hs] at hr
 simp only [dataL,fixedL,List.mem_cons,Prod.mk.injEq,List.not_mem_nil,n1,n2,n3,n4,n5,n6,n7,n8,n9,n10,n11,n12,n13,n14,n15,n16,n17,n18,false_and,and_false,or_false,if_false] at hr
 have h1:=not_key n1
 rw [bytesEq.eq_def] at h1
 have h2:=not_key n2
 rw [bytesEq.eq_def] at h2
 have h3:=not_key n3
 rw [bytesEq.eq_def] at h3
 have h4:=not_key n4
 rw [bytesEq.eq_def] at h4
 have h5:=not_key n5
 rw [bytesEq.eq_def] at h5
 have h6:=not_key n6
 rw [bytesEq.eq_def] at h6
 have h7:=not_key n7
 rw [bytesEq.eq_def] at h7
 have h8:=not_key n8
 rw [bytesEq.eq_def] at h8
 have h9:=not_key n9
 rw [bytesEq.eq_def] at h9
 have h10:=not_key n10
 rw [bytesEq.eq_def] at h10
 have h11:=not_key n11
 rw [bytesEq.eq_def] at h11
 have h12:=not_key n12
 rw [bytesEq.eq_def] at h12
 have h13:=not_key n13
 rw [bytesEq.eq_def] at h13
 have h14:=not_key n14
 rw [bytesEq.eq_def] at h14
 have h15:=not_key n15
 rw [bytesEq.eq_def] at h15
 have h16:=not_key n16
 rw [bytesEq.eq_def] at h16
 have h17:=not_key n17
 rw [bytesEq.eq_def] at h17
 have h18:=not_key n18
 rw [bytesEq.eq_def] at h18
 refine ret_of hE func205 rfl [.agg [.val (.int .i64 k),.val (.int .i64 n),.str l,.val (.slice a m c)]] (by simp [okVs,okV,hl,Value.oneCell']<;>rfl) fun Q hQ=>?_
 refine .sy (prog_okB _) ?_
 intro _ _ _ _ _ _ _ _ _ _ _ _ _ _ Hc Hs Ha Hw Hd Ho Hl Hn Hi Hk Hv Hz Hr Hx
 cbv
 refine Hk _ _ _ _ _ (callGn (decide (k=3)||decide (k=5)) (fun b=>.tup [.agg [.str l,.int .i64 (Int.ofNat m)],.bool b]) call324 (by simp [okVs,okV,hl,Value.oneCell']<;>rfl) (fun _=>(by simp [okVs,okV,hl,Value.oneCell']<;>rfl)) (fun w2 hx=>symbol_ret (hE.ext hx) k n (strB l) a m c) ?_)
 rintro(_|_) hb<;>cbv
 all_goals
  refine Hk _ _ _ _ _ (callR_obj call325 rfl rfl (fun w' hx=>operations_ret (hE.ext hx)) ?_)
  cbv
  repeat'(first|((with_reducible refine hQ _ _ ?_);refine⟨rfl,rfl,_,rfl,rfl,?_⟩)|((with_reducible first|refine Hc _ _ _ _ ?_|refine Hs _ _ _ _ ?_);rintro(_|_) hq0<;>cbv)|((with_reducible first|refine Ha _ _ _ _ _ ?_|refine Hw _ _ _ ?_);intro _ hn;cbv)|((with_reducible refine Hn _ _ _ ?_);(first|refine len_sl rfl rfl ?_|(refine len_st ?_;intro _ hm));cbv)|((with_reducible refine Hk 326 _ _ _ _ ?_);refine callBo _ call326 (by simp [okVs,okV,hl,Value.oneCell']<;>rfl) (fun w2 hx=>isAtom_ret (hE.ext hx) k n (strB l) a m c _) ?_;rintro(_|_) hu<;>cbv)|((with_reducible refine Hk 204 _ _ _ _ ?_);refine callBo _ call204 (by simp [okVs,okV,hl,Value.oneCell']<;>rfl) (fun w2 hx=>isFun_ret (hE.ext hx) k n (strB l) a m c _ _) ?_;rintro(_|_) hu<;>cbv)|((with_reducible refine Hk 327 _ _ _ _ ?_);refine fixed_call ?_;cbv)|(apply And.intro (And.intro (And.intro rfl trivial) trivial))|(simp only [h1,h2,h3,h4,h5,h6,h7,h8,h9,h10,h11,h12,h13,h14,h15,h16,h17,h18];cbv))
 all_goals(clear Hc Hs Ha Hw Hd Ho Hl Hn Hi Hk Hv Hz Hr Hx;clear hQ;simp only [toV,toVs,retA,Value.int.injEq,isAtomS,isFunS,by_true,by_eq,by_is,hs] at *;clear h1 h2 h3 h4 h5 h6 h7 h8 h9 h10 h11 h12 h13 h14 h15 h16 h17 h18;grind [cmp0])
theorem kind_ret {w:World} (hE:Env w) (k n:Int) (s:ByteArray) (a:Option Addr) (m c:Nat):Ret Tryz.prog 205 #[.agg #[.int .i64 k,.int .i64 n,.string s,.slice a m c]] w (.int .i64 (plainS k s m)):=by
 obtain⟨l,hl,rfl⟩:∃ l,(l.all fun n=>Nat.blt n 256)=true∧s=strB l:=⟨bytesOf s,bytes_lt s,(str_eq s).symm⟩
 by_cases n1:l=[118,101,99,116,111,114,95,110,101,119]
 ·subst n1;exact kind_n1 hE k n a m c
 by_cases n2:l=[118,101,99,116,111,114,95,103,101,116]
 ·subst n2;exact kind_n2 hE k n a m c
 by_cases n3:l=[118,101,99,116,111,114,95,115,101,116]
 ·subst n3;exact kind_n3 hE k n a m c
 by_cases n4:l=[118,101,99,116,111,114,95,115,105,122,101]
 ·subst n4;exact kind_n4 hE k n a m c
 by_cases n5:l=[115,116,114,105,110,103,95,110,101,119]
 ·subst n5;exact kind_n5 hE k n a m c
 by_cases n6:l=[115,116,114,105,110,103,95,103,101,116]
 ·subst n6;exact kind_n6 hE k n a m c
 by_cases n7:l=[115,116,114,105,110,103,95,115,101,116]
 ·subst n7;exact kind_n7 hE k n a m c
 by_cases n8:l=[115,116,114,105,110,103,95,115,105,122,101]
 ·subst n8;exact kind_n8 hE k n a m c
 by_cases n9:l=[115,116,114,105,110,103,95,106,111,105,110]
 ·subst n9;exact kind_n9 hE k n a m c
 by_cases n10:l=[116,114,117,101]
 ·subst n10;exact kind_n10 hE k n a m c
 by_cases n11:l=[61]
 ·subst n11;exact kind_n11 hE k n a m c
 by_cases n12:l=[58,61]
 ·subst n12;exact kind_n12 hE k n a m c
 by_cases n13:l=[64]
 ·subst n13;exact kind_n13 hE k n a m c
 by_cases n14:l=[58,45]
 ·subst n14;exact kind_n14 hE k n a m c
 by_cases n15:l=[44]
 ·subst n15;exact kind_n15 hE k n a m c
 by_cases n16:l=[124]
 ·subst n16;exact kind_n16 hE k n a m c
 by_cases n17:l=[111,116,104,101,114,119,105,115,101]
 ·subst n17;exact kind_n17 hE k n a m c
 by_cases n18:l=[97,108,116,101,114,110,97,116,105,118,101,108,121]
 ·subst n18;exact kind_n18 hE k n a m c
 exact kind_n0 hE k n a m c hl n1 n2 n3 n4 n5 n6 n7 n8 n9 n10 n11 n12 n13 n14 n15 n16 n17 n18
end Go.Proofs.YtaacpiniakmpbaaGreatDoor
