/- The kinds of goals by their names. (Printed by wip/gen/genb6.py.) -/
import Derived.Test.YtaacpiniakmpbaaGreatDoorV0
namespace Go.Proofs.YtaacpiniakmpbaaGreatDoor
open Go Ev Tryz
set_option linter.unusedSimpArgs false
set_option linter.unusedVariables false
set_option maxHeartbeats 8000000
set_option maxRecDepth 10000
theorem kind_n13 {w:World} (hE:Env w) (k n:Int) (a:Option Addr) (m c:Nat):Ret Tryz.prog 205 #[.agg #[.int .i64 k,.int .i64 n,.string (strB [64]),.slice a m c]] w (.int .i64 (plainS k (strB [64]) m)):=by
 have hs:bytesOf (strB [64])=[64]:=rfl
 obtain⟨r,hr⟩:∃ r,r=plainS k (strB [64]) m:=⟨_,rfl⟩
 rw [← hr]
 rw [plainS,hs] at hr
 simp only [dataL,fixedL,List.mem_cons,Prod.mk.injEq,List.cons.injEq,List.not_mem_nil,Nat.reduceEqDiff,false_and,and_false,true_and,and_true,false_or,or_false,reduceCtorEq] at hr
 by_cases hm:m=2
 ·have hm2:Nat.beq m 2=true:=by subst hm;rfl
  rw [Nat.beq.eq_def] at hm2
  refine ret_of hE func205 rfl [.agg [.val (.int .i64 k),.val (.int .i64 n),.str [64],.val (.slice a m c)]] rfl fun Q hQ=>?_
  refine .sy (prog_okB _) ?_
  intro _ _ _ _ _ _ _ _ _ _ _ _ _ _ Hc Hs Ha Hw Hd Ho Hl Hn Hi Hk Hv Hz Hr Hx
  cbv
  refine Hk _ _ _ _ _ (callGn (decide (k=3)||decide (k=5)) (fun b=>.tup [.agg [.str [64],.int .i64 (Int.ofNat m)],.bool b]) call324 rfl (fun _=>rfl) (fun w2 hx=>symbol_ret (hE.ext hx) k n (strB [64]) a m c) ?_)
  rintro(_|_) hb<;>cbv
  all_goals
   refine Hk _ _ _ _ _ (callR_obj call325 rfl rfl (fun w' hx=>operations_ret (hE.ext hx)) ?_)
   cbv
   repeat'(first|((with_reducible refine hQ _ _ ?_);refine⟨rfl,rfl,_,rfl,rfl,?_⟩)|((with_reducible first|refine Hc _ _ _ _ ?_|refine Hs _ _ _ _ ?_);rintro(_|_) hq0<;>cbv)|((with_reducible first|refine Ha _ _ _ _ _ ?_|refine Hw _ _ _ ?_);intro _ hn;cbv)|((with_reducible refine Hn _ _ _ ?_);(first|refine len_sl rfl rfl ?_|(refine len_st ?_;intro _ hm));cbv)|((with_reducible refine Hk 326 _ _ _ _ ?_);refine callBo _ call326 rfl (fun w2 hx=>isAtom_ret (hE.ext hx) k n (strB [64]) a m c _) ?_;rintro(_|_) hu<;>cbv)|((with_reducible refine Hk 204 _ _ _ _ ?_);refine callBo _ call204 rfl (fun w2 hx=>isFun_ret (hE.ext hx) k n (strB [64]) a m c _ _) ?_;rintro(_|_) hu<;>cbv)|((with_reducible refine Hk 327 _ _ _ _ ?_);refine fixed_call ?_;cbv)|(apply And.intro (And.intro (And.intro rfl trivial) trivial))|(simp only [hm2];cbv))
  all_goals(clear Hc Hs Ha Hw Hd Ho Hl Hn Hi Hk Hv Hz Hr Hx;clear hQ;simp only [toV,toVs,retA,Value.int.injEq,isAtomS,isFunS,by_true,by_eq,by_is] at *;grind [cmp0])
 ·have hm2:Nat.beq m 2=false:=by rw [Bool.eq_false_iff];intro q;have:=Nat.eq_of_beq_eq_true q;omega
  rw [Nat.beq.eq_def] at hm2
  refine ret_of hE func205 rfl [.agg [.val (.int .i64 k),.val (.int .i64 n),.str [64],.val (.slice a m c)]] rfl fun Q hQ=>?_
  refine .sy (prog_okB _) ?_
  intro _ _ _ _ _ _ _ _ _ _ _ _ _ _ Hc Hs Ha Hw Hd Ho Hl Hn Hi Hk Hv Hz Hr Hx
  cbv
  refine Hk _ _ _ _ _ (callGn (decide (k=3)||decide (k=5)) (fun b=>.tup [.agg [.str [64],.int .i64 (Int.ofNat m)],.bool b]) call324 rfl (fun _=>rfl) (fun w2 hx=>symbol_ret (hE.ext hx) k n (strB [64]) a m c) ?_)
  rintro(_|_) hb<;>cbv
  all_goals
   refine Hk _ _ _ _ _ (callR_obj call325 rfl rfl (fun w' hx=>operations_ret (hE.ext hx)) ?_)
   cbv
   repeat'(first|((with_reducible refine hQ _ _ ?_);refine⟨rfl,rfl,_,rfl,rfl,?_⟩)|((with_reducible first|refine Hc _ _ _ _ ?_|refine Hs _ _ _ _ ?_);rintro(_|_) hq0<;>cbv)|((with_reducible first|refine Ha _ _ _ _ _ ?_|refine Hw _ _ _ ?_);intro _ hn;cbv)|((with_reducible refine Hn _ _ _ ?_);(first|refine len_sl rfl rfl ?_|(refine len_st ?_;intro _ hm));cbv)|((with_reducible refine Hk 326 _ _ _ _ ?_);refine callBo _ call326 rfl (fun w2 hx=>isAtom_ret (hE.ext hx) k n (strB [64]) a m c _) ?_;rintro(_|_) hu<;>cbv)|((with_reducible refine Hk 204 _ _ _ _ ?_);refine callBo _ call204 rfl (fun w2 hx=>isFun_ret (hE.ext hx) k n (strB [64]) a m c _ _) ?_;rintro(_|_) hu<;>cbv)|((with_reducible refine Hk 327 _ _ _ _ ?_);refine fixed_call ?_;cbv)|(apply And.intro (And.intro (And.intro rfl trivial) trivial))|(simp only [hm2];cbv))
  all_goals(clear Hc Hs Ha Hw Hd Ho Hl Hn Hi Hk Hv Hz Hr Hx;clear hQ;simp only [toV,toVs,retA,Value.int.injEq,isAtomS,isFunS,by_true,by_eq,by_is] at *;grind [cmp0])
theorem kind_n14 {w:World} (hE:Env w) (k n:Int) (a:Option Addr) (m c:Nat):Ret Tryz.prog 205 #[.agg #[.int .i64 k,.int .i64 n,.string (strB [58,45]),.slice a m c]] w (.int .i64 (plainS k (strB [58,45]) m)):=by
 have hs:bytesOf (strB [58,45])=[58,45]:=rfl
 obtain⟨r,hr⟩:∃ r,r=plainS k (strB [58,45]) m:=⟨_,rfl⟩
 rw [← hr]
 rw [plainS,hs] at hr
 simp only [dataL,fixedL,List.mem_cons,Prod.mk.injEq,List.cons.injEq,List.not_mem_nil,Nat.reduceEqDiff,false_and,and_false,true_and,and_true,false_or,or_false,reduceCtorEq] at hr
 by_cases hm:m=2
 ·have hm2:Nat.beq m 2=true:=by subst hm;rfl
  rw [Nat.beq.eq_def] at hm2
  have hm1:Nat.beq m 1=false:=by rw [Bool.eq_false_iff];intro q;have:=Nat.eq_of_beq_eq_true q;omega
  rw [Nat.beq.eq_def] at hm1
  refine ret_of hE func205 rfl [.agg [.val (.int .i64 k),.val (.int .i64 n),.str [58,45],.val (.slice a m c)]] rfl fun Q hQ=>?_
  refine .sy (prog_okB _) ?_
  intro _ _ _ _ _ _ _ _ _ _ _ _ _ _ Hc Hs Ha Hw Hd Ho Hl Hn Hi Hk Hv Hz Hr Hx
  cbv
  refine Hk _ _ _ _ _ (callGn (decide (k=3)||decide (k=5)) (fun b=>.tup [.agg [.str [58,45],.int .i64 (Int.ofNat m)],.bool b]) call324 rfl (fun _=>rfl) (fun w2 hx=>symbol_ret (hE.ext hx) k n (strB [58,45]) a m c) ?_)
  rintro(_|_) hb<;>cbv
  all_goals
   refine Hk _ _ _ _ _ (callR_obj call325 rfl rfl (fun w' hx=>operations_ret (hE.ext hx)) ?_)
   cbv
   repeat'(first|((with_reducible refine hQ _ _ ?_);refine⟨rfl,rfl,_,rfl,rfl,?_⟩)|((with_reducible first|refine Hc _ _ _ _ ?_|refine Hs _ _ _ _ ?_);rintro(_|_) hq0<;>cbv)|((with_reducible first|refine Ha _ _ _ _ _ ?_|refine Hw _ _ _ ?_);intro _ hn;cbv)|((with_reducible refine Hn _ _ _ ?_);(first|refine len_sl rfl rfl ?_|(refine len_st ?_;intro _ hm));cbv)|((with_reducible refine Hk 326 _ _ _ _ ?_);refine callBo _ call326 rfl (fun w2 hx=>isAtom_ret (hE.ext hx) k n (strB [58,45]) a m c _) ?_;rintro(_|_) hu<;>cbv)|((with_reducible refine Hk 204 _ _ _ _ ?_);refine callBo _ call204 rfl (fun w2 hx=>isFun_ret (hE.ext hx) k n (strB [58,45]) a m c _ _) ?_;rintro(_|_) hu<;>cbv)|((with_reducible refine Hk 327 _ _ _ _ ?_);refine fixed_call ?_;cbv)|(apply And.intro (And.intro (And.intro rfl trivial) trivial))|(simp only [hm2,hm1];cbv))
  all_goals(clear Hc Hs Ha Hw Hd Ho Hl Hn Hi Hk Hv Hz Hr Hx;clear hQ;simp only [toV,toVs,retA,Value.int.injEq,isAtomS,isFunS,by_true,by_eq,by_is] at *;grind [cmp0])
 ·have hm2:Nat.beq m 2=false:=by rw [Bool.eq_false_iff];intro q;have:=Nat.eq_of_beq_eq_true q;omega
  rw [Nat.beq.eq_def] at hm2
  by_cases hn:m=1
  ·have hm1:Nat.beq m 1=true:=by subst hn;rfl
   rw [Nat.beq.eq_def] at hm1
   refine ret_of hE func205 rfl [.agg [.val (.int .i64 k),.val (.int .i64 n),.str [58,45],.val (.slice a m c)]] rfl fun Q hQ=>?_
   refine .sy (prog_okB _) ?_
   intro _ _ _ _ _ _ _ _ _ _ _ _ _ _ Hc Hs Ha Hw Hd Ho Hl Hn Hi Hk Hv Hz Hr Hx
   cbv
   refine Hk _ _ _ _ _ (callGn (decide (k=3)||decide (k=5)) (fun b=>.tup [.agg [.str [58,45],.int .i64 (Int.ofNat m)],.bool b]) call324 rfl (fun _=>rfl) (fun w2 hx=>symbol_ret (hE.ext hx) k n (strB [58,45]) a m c) ?_)
   rintro(_|_) hb<;>cbv
   all_goals
    refine Hk _ _ _ _ _ (callR_obj call325 rfl rfl (fun w' hx=>operations_ret (hE.ext hx)) ?_)
    cbv
    repeat'(first|((with_reducible refine hQ _ _ ?_);refine⟨rfl,rfl,_,rfl,rfl,?_⟩)|((with_reducible first|refine Hc _ _ _ _ ?_|refine Hs _ _ _ _ ?_);rintro(_|_) hq0<;>cbv)|((with_reducible first|refine Ha _ _ _ _ _ ?_|refine Hw _ _ _ ?_);intro _ hn;cbv)|((with_reducible refine Hn _ _ _ ?_);(first|refine len_sl rfl rfl ?_|(refine len_st ?_;intro _ hm));cbv)|((with_reducible refine Hk 326 _ _ _ _ ?_);refine callBo _ call326 rfl (fun w2 hx=>isAtom_ret (hE.ext hx) k n (strB [58,45]) a m c _) ?_;rintro(_|_) hu<;>cbv)|((with_reducible refine Hk 204 _ _ _ _ ?_);refine callBo _ call204 rfl (fun w2 hx=>isFun_ret (hE.ext hx) k n (strB [58,45]) a m c _ _) ?_;rintro(_|_) hu<;>cbv)|((with_reducible refine Hk 327 _ _ _ _ ?_);refine fixed_call ?_;cbv)|(apply And.intro (And.intro (And.intro rfl trivial) trivial))|(simp only [hm2,hm1];cbv))
   all_goals(clear Hc Hs Ha Hw Hd Ho Hl Hn Hi Hk Hv Hz Hr Hx;clear hQ;simp only [toV,toVs,retA,Value.int.injEq,isAtomS,isFunS,by_true,by_eq,by_is] at *;grind [cmp0])
  ·have hm1:Nat.beq m 1=false:=by rw [Bool.eq_false_iff];intro q;have:=Nat.eq_of_beq_eq_true q;omega
   rw [Nat.beq.eq_def] at hm1
   refine ret_of hE func205 rfl [.agg [.val (.int .i64 k),.val (.int .i64 n),.str [58,45],.val (.slice a m c)]] rfl fun Q hQ=>?_
   refine .sy (prog_okB _) ?_
   intro _ _ _ _ _ _ _ _ _ _ _ _ _ _ Hc Hs Ha Hw Hd Ho Hl Hn Hi Hk Hv Hz Hr Hx
   cbv
   refine Hk _ _ _ _ _ (callGn (decide (k=3)||decide (k=5)) (fun b=>.tup [.agg [.str [58,45],.int .i64 (Int.ofNat m)],.bool b]) call324 rfl (fun _=>rfl) (fun w2 hx=>symbol_ret (hE.ext hx) k n (strB [58,45]) a m c) ?_)
   rintro(_|_) hb<;>cbv
   all_goals
    refine Hk _ _ _ _ _ (callR_obj call325 rfl rfl (fun w' hx=>operations_ret (hE.ext hx)) ?_)
    cbv
    repeat'(first|((with_reducible refine hQ _ _ ?_);refine⟨rfl,rfl,_,rfl,rfl,?_⟩)|((with_reducible first|refine Hc _ _ _ _ ?_|refine Hs _ _ _ _ ?_);rintro(_|_) hq0<;>cbv)|((with_reducible first|refine Ha _ _ _ _ _ ?_|refine Hw _ _ _ ?_);intro _ hn;cbv)|((with_reducible refine Hn _ _ _ ?_);(first|refine len_sl rfl rfl ?_|(refine len_st ?_;intro _ hm));cbv)|((with_reducible refine Hk 326 _ _ _ _ ?_);refine callBo _ call326 rfl (fun w2 hx=>isAtom_ret (hE.ext hx) k n (strB [58,45]) a m c _) ?_;rintro(_|_) hu<;>cbv)|((with_reducible refine Hk 204 _ _ _ _ ?_);refine callBo _ call204 rfl (fun w2 hx=>isFun_ret (hE.ext hx) k n (strB [58,45]) a m c _ _) ?_;rintro(_|_) hu<;>cbv)|((with_reducible refine Hk 327 _ _ _ _ ?_);refine fixed_call ?_;cbv)|(apply And.intro (And.intro (And.intro rfl trivial) trivial))|(simp only [hm2,hm1];cbv))
   all_goals(clear Hc Hs Ha Hw Hd Ho Hl Hn Hi Hk Hv Hz Hr Hx;clear hQ;simp only [toV,toVs,retA,Value.int.injEq,isAtomS,isFunS,by_true,by_eq,by_is] at *;grind [cmp0])
theorem kind_n15 {w:World} (hE:Env w) (k n:Int) (a:Option Addr) (m c:Nat):Ret Tryz.prog 205 #[.agg #[.int .i64 k,.int .i64 n,.string (strB [44]),.slice a m c]] w (.int .i64 (plainS k (strB [44]) m)):=by
 have hs:bytesOf (strB [44])=[44]:=rfl
 obtain⟨r,hr⟩:∃ r,r=plainS k (strB [44]) m:=⟨_,rfl⟩
 rw [← hr]
 rw [plainS,hs] at hr
 simp only [dataL,fixedL,List.mem_cons,Prod.mk.injEq,List.cons.injEq,List.not_mem_nil,Nat.reduceEqDiff,false_and,and_false,true_and,and_true,false_or,or_false,reduceCtorEq] at hr
 by_cases hm:m=2
 ·have hm2:Nat.beq m 2=true:=by subst hm;rfl
  rw [Nat.beq.eq_def] at hm2
  refine ret_of hE func205 rfl [.agg [.val (.int .i64 k),.val (.int .i64 n),.str [44],.val (.slice a m c)]] rfl fun Q hQ=>?_
  refine .sy (prog_okB _) ?_
  intro _ _ _ _ _ _ _ _ _ _ _ _ _ _ Hc Hs Ha Hw Hd Ho Hl Hn Hi Hk Hv Hz Hr Hx
  cbv
  refine Hk _ _ _ _ _ (callGn (decide (k=3)||decide (k=5)) (fun b=>.tup [.agg [.str [44],.int .i64 (Int.ofNat m)],.bool b]) call324 rfl (fun _=>rfl) (fun w2 hx=>symbol_ret (hE.ext hx) k n (strB [44]) a m c) ?_)
  rintro(_|_) hb<;>cbv
  all_goals
   refine Hk _ _ _ _ _ (callR_obj call325 rfl rfl (fun w' hx=>operations_ret (hE.ext hx)) ?_)
   cbv
   repeat'(first|((with_reducible refine hQ _ _ ?_);refine⟨rfl,rfl,_,rfl,rfl,?_⟩)|((with_reducible first|refine Hc _ _ _ _ ?_|refine Hs _ _ _ _ ?_);rintro(_|_) hq0<;>cbv)|((with_reducible first|refine Ha _ _ _ _ _ ?_|refine Hw _ _ _ ?_);intro _ hn;cbv)|((with_reducible refine Hn _ _ _ ?_);(first|refine len_sl rfl rfl ?_|(refine len_st ?_;intro _ hm));cbv)|((with_reducible refine Hk 326 _ _ _ _ ?_);refine callBo _ call326 rfl (fun w2 hx=>isAtom_ret (hE.ext hx) k n (strB [44]) a m c _) ?_;rintro(_|_) hu<;>cbv)|((with_reducible refine Hk 204 _ _ _ _ ?_);refine callBo _ call204 rfl (fun w2 hx=>isFun_ret (hE.ext hx) k n (strB [44]) a m c _ _) ?_;rintro(_|_) hu<;>cbv)|((with_reducible refine Hk 327 _ _ _ _ ?_);refine fixed_call ?_;cbv)|(apply And.intro (And.intro (And.intro rfl trivial) trivial))|(simp only [hm2];cbv))
  all_goals(clear Hc Hs Ha Hw Hd Ho Hl Hn Hi Hk Hv Hz Hr Hx;clear hQ;simp only [toV,toVs,retA,Value.int.injEq,isAtomS,isFunS,by_true,by_eq,by_is] at *;grind [cmp0])
 ·have hm2:Nat.beq m 2=false:=by rw [Bool.eq_false_iff];intro q;have:=Nat.eq_of_beq_eq_true q;omega
  rw [Nat.beq.eq_def] at hm2
  refine ret_of hE func205 rfl [.agg [.val (.int .i64 k),.val (.int .i64 n),.str [44],.val (.slice a m c)]] rfl fun Q hQ=>?_
  refine .sy (prog_okB _) ?_
  intro _ _ _ _ _ _ _ _ _ _ _ _ _ _ Hc Hs Ha Hw Hd Ho Hl Hn Hi Hk Hv Hz Hr Hx
  cbv
  refine Hk _ _ _ _ _ (callGn (decide (k=3)||decide (k=5)) (fun b=>.tup [.agg [.str [44],.int .i64 (Int.ofNat m)],.bool b]) call324 rfl (fun _=>rfl) (fun w2 hx=>symbol_ret (hE.ext hx) k n (strB [44]) a m c) ?_)
  rintro(_|_) hb<;>cbv
  all_goals
   refine Hk _ _ _ _ _ (callR_obj call325 rfl rfl (fun w' hx=>operations_ret (hE.ext hx)) ?_)
   cbv
   repeat'(first|((with_reducible refine hQ _ _ ?_);refine⟨rfl,rfl,_,rfl,rfl,?_⟩)|((with_reducible first|refine Hc _ _ _ _ ?_|refine Hs _ _ _ _ ?_);rintro(_|_) hq0<;>cbv)|((with_reducible first|refine Ha _ _ _ _ _ ?_|refine Hw _ _ _ ?_);intro _ hn;cbv)|((with_reducible refine Hn _ _ _ ?_);(first|refine len_sl rfl rfl ?_|(refine len_st ?_;intro _ hm));cbv)|((with_reducible refine Hk 326 _ _ _ _ ?_);refine callBo _ call326 rfl (fun w2 hx=>isAtom_ret (hE.ext hx) k n (strB [44]) a m c _) ?_;rintro(_|_) hu<;>cbv)|((with_reducible refine Hk 204 _ _ _ _ ?_);refine callBo _ call204 rfl (fun w2 hx=>isFun_ret (hE.ext hx) k n (strB [44]) a m c _ _) ?_;rintro(_|_) hu<;>cbv)|((with_reducible refine Hk 327 _ _ _ _ ?_);refine fixed_call ?_;cbv)|(apply And.intro (And.intro (And.intro rfl trivial) trivial))|(simp only [hm2];cbv))
  all_goals(clear Hc Hs Ha Hw Hd Ho Hl Hn Hi Hk Hv Hz Hr Hx;clear hQ;simp only [toV,toVs,retA,Value.int.injEq,isAtomS,isFunS,by_true,by_eq,by_is] at *;grind [cmp0])
theorem kind_n16 {w:World} (hE:Env w) (k n:Int) (a:Option Addr) (m c:Nat):Ret Tryz.prog 205 #[.agg #[.int .i64 k,.int .i64 n,.string (strB [124]),.slice a m c]] w (.int .i64 (plainS k (strB [124]) m)):=by
 have hs:bytesOf (strB [124])=[124]:=rfl
 obtain⟨r,hr⟩:∃ r,r=plainS k (strB [124]) m:=⟨_,rfl⟩
 rw [← hr]
 rw [plainS,hs] at hr
 simp only [dataL,fixedL,List.mem_cons,Prod.mk.injEq,List.cons.injEq,List.not_mem_nil,Nat.reduceEqDiff,false_and,and_false,true_and,and_true,false_or,or_false,reduceCtorEq] at hr
 by_cases hm:m=2
 ·have hm2:Nat.beq m 2=true:=by subst hm;rfl
  rw [Nat.beq.eq_def] at hm2
  refine ret_of hE func205 rfl [.agg [.val (.int .i64 k),.val (.int .i64 n),.str [124],.val (.slice a m c)]] rfl fun Q hQ=>?_
  refine .sy (prog_okB _) ?_
  intro _ _ _ _ _ _ _ _ _ _ _ _ _ _ Hc Hs Ha Hw Hd Ho Hl Hn Hi Hk Hv Hz Hr Hx
  cbv
  refine Hk _ _ _ _ _ (callGn (decide (k=3)||decide (k=5)) (fun b=>.tup [.agg [.str [124],.int .i64 (Int.ofNat m)],.bool b]) call324 rfl (fun _=>rfl) (fun w2 hx=>symbol_ret (hE.ext hx) k n (strB [124]) a m c) ?_)
  rintro(_|_) hb<;>cbv
  all_goals
   refine Hk _ _ _ _ _ (callR_obj call325 rfl rfl (fun w' hx=>operations_ret (hE.ext hx)) ?_)
   cbv
   repeat'(first|((with_reducible refine hQ _ _ ?_);refine⟨rfl,rfl,_,rfl,rfl,?_⟩)|((with_reducible first|refine Hc _ _ _ _ ?_|refine Hs _ _ _ _ ?_);rintro(_|_) hq0<;>cbv)|((with_reducible first|refine Ha _ _ _ _ _ ?_|refine Hw _ _ _ ?_);intro _ hn;cbv)|((with_reducible refine Hn _ _ _ ?_);(first|refine len_sl rfl rfl ?_|(refine len_st ?_;intro _ hm));cbv)|((with_reducible refine Hk 326 _ _ _ _ ?_);refine callBo _ call326 rfl (fun w2 hx=>isAtom_ret (hE.ext hx) k n (strB [124]) a m c _) ?_;rintro(_|_) hu<;>cbv)|((with_reducible refine Hk 204 _ _ _ _ ?_);refine callBo _ call204 rfl (fun w2 hx=>isFun_ret (hE.ext hx) k n (strB [124]) a m c _ _) ?_;rintro(_|_) hu<;>cbv)|((with_reducible refine Hk 327 _ _ _ _ ?_);refine fixed_call ?_;cbv)|(apply And.intro (And.intro (And.intro rfl trivial) trivial))|(simp only [hm2];cbv))
  all_goals(clear Hc Hs Ha Hw Hd Ho Hl Hn Hi Hk Hv Hz Hr Hx;clear hQ;simp only [toV,toVs,retA,Value.int.injEq,isAtomS,isFunS,by_true,by_eq,by_is] at *;grind [cmp0])
 ·have hm2:Nat.beq m 2=false:=by rw [Bool.eq_false_iff];intro q;have:=Nat.eq_of_beq_eq_true q;omega
  rw [Nat.beq.eq_def] at hm2
  refine ret_of hE func205 rfl [.agg [.val (.int .i64 k),.val (.int .i64 n),.str [124],.val (.slice a m c)]] rfl fun Q hQ=>?_
  refine .sy (prog_okB _) ?_
  intro _ _ _ _ _ _ _ _ _ _ _ _ _ _ Hc Hs Ha Hw Hd Ho Hl Hn Hi Hk Hv Hz Hr Hx
  cbv
  refine Hk _ _ _ _ _ (callGn (decide (k=3)||decide (k=5)) (fun b=>.tup [.agg [.str [124],.int .i64 (Int.ofNat m)],.bool b]) call324 rfl (fun _=>rfl) (fun w2 hx=>symbol_ret (hE.ext hx) k n (strB [124]) a m c) ?_)
  rintro(_|_) hb<;>cbv
  all_goals
   refine Hk _ _ _ _ _ (callR_obj call325 rfl rfl (fun w' hx=>operations_ret (hE.ext hx)) ?_)
   cbv
   repeat'(first|((with_reducible refine hQ _ _ ?_);refine⟨rfl,rfl,_,rfl,rfl,?_⟩)|((with_reducible first|refine Hc _ _ _ _ ?_|refine Hs _ _ _ _ ?_);rintro(_|_) hq0<;>cbv)|((with_reducible first|refine Ha _ _ _ _ _ ?_|refine Hw _ _ _ ?_);intro _ hn;cbv)|((with_reducible refine Hn _ _ _ ?_);(first|refine len_sl rfl rfl ?_|(refine len_st ?_;intro _ hm));cbv)|((with_reducible refine Hk 326 _ _ _ _ ?_);refine callBo _ call326 rfl (fun w2 hx=>isAtom_ret (hE.ext hx) k n (strB [124]) a m c _) ?_;rintro(_|_) hu<;>cbv)|((with_reducible refine Hk 204 _ _ _ _ ?_);refine callBo _ call204 rfl (fun w2 hx=>isFun_ret (hE.ext hx) k n (strB [124]) a m c _ _) ?_;rintro(_|_) hu<;>cbv)|((with_reducible refine Hk 327 _ _ _ _ ?_);refine fixed_call ?_;cbv)|(apply And.intro (And.intro (And.intro rfl trivial) trivial))|(simp only [hm2];cbv))
  all_goals(clear Hc Hs Ha Hw Hd Ho Hl Hn Hi Hk Hv Hz Hr Hx;clear hQ;simp only [toV,toVs,retA,Value.int.injEq,isAtomS,isFunS,by_true,by_eq,by_is] at *;grind [cmp0])
theorem kind_n17 {w:World} (hE:Env w) (k n:Int) (a:Option Addr) (m c:Nat):Ret Tryz.prog 205 #[.agg #[.int .i64 k,.int .i64 n,.string (strB [111,116,104,101,114,119,105,115,101]),.slice a m c]] w (.int .i64 (plainS k (strB [111,116,104,101,114,119,105,115,101]) m)):=by
 have hs:bytesOf (strB [111,116,104,101,114,119,105,115,101])=[111,116,104,101,114,119,105,115,101]:=rfl
 obtain⟨r,hr⟩:∃ r,r=plainS k (strB [111,116,104,101,114,119,105,115,101]) m:=⟨_,rfl⟩
 rw [← hr]
 rw [plainS,hs] at hr
 simp only [dataL,fixedL,List.mem_cons,Prod.mk.injEq,List.cons.injEq,List.not_mem_nil,Nat.reduceEqDiff,false_and,and_false,true_and,and_true,false_or,or_false,reduceCtorEq] at hr
 by_cases hm:m=0
 ·have hm0:Nat.beq m 0=true:=by subst hm;rfl
  rw [Nat.beq.eq_def] at hm0
  refine ret_of hE func205 rfl [.agg [.val (.int .i64 k),.val (.int .i64 n),.str [111,116,104,101,114,119,105,115,101],.val (.slice a m c)]] rfl fun Q hQ=>?_
  refine .sy (prog_okB _) ?_
  intro _ _ _ _ _ _ _ _ _ _ _ _ _ _ Hc Hs Ha Hw Hd Ho Hl Hn Hi Hk Hv Hz Hr Hx
  cbv
  refine Hk _ _ _ _ _ (callGn (decide (k=3)||decide (k=5)) (fun b=>.tup [.agg [.str [111,116,104,101,114,119,105,115,101],.int .i64 (Int.ofNat m)],.bool b]) call324 rfl (fun _=>rfl) (fun w2 hx=>symbol_ret (hE.ext hx) k n (strB [111,116,104,101,114,119,105,115,101]) a m c) ?_)
  rintro(_|_) hb<;>cbv
  all_goals
   refine Hk _ _ _ _ _ (callR_obj call325 rfl rfl (fun w' hx=>operations_ret (hE.ext hx)) ?_)
   cbv
   repeat'(first|((with_reducible refine hQ _ _ ?_);refine⟨rfl,rfl,_,rfl,rfl,?_⟩)|((with_reducible first|refine Hc _ _ _ _ ?_|refine Hs _ _ _ _ ?_);rintro(_|_) hq0<;>cbv)|((with_reducible first|refine Ha _ _ _ _ _ ?_|refine Hw _ _ _ ?_);intro _ hn;cbv)|((with_reducible refine Hn _ _ _ ?_);(first|refine len_sl rfl rfl ?_|(refine len_st ?_;intro _ hm));cbv)|((with_reducible refine Hk 326 _ _ _ _ ?_);refine callBo _ call326 rfl (fun w2 hx=>isAtom_ret (hE.ext hx) k n (strB [111,116,104,101,114,119,105,115,101]) a m c _) ?_;rintro(_|_) hu<;>cbv)|((with_reducible refine Hk 204 _ _ _ _ ?_);refine callBo _ call204 rfl (fun w2 hx=>isFun_ret (hE.ext hx) k n (strB [111,116,104,101,114,119,105,115,101]) a m c _ _) ?_;rintro(_|_) hu<;>cbv)|((with_reducible refine Hk 327 _ _ _ _ ?_);refine fixed_call ?_;cbv)|(apply And.intro (And.intro (And.intro rfl trivial) trivial))|(simp only [hm0];cbv))
  all_goals(clear Hc Hs Ha Hw Hd Ho Hl Hn Hi Hk Hv Hz Hr Hx;clear hQ;simp only [toV,toVs,retA,Value.int.injEq,isAtomS,isFunS,by_true,by_eq,by_is] at *;grind [cmp0])
 ·have hm0:Nat.beq m 0=false:=by rw [Bool.eq_false_iff];intro q;have:=Nat.eq_of_beq_eq_true q;omega
  rw [Nat.beq.eq_def] at hm0
  refine ret_of hE func205 rfl [.agg [.val (.int .i64 k),.val (.int .i64 n),.str [111,116,104,101,114,119,105,115,101],.val (.slice a m c)]] rfl fun Q hQ=>?_
  refine .sy (prog_okB _) ?_
  intro _ _ _ _ _ _ _ _ _ _ _ _ _ _ Hc Hs Ha Hw Hd Ho Hl Hn Hi Hk Hv Hz Hr Hx
  cbv
  refine Hk _ _ _ _ _ (callGn (decide (k=3)||decide (k=5)) (fun b=>.tup [.agg [.str [111,116,104,101,114,119,105,115,101],.int .i64 (Int.ofNat m)],.bool b]) call324 rfl (fun _=>rfl) (fun w2 hx=>symbol_ret (hE.ext hx) k n (strB [111,116,104,101,114,119,105,115,101]) a m c) ?_)
  rintro(_|_) hb<;>cbv
  all_goals
   refine Hk _ _ _ _ _ (callR_obj call325 rfl rfl (fun w' hx=>operations_ret (hE.ext hx)) ?_)
   cbv
   repeat'(first|((with_reducible refine hQ _ _ ?_);refine⟨rfl,rfl,_,rfl,rfl,?_⟩)|((with_reducible first|refine Hc _ _ _ _ ?_|refine Hs _ _ _ _ ?_);rintro(_|_) hq0<;>cbv)|((with_reducible first|refine Ha _ _ _ _ _ ?_|refine Hw _ _ _ ?_);intro _ hn;cbv)|((with_reducible refine Hn _ _ _ ?_);(first|refine len_sl rfl rfl ?_|(refine len_st ?_;intro _ hm));cbv)|((with_reducible refine Hk 326 _ _ _ _ ?_);refine callBo _ call326 rfl (fun w2 hx=>isAtom_ret (hE.ext hx) k n (strB [111,116,104,101,114,119,105,115,101]) a m c _) ?_;rintro(_|_) hu<;>cbv)|((with_reducible refine Hk 204 _ _ _ _ ?_);refine callBo _ call204 rfl (fun w2 hx=>isFun_ret (hE.ext hx) k n (strB [111,116,104,101,114,119,105,115,101]) a m c _ _) ?_;rintro(_|_) hu<;>cbv)|((with_reducible refine Hk 327 _ _ _ _ ?_);refine fixed_call ?_;cbv)|(apply And.intro (And.intro (And.intro rfl trivial) trivial))|(simp only [hm0];cbv))
  all_goals(clear Hc Hs Ha Hw Hd Ho Hl Hn Hi Hk Hv Hz Hr Hx;clear hQ;simp only [toV,toVs,retA,Value.int.injEq,isAtomS,isFunS,by_true,by_eq,by_is] at *;grind [cmp0])
theorem kind_n18 {w:World} (hE:Env w) (k n:Int) (a:Option Addr) (m c:Nat):Ret Tryz.prog 205 #[.agg #[.int .i64 k,.int .i64 n,.string (strB [97,108,116,101,114,110,97,116,105,118,101,108,121]),.slice a m c]] w (.int .i64 (plainS k (strB [97,108,116,101,114,110,97,116,105,118,101,108,121]) m)):=by
 have hs:bytesOf (strB [97,108,116,101,114,110,97,116,105,118,101,108,121])=[97,108,116,101,114,110,97,116,105,118,101,108,121]:=rfl
 obtain⟨r,hr⟩:∃ r,r=plainS k (strB [97,108,116,101,114,110,97,116,105,118,101,108,121]) m:=⟨_,rfl⟩
 rw [← hr]
 rw [plainS,hs] at hr
 simp only [dataL,fixedL,List.mem_cons,Prod.mk.injEq,List.cons.injEq,List.not_mem_nil,Nat.reduceEqDiff,false_and,and_false,true_and,and_true,false_or,or_false,reduceCtorEq] at hr
 by_cases hm:m=0
 ·have hm0:Nat.beq m 0=true:=by subst hm;rfl
  rw [Nat.beq.eq_def] at hm0
  refine ret_of hE func205 rfl [.agg [.val (.int .i64 k),.val (.int .i64 n),.str [97,108,116,101,114,110,97,116,105,118,101,108,121],.val (.slice a m c)]] rfl fun Q hQ=>?_
  refine .sy (prog_okB _) ?_
  intro _ _ _ _ _ _ _ _ _ _ _ _ _ _ Hc Hs Ha Hw Hd Ho Hl Hn Hi Hk Hv Hz Hr Hx
  cbv
  refine Hk _ _ _ _ _ (callGn (decide (k=3)||decide (k=5)) (fun b=>.tup [.agg [.str [97,108,116,101,114,110,97,116,105,118,101,108,121],.int .i64 (Int.ofNat m)],.bool b]) call324 rfl (fun _=>rfl) (fun w2 hx=>symbol_ret (hE.ext hx) k n (strB [97,108,116,101,114,110,97,116,105,118,101,108,121]) a m c) ?_)
  rintro(_|_) hb<;>cbv
  all_goals
   refine Hk _ _ _ _ _ (callR_obj call325 rfl rfl (fun w' hx=>operations_ret (hE.ext hx)) ?_)
   cbv
   repeat'(first|((with_reducible refine hQ _ _ ?_);refine⟨rfl,rfl,_,rfl,rfl,?_⟩)|((with_reducible first|refine Hc _ _ _ _ ?_|refine Hs _ _ _ _ ?_);rintro(_|_) hq0<;>cbv)|((with_reducible first|refine Ha _ _ _ _ _ ?_|refine Hw _ _ _ ?_);intro _ hn;cbv)|((with_reducible refine Hn _ _ _ ?_);(first|refine len_sl rfl rfl ?_|(refine len_st ?_;intro _ hm));cbv)|((with_reducible refine Hk 326 _ _ _ _ ?_);refine callBo _ call326 rfl (fun w2 hx=>isAtom_ret (hE.ext hx) k n (strB [97,108,116,101,114,110,97,116,105,118,101,108,121]) a m c _) ?_;rintro(_|_) hu<;>cbv)|((with_reducible refine Hk 204 _ _ _ _ ?_);refine callBo _ call204 rfl (fun w2 hx=>isFun_ret (hE.ext hx) k n (strB [97,108,116,101,114,110,97,116,105,118,101,108,121]) a m c _ _) ?_;rintro(_|_) hu<;>cbv)|((with_reducible refine Hk 327 _ _ _ _ ?_);refine fixed_call ?_;cbv)|(apply And.intro (And.intro (And.intro rfl trivial) trivial))|(simp only [hm0];cbv))
  all_goals(clear Hc Hs Ha Hw Hd Ho Hl Hn Hi Hk Hv Hz Hr Hx;clear hQ;simp only [toV,toVs,retA,Value.int.injEq,isAtomS,isFunS,by_true,by_eq,by_is] at *;grind [cmp0])
 ·have hm0:Nat.beq m 0=false:=by rw [Bool.eq_false_iff];intro q;have:=Nat.eq_of_beq_eq_true q;omega
  rw [Nat.beq.eq_def] at hm0
  refine ret_of hE func205 rfl [.agg [.val (.int .i64 k),.val (.int .i64 n),.str [97,108,116,101,114,110,97,116,105,118,101,108,121],.val (.slice a m c)]] rfl fun Q hQ=>?_
  refine .sy (prog_okB _) ?_
  intro _ _ _ _ _ _ _ _ _ _ _ _ _ _ Hc Hs Ha Hw Hd Ho Hl Hn Hi Hk Hv Hz Hr Hx
  cbv
  refine Hk _ _ _ _ _ (callGn (decide (k=3)||decide (k=5)) (fun b=>.tup [.agg [.str [97,108,116,101,114,110,97,116,105,118,101,108,121],.int .i64 (Int.ofNat m)],.bool b]) call324 rfl (fun _=>rfl) (fun w2 hx=>symbol_ret (hE.ext hx) k n (strB [97,108,116,101,114,110,97,116,105,118,101,108,121]) a m c) ?_)
  rintro(_|_) hb<;>cbv
  all_goals
   refine Hk _ _ _ _ _ (callR_obj call325 rfl rfl (fun w' hx=>operations_ret (hE.ext hx)) ?_)
   cbv
   repeat'(first|((with_reducible refine hQ _ _ ?_);refine⟨rfl,rfl,_,rfl,rfl,?_⟩)|((with_reducible first|refine Hc _ _ _ _ ?_|refine Hs _ _ _ _ ?_);rintro(_|_) hq0<;>cbv)|((with_reducible first|refine Ha _ _ _ _ _ ?_|refine Hw _ _ _ ?_);intro _ hn;cbv)|((with_reducible refine Hn _ _ _ ?_);(first|refine len_sl rfl rfl ?_|(refine len_st ?_;intro _ hm));cbv)|((with_reducible refine Hk 326 _ _ _ _ ?_);refine callBo _ call326 rfl (fun w2 hx=>isAtom_ret (hE.ext hx) k n (strB [97,108,116,101,114,110,97,116,105,118,101,108,121]) a m c _) ?_;rintro(_|_) hu<;>cbv)|((with_reducible refine Hk 204 _ _ _ _ ?_);refine callBo _ call204 rfl (fun w2 hx=>isFun_ret (hE.ext hx) k n (strB [97,108,116,101,114,110,97,116,105,118,101,108,121]) a m c _ _) ?_;rintro(_|_) hu<;>cbv)|((with_reducible refine Hk 327 _ _ _ _ ?_);refine fixed_call ?_;cbv)|(apply And.intro (And.intro (And.intro rfl trivial) trivial))|(simp only [hm0];cbv))
  all_goals(clear Hc Hs Ha Hw Hd Ho Hl Hn Hi Hk Hv Hz Hr Hx;clear hQ;simp only [toV,toVs,retA,Value.int.injEq,isAtomS,isFunS,by_true,by_eq,by_is] at *;grind [cmp0])
end Go.Proofs.YtaacpiniakmpbaaGreatDoor
