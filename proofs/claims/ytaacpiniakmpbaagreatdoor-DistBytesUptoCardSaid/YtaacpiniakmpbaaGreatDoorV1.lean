/- The kinds of goals by their names. (Printed by wip/gen/genb6.py.) -/
import Derived.Test.YtaacpiniakmpbaaGreatDoorV0
namespace Go.Proofs.YtaacpiniakmpbaaGreatDoor
open Go Ev Tryz
set_option linter.unusedSimpArgs false
set_option linter.unusedVariables false
set_option maxHeartbeats 8000000
set_option maxRecDepth 10000
theorem kind_n7 {w:World} (hE:Env w) (k n:Int) (a:Option Addr) (m c:Nat):Ret Tryz.prog 205 #[.agg #[.int .i64 k,.int .i64 n,.string (strB [115,116,114,105,110,103,95,115,101,116]),.slice a m c]] w (.int .i64 (plainS k (strB [115,116,114,105,110,103,95,115,101,116]) m)):=by
 have hs:bytesOf (strB [115,116,114,105,110,103,95,115,101,116])=[115,116,114,105,110,103,95,115,101,116]:=rfl
 obtain⟨r,hr⟩:∃ r,r=plainS k (strB [115,116,114,105,110,103,95,115,101,116]) m:=⟨_,rfl⟩
 rw [← hr]
 rw [plainS,hs] at hr
 simp only [dataL,fixedL,List.mem_cons,Prod.mk.injEq,List.cons.injEq,List.not_mem_nil,Nat.reduceEqDiff,false_and,and_false,true_and,and_true,false_or,or_false,reduceCtorEq] at hr
 refine ret_of hE func205 rfl [.agg [.val (.int .i64 k),.val (.int .i64 n),.str [115,116,114,105,110,103,95,115,101,116],.val (.slice a m c)]] rfl fun Q hQ=>?_
 refine .sy (prog_okB _) ?_
 intro _ _ _ _ _ _ _ _ _ _ _ _ _ _ Hc Hs Ha Hw Hd Ho Hl Hn Hi Hk Hv Hz Hr Hx
 cbv
 refine Hk _ _ _ _ _ (callGn (decide (k=3)||decide (k=5)) (fun b=>.tup [.agg [.str [115,116,114,105,110,103,95,115,101,116],.int .i64 (Int.ofNat m)],.bool b]) call324 rfl (fun _=>rfl) (fun w2 hx=>symbol_ret (hE.ext hx) k n (strB [115,116,114,105,110,103,95,115,101,116]) a m c) ?_)
 rintro(_|_) hb<;>cbv
 all_goals
  refine Hk _ _ _ _ _ (callR_obj call325 rfl rfl (fun w' hx=>operations_ret (hE.ext hx)) ?_)
  cbv
  repeat'(first|((with_reducible refine hQ _ _ ?_);refine⟨rfl,rfl,_,rfl,rfl,?_⟩)|((with_reducible first|refine Hc _ _ _ _ ?_|refine Hs _ _ _ _ ?_);rintro(_|_) hq0<;>cbv)|((with_reducible first|refine Ha _ _ _ _ _ ?_|refine Hw _ _ _ ?_);intro _ hn;cbv)|((with_reducible refine Hn _ _ _ ?_);(first|refine len_sl rfl rfl ?_|(refine len_st ?_;intro _ hm));cbv)|((with_reducible refine Hk 326 _ _ _ _ ?_);refine callBo _ call326 rfl (fun w2 hx=>isAtom_ret (hE.ext hx) k n (strB [115,116,114,105,110,103,95,115,101,116]) a m c _) ?_;rintro(_|_) hu<;>cbv)|((with_reducible refine Hk 204 _ _ _ _ ?_);refine callBo _ call204 rfl (fun w2 hx=>isFun_ret (hE.ext hx) k n (strB [115,116,114,105,110,103,95,115,101,116]) a m c _ _) ?_;rintro(_|_) hu<;>cbv)|((with_reducible refine Hk 327 _ _ _ _ ?_);refine fixed_call ?_;cbv)|(apply And.intro (And.intro (And.intro rfl trivial) trivial)))
 all_goals(clear Hc Hs Ha Hw Hd Ho Hl Hn Hi Hk Hv Hz Hr Hx;clear hQ;simp only [toV,toVs,retA,Value.int.injEq,isAtomS,isFunS,by_true,by_eq,by_is] at *;grind [cmp0])
theorem kind_n8 {w:World} (hE:Env w) (k n:Int) (a:Option Addr) (m c:Nat):Ret Tryz.prog 205 #[.agg #[.int .i64 k,.int .i64 n,.string (strB [115,116,114,105,110,103,95,115,105,122,101]),.slice a m c]] w (.int .i64 (plainS k (strB [115,116,114,105,110,103,95,115,105,122,101]) m)):=by
 have hs:bytesOf (strB [115,116,114,105,110,103,95,115,105,122,101])=[115,116,114,105,110,103,95,115,105,122,101]:=rfl
 obtain⟨r,hr⟩:∃ r,r=plainS k (strB [115,116,114,105,110,103,95,115,105,122,101]) m:=⟨_,rfl⟩
 rw [← hr]
 rw [plainS,hs] at hr
 simp only [dataL,fixedL,List.mem_cons,Prod.mk.injEq,List.cons.injEq,List.not_mem_nil,Nat.reduceEqDiff,false_and,and_false,true_and,and_true,false_or,or_false,reduceCtorEq] at hr
 refine ret_of hE func205 rfl [.agg [.val (.int .i64 k),.val (.int .i64 n),.str [115,116,114,105,110,103,95,115,105,122,101],.val (.slice a m c)]] rfl fun Q hQ=>?_
 refine .sy (prog_okB _) ?_
 intro _ _ _ _ _ _ _ _ _ _ _ _ _ _ Hc Hs Ha Hw Hd Ho Hl Hn Hi Hk Hv Hz Hr Hx
 cbv
 refine Hk _ _ _ _ _ (callGn (decide (k=3)||decide (k=5)) (fun b=>.tup [.agg [.str [115,116,114,105,110,103,95,115,105,122,101],.int .i64 (Int.ofNat m)],.bool b]) call324 rfl (fun _=>rfl) (fun w2 hx=>symbol_ret (hE.ext hx) k n (strB [115,116,114,105,110,103,95,115,105,122,101]) a m c) ?_)
 rintro(_|_) hb<;>cbv
 all_goals
  refine Hk _ _ _ _ _ (callR_obj call325 rfl rfl (fun w' hx=>operations_ret (hE.ext hx)) ?_)
  cbv
  repeat'(first|((with_reducible refine hQ _ _ ?_);refine⟨rfl,rfl,_,rfl,rfl,?_⟩)|((with_reducible first|refine Hc _ _ _ _ ?_|refine Hs _ _ _ _ ?_);rintro(_|_) hq0<;>cbv)|((with_reducible first|refine Ha _ _ _ _ _ ?_|refine Hw _ _ _ ?_);intro _ hn;cbv)|((with_reducible refine Hn _ _ _ ?_);(first|refine len_sl rfl rfl ?_|(refine len_st ?_;intro _ hm));cbv)|((with_reducible refine Hk 326 _ _ _ _ ?_);refine callBo _ call326 rfl (fun w2 hx=>isAtom_ret (hE.ext hx) k n (strB [115,116,114,105,110,103,95,115,105,122,101]) a m c _) ?_;rintro(_|_) hu<;>cbv)|((with_reducible refine Hk 204 _ _ _ _ ?_);refine callBo _ call204 rfl (fun w2 hx=>isFun_ret (hE.ext hx) k n (strB [115,116,114,105,110,103,95,115,105,122,101]) a m c _ _) ?_;rintro(_|_) hu<;>cbv)|((with_reducible refine Hk 327 _ _ _ _ ?_);refine fixed_call ?_;cbv)|(apply And.intro (And.intro (And.intro rfl trivial) trivial)))
 all_goals(clear Hc Hs Ha Hw Hd Ho Hl Hn Hi Hk Hv Hz Hr Hx;clear hQ;simp only [toV,toVs,retA,Value.int.injEq,isAtomS,isFunS,by_true,by_eq,by_is] at *;grind [cmp0])
theorem kind_n9 {w:World} (hE:Env w) (k n:Int) (a:Option Addr) (m c:Nat):Ret Tryz.prog 205 #[.agg #[.int .i64 k,.int .i64 n,.string (strB [115,116,114,105,110,103,95,106,111,105,110]),.slice a m c]] w (.int .i64 (plainS k (strB [115,116,114,105,110,103,95,106,111,105,110]) m)):=by
 have hs:bytesOf (strB [115,116,114,105,110,103,95,106,111,105,110])=[115,116,114,105,110,103,95,106,111,105,110]:=rfl
 obtain⟨r,hr⟩:∃ r,r=plainS k (strB [115,116,114,105,110,103,95,106,111,105,110]) m:=⟨_,rfl⟩
 rw [← hr]
 rw [plainS,hs] at hr
 simp only [dataL,fixedL,List.mem_cons,Prod.mk.injEq,List.cons.injEq,List.not_mem_nil,Nat.reduceEqDiff,false_and,and_false,true_and,and_true,false_or,or_false,reduceCtorEq] at hr
 refine ret_of hE func205 rfl [.agg [.val (.int .i64 k),.val (.int .i64 n),.str [115,116,114,105,110,103,95,106,111,105,110],.val (.slice a m c)]] rfl fun Q hQ=>?_
 refine .sy (prog_okB _) ?_
 intro _ _ _ _ _ _ _ _ _ _ _ _ _ _ Hc Hs Ha Hw Hd Ho Hl Hn Hi Hk Hv Hz Hr Hx
 cbv
 refine Hk _ _ _ _ _ (callGn (decide (k=3)||decide (k=5)) (fun b=>.tup [.agg [.str [115,116,114,105,110,103,95,106,111,105,110],.int .i64 (Int.ofNat m)],.bool b]) call324 rfl (fun _=>rfl) (fun w2 hx=>symbol_ret (hE.ext hx) k n (strB [115,116,114,105,110,103,95,106,111,105,110]) a m c) ?_)
 rintro(_|_) hb<;>cbv
 all_goals
  refine Hk _ _ _ _ _ (callR_obj call325 rfl rfl (fun w' hx=>operations_ret (hE.ext hx)) ?_)
  cbv
  repeat'(first|((with_reducible refine hQ _ _ ?_);refine⟨rfl,rfl,_,rfl,rfl,?_⟩)|((with_reducible first|refine Hc _ _ _ _ ?_|refine Hs _ _ _ _ ?_);rintro(_|_) hq0<;>cbv)|((with_reducible first|refine Ha _ _ _ _ _ ?_|refine Hw _ _ _ ?_);intro _ hn;cbv)|((with_reducible refine Hn _ _ _ ?_);(first|refine len_sl rfl rfl ?_|(refine len_st ?_;intro _ hm));cbv)|((with_reducible refine Hk 326 _ _ _ _ ?_);refine callBo _ call326 rfl (fun w2 hx=>isAtom_ret (hE.ext hx) k n (strB [115,116,114,105,110,103,95,106,111,105,110]) a m c _) ?_;rintro(_|_) hu<;>cbv)|((with_reducible refine Hk 204 _ _ _ _ ?_);refine callBo _ call204 rfl (fun w2 hx=>isFun_ret (hE.ext hx) k n (strB [115,116,114,105,110,103,95,106,111,105,110]) a m c _ _) ?_;rintro(_|_) hu<;>cbv)|((with_reducible refine Hk 327 _ _ _ _ ?_);refine fixed_call ?_;cbv)|(apply And.intro (And.intro (And.intro rfl trivial) trivial)))
 all_goals(clear Hc Hs Ha Hw Hd Ho Hl Hn Hi Hk Hv Hz Hr Hx;clear hQ;simp only [toV,toVs,retA,Value.int.injEq,isAtomS,isFunS,by_true,by_eq,by_is] at *;grind [cmp0])
theorem kind_n10 {w:World} (hE:Env w) (k n:Int) (a:Option Addr) (m c:Nat):Ret Tryz.prog 205 #[.agg #[.int .i64 k,.int .i64 n,.string (strB [116,114,117,101]),.slice a m c]] w (.int .i64 (plainS k (strB [116,114,117,101]) m)):=by
 have hs:bytesOf (strB [116,114,117,101])=[116,114,117,101]:=rfl
 obtain⟨r,hr⟩:∃ r,r=plainS k (strB [116,114,117,101]) m:=⟨_,rfl⟩
 rw [← hr]
 rw [plainS,hs] at hr
 simp only [dataL,fixedL,List.mem_cons,Prod.mk.injEq,List.cons.injEq,List.not_mem_nil,Nat.reduceEqDiff,false_and,and_false,true_and,and_true,false_or,or_false,reduceCtorEq] at hr
 by_cases hm:m=0
 ·have hm0:Nat.beq m 0=true:=by subst hm;rfl
  rw [Nat.beq.eq_def] at hm0
  refine ret_of hE func205 rfl [.agg [.val (.int .i64 k),.val (.int .i64 n),.str [116,114,117,101],.val (.slice a m c)]] rfl fun Q hQ=>?_
  refine .sy (prog_okB _) ?_
  intro _ _ _ _ _ _ _ _ _ _ _ _ _ _ Hc Hs Ha Hw Hd Ho Hl Hn Hi Hk Hv Hz Hr Hx
  cbv
  refine Hk _ _ _ _ _ (callGn (decide (k=3)||decide (k=5)) (fun b=>.tup [.agg [.str [116,114,117,101],.int .i64 (Int.ofNat m)],.bool b]) call324 rfl (fun _=>rfl) (fun w2 hx=>symbol_ret (hE.ext hx) k n (strB [116,114,117,101]) a m c) ?_)
  rintro(_|_) hb<;>cbv
  all_goals
   refine Hk _ _ _ _ _ (callR_obj call325 rfl rfl (fun w' hx=>operations_ret (hE.ext hx)) ?_)
   cbv
   repeat'(first|((with_reducible refine hQ _ _ ?_);refine⟨rfl,rfl,_,rfl,rfl,?_⟩)|((with_reducible first|refine Hc _ _ _ _ ?_|refine Hs _ _ _ _ ?_);rintro(_|_) hq0<;>cbv)|((with_reducible first|refine Ha _ _ _ _ _ ?_|refine Hw _ _ _ ?_);intro _ hn;cbv)|((with_reducible refine Hn _ _ _ ?_);(first|refine len_sl rfl rfl ?_|(refine len_st ?_;intro _ hm));cbv)|((with_reducible refine Hk 326 _ _ _ _ ?_);refine callBo _ call326 rfl (fun w2 hx=>isAtom_ret (hE.ext hx) k n (strB [116,114,117,101]) a m c _) ?_;rintro(_|_) hu<;>cbv)|((with_reducible refine Hk 204 _ _ _ _ ?_);refine callBo _ call204 rfl (fun w2 hx=>isFun_ret (hE.ext hx) k n (strB [116,114,117,101]) a m c _ _) ?_;rintro(_|_) hu<;>cbv)|((with_reducible refine Hk 327 _ _ _ _ ?_);refine fixed_call ?_;cbv)|(apply And.intro (And.intro (And.intro rfl trivial) trivial))|(simp only [hm0];cbv))
  all_goals(clear Hc Hs Ha Hw Hd Ho Hl Hn Hi Hk Hv Hz Hr Hx;clear hQ;simp only [toV,toVs,retA,Value.int.injEq,isAtomS,isFunS,by_true,by_eq,by_is] at *;grind [cmp0])
 ·have hm0:Nat.beq m 0=false:=by rw [Bool.eq_false_iff];intro q;have:=Nat.eq_of_beq_eq_true q;omega
  rw [Nat.beq.eq_def] at hm0
  refine ret_of hE func205 rfl [.agg [.val (.int .i64 k),.val (.int .i64 n),.str [116,114,117,101],.val (.slice a m c)]] rfl fun Q hQ=>?_
  refine .sy (prog_okB _) ?_
  intro _ _ _ _ _ _ _ _ _ _ _ _ _ _ Hc Hs Ha Hw Hd Ho Hl Hn Hi Hk Hv Hz Hr Hx
  cbv
  refine Hk _ _ _ _ _ (callGn (decide (k=3)||decide (k=5)) (fun b=>.tup [.agg [.str [116,114,117,101],.int .i64 (Int.ofNat m)],.bool b]) call324 rfl (fun _=>rfl) (fun w2 hx=>symbol_ret (hE.ext hx) k n (strB [116,114,117,101]) a m c) ?_)
  rintro(_|_) hb<;>cbv
  all_goals
   refine Hk _ _ _ _ _ (callR_obj call325 rfl rfl (fun w' hx=>operations_ret (hE.ext hx)) ?_)
   cbv
   repeat'(first|((with_reducible refine hQ _ _ ?_);refine⟨rfl,rfl,_,rfl,rfl,?_⟩)|((with_reducible first|refine Hc _ _ _ _ ?_|refine Hs _ _ _ _ ?_);rintro(_|_) hq0<;>cbv)|((with_reducible first|refine Ha _ _ _ _ _ ?_|refine Hw _ _ _ ?_);intro _ hn;cbv)|((with_reducible refine Hn _ _ _ ?_);(first|refine len_sl rfl rfl ?_|(refine len_st ?_;intro _ hm));cbv)|((with_reducible refine Hk 326 _ _ _ _ ?_);refine callBo _ call326 rfl (fun w2 hx=>isAtom_ret (hE.ext hx) k n (strB [116,114,117,101]) a m c _) ?_;rintro(_|_) hu<;>cbv)|((with_reducible refine Hk 204 _ _ _ _ ?_);refine callBo _ call204 rfl (fun w2 hx=>isFun_ret (hE.ext hx) k n (strB [116,114,117,101]) a m c _ _) ?_;rintro(_|_) hu<;>cbv)|((with_reducible refine Hk 327 _ _ _ _ ?_);refine fixed_call ?_;cbv)|(apply And.intro (And.intro (And.intro rfl trivial) trivial))|(simp only [hm0];cbv))
  all_goals(clear Hc Hs Ha Hw Hd Ho Hl Hn Hi Hk Hv Hz Hr Hx;clear hQ;simp only [toV,toVs,retA,Value.int.injEq,isAtomS,isFunS,by_true,by_eq,by_is] at *;grind [cmp0])
theorem kind_n11 {w:World} (hE:Env w) (k n:Int) (a:Option Addr) (m c:Nat):Ret Tryz.prog 205 #[.agg #[.int .i64 k,.int .i64 n,.string (strB [61]),.slice a m c]] w (.int .i64 (plainS k (strB [61]) m)):=by
 have hs:bytesOf (strB [61])=[61]:=rfl
 obtain⟨r,hr⟩:∃ r,r=plainS k (strB [61]) m:=⟨_,rfl⟩
 rw [← hr]
 rw [plainS,hs] at hr
 simp only [dataL,fixedL,List.mem_cons,Prod.mk.injEq,List.cons.injEq,List.not_mem_nil,Nat.reduceEqDiff,false_and,and_false,true_and,and_true,false_or,or_false,reduceCtorEq] at hr
 by_cases hm:m=2
 ·have hm2:Nat.beq m 2=true:=by subst hm;rfl
  rw [Nat.beq.eq_def] at hm2
  refine ret_of hE func205 rfl [.agg [.val (.int .i64 k),.val (.int .i64 n),.str [61],.val (.slice a m c)]] rfl fun Q hQ=>?_
  refine .sy (prog_okB _) ?_
  intro _ _ _ _ _ _ _ _ _ _ _ _ _ _ Hc Hs Ha Hw Hd Ho Hl Hn Hi Hk Hv Hz Hr Hx
  cbv
  refine Hk _ _ _ _ _ (callGn (decide (k=3)||decide (k=5)) (fun b=>.tup [.agg [.str [61],.int .i64 (Int.ofNat m)],.bool b]) call324 rfl (fun _=>rfl) (fun w2 hx=>symbol_ret (hE.ext hx) k n (strB [61]) a m c) ?_)
  rintro(_|_) hb<;>cbv
  all_goals
   refine Hk _ _ _ _ _ (callR_obj call325 rfl rfl (fun w' hx=>operations_ret (hE.ext hx)) ?_)
   cbv
   repeat'(first|((with_reducible refine hQ _ _ ?_);refine⟨rfl,rfl,_,rfl,rfl,?_⟩)|((with_reducible first|refine Hc _ _ _ _ ?_|refine Hs _ _ _ _ ?_);rintro(_|_) hq0<;>cbv)|((with_reducible first|refine Ha _ _ _ _ _ ?_|refine Hw _ _ _ ?_);intro _ hn;cbv)|((with_reducible refine Hn _ _ _ ?_);(first|refine len_sl rfl rfl ?_|(refine len_st ?_;intro _ hm));cbv)|((with_reducible refine Hk 326 _ _ _ _ ?_);refine callBo _ call326 rfl (fun w2 hx=>isAtom_ret (hE.ext hx) k n (strB [61]) a m c _) ?_;rintro(_|_) hu<;>cbv)|((with_reducible refine Hk 204 _ _ _ _ ?_);refine callBo _ call204 rfl (fun w2 hx=>isFun_ret (hE.ext hx) k n (strB [61]) a m c _ _) ?_;rintro(_|_) hu<;>cbv)|((with_reducible refine Hk 327 _ _ _ _ ?_);refine fixed_call ?_;cbv)|(apply And.intro (And.intro (And.intro rfl trivial) trivial))|(simp only [hm2];cbv))
  all_goals(clear Hc Hs Ha Hw Hd Ho Hl Hn Hi Hk Hv Hz Hr Hx;clear hQ;simp only [toV,toVs,retA,Value.int.injEq,isAtomS,isFunS,by_true,by_eq,by_is] at *;grind [cmp0])
 ·have hm2:Nat.beq m 2=false:=by rw [Bool.eq_false_iff];intro q;have:=Nat.eq_of_beq_eq_true q;omega
  rw [Nat.beq.eq_def] at hm2
  refine ret_of hE func205 rfl [.agg [.val (.int .i64 k),.val (.int .i64 n),.str [61],.val (.slice a m c)]] rfl fun Q hQ=>?_
  refine .sy (prog_okB _) ?_
  intro _ _ _ _ _ _ _ _ _ _ _ _ _ _ Hc Hs Ha Hw Hd Ho Hl Hn Hi Hk Hv Hz Hr Hx
  cbv
  refine Hk _ _ _ _ _ (callGn (decide (k=3)||decide (k=5)) (fun b=>.tup [.agg [.str [61],.int .i64 (Int.ofNat m)],.bool b]) call324 rfl (fun _=>rfl) (fun w2 hx=>symbol_ret (hE.ext hx) k n (strB [61]) a m c) ?_)
  rintro(_|_) hb<;>cbv
  all_goals
   refine Hk _ _ _ _ _ (callR_obj call325 rfl rfl (fun w' hx=>operations_ret (hE.ext hx)) ?_)
   cbv
   repeat'(first|((with_reducible refine hQ _ _ ?_);refine⟨rfl,rfl,_,rfl,rfl,?_⟩)|((with_reducible first|refine Hc _ _ _ _ ?_|refine Hs _ _ _ _ ?_);rintro(_|_) hq0<;>cbv)|((with_reducible first|refine Ha _ _ _ _ _ ?_|refine Hw _ _ _ ?_);intro _ hn;cbv)|((with_reducible refine Hn _ _ _ ?_);(first|refine len_sl rfl rfl ?_|(refine len_st ?_;intro _ hm));cbv)|((with_reducible refine Hk 326 _ _ _ _ ?_);refine callBo _ call326 rfl (fun w2 hx=>isAtom_ret (hE.ext hx) k n (strB [61]) a m c _) ?_;rintro(_|_) hu<;>cbv)|((with_reducible refine Hk 204 _ _ _ _ ?_);refine callBo _ call204 rfl (fun w2 hx=>isFun_ret (hE.ext hx) k n (strB [61]) a m c _ _) ?_;rintro(_|_) hu<;>cbv)|((with_reducible refine Hk 327 _ _ _ _ ?_);refine fixed_call ?_;cbv)|(apply And.intro (And.intro (And.intro rfl trivial) trivial))|(simp only [hm2];cbv))
  all_goals(clear Hc Hs Ha Hw Hd Ho Hl Hn Hi Hk Hv Hz Hr Hx;clear hQ;simp only [toV,toVs,retA,Value.int.injEq,isAtomS,isFunS,by_true,by_eq,by_is] at *;grind [cmp0])
theorem kind_n12 {w:World} (hE:Env w) (k n:Int) (a:Option Addr) (m c:Nat):Ret Tryz.prog 205 #[.agg #[.int .i64 k,.int .i64 n,.string (strB [58,61]),.slice a m c]] w (.int .i64 (plainS k (strB [58,61]) m)):=by
 have hs:bytesOf (strB [58,61])=[58,61]:=rfl
 obtain⟨r,hr⟩:∃ r,r=plainS k (strB [58,61]) m:=⟨_,rfl⟩
 rw [← hr]
 rw [plainS,hs] at hr
 simp only [dataL,fixedL,List.mem_cons,Prod.mk.injEq,List.cons.injEq,List.not_mem_nil,Nat.reduceEqDiff,false_and,and_false,true_and,and_true,false_or,or_false,reduceCtorEq] at hr
 by_cases hm:m=2
 ·have hm2:Nat.beq m 2=true:=by subst hm;rfl
  rw [Nat.beq.eq_def] at hm2
  refine ret_of hE func205 rfl [.agg [.val (.int .i64 k),.val (.int .i64 n),.str [58,61],.val (.slice a m c)]] rfl fun Q hQ=>?_
  refine .sy (prog_okB _) ?_
  intro _ _ _ _ _ _ _ _ _ _ _ _ _ _ Hc Hs Ha Hw Hd Ho Hl Hn Hi Hk Hv Hz Hr Hx
  cbv
  refine Hk _ _ _ _ _ (callGn (decide (k=3)||decide (k=5)) (fun b=>.tup [.agg [.str [58,61],.int .i64 (Int.ofNat m)],.bool b]) call324 rfl (fun _=>rfl) (fun w2 hx=>symbol_ret (hE.ext hx) k n (strB [58,61]) a m c) ?_)
  rintro(_|_) hb<;>cbv
  all_goals
   refine Hk _ _ _ _ _ (callR_obj call325 rfl rfl (fun w' hx=>operations_ret (hE.ext hx)) ?_)
   cbv
   repeat'(first|((with_reducible refine hQ _ _ ?_);refine⟨rfl,rfl,_,rfl,rfl,?_⟩)|((with_reducible first|refine Hc _ _ _ _ ?_|refine Hs _ _ _ _ ?_);rintro(_|_) hq0<;>cbv)|((with_reducible first|refine Ha _ _ _ _ _ ?_|refine Hw _ _ _ ?_);intro _ hn;cbv)|((with_reducible refine Hn _ _ _ ?_);(first|refine len_sl rfl rfl ?_|(refine len_st ?_;intro _ hm));cbv)|((with_reducible refine Hk 326 _ _ _ _ ?_);refine callBo _ call326 rfl (fun w2 hx=>isAtom_ret (hE.ext hx) k n (strB [58,61]) a m c _) ?_;rintro(_|_) hu<;>cbv)|((with_reducible refine Hk 204 _ _ _ _ ?_);refine callBo _ call204 rfl (fun w2 hx=>isFun_ret (hE.ext hx) k n (strB [58,61]) a m c _ _) ?_;rintro(_|_) hu<;>cbv)|((with_reducible refine Hk 327 _ _ _ _ ?_);refine fixed_call ?_;cbv)|(apply And.intro (And.intro (And.intro rfl trivial) trivial))|(simp only [hm2];cbv))
  all_goals(clear Hc Hs Ha Hw Hd Ho Hl Hn Hi Hk Hv Hz Hr Hx;clear hQ;simp only [toV,toVs,retA,Value.int.injEq,isAtomS,isFunS,by_true,by_eq,by_is] at *;grind [cmp0])
 ·have hm2:Nat.beq m 2=false:=by rw [Bool.eq_false_iff];intro q;have:=Nat.eq_of_beq_eq_true q;omega
  rw [Nat.beq.eq_def] at hm2
  refine ret_of hE func205 rfl [.agg [.val (.int .i64 k),.val (.int .i64 n),.str [58,61],.val (.slice a m c)]] rfl fun Q hQ=>?_
  refine .sy (prog_okB _) ?_
  intro _ _ _ _ _ _ _ _ _ _ _ _ _ _ Hc Hs Ha Hw Hd Ho Hl Hn Hi Hk Hv Hz Hr Hx
  cbv
  refine Hk _ _ _ _ _ (callGn (decide (k=3)||decide (k=5)) (fun b=>.tup [.agg [.str [58,61],.int .i64 (Int.ofNat m)],.bool b]) call324 rfl (fun _=>rfl) (fun w2 hx=>symbol_ret (hE.ext hx) k n (strB [58,61]) a m c) ?_)
  rintro(_|_) hb<;>cbv
  all_goals
   refine Hk _ _ _ _ _ (callR_obj call325 rfl rfl (fun w' hx=>operations_ret (hE.ext hx)) ?_)
   cbv
   repeat'(first|((with_reducible refine hQ _ _ ?_);refine⟨rfl,rfl,_,rfl,rfl,?_⟩)|((with_reducible first|refine Hc _ _ _ _ ?_|refine Hs _ _ _ _ ?_);rintro(_|_) hq0<;>cbv)|((with_reducible first|refine Ha _ _ _ _ _ ?_|refine Hw _ _ _ ?_);intro _ hn;cbv)|((with_reducible refine Hn _ _ _ ?_);(first|refine len_sl rfl rfl ?_|(refine len_st ?_;intro _ hm));cbv)|((with_reducible refine Hk 326 _ _ _ _ ?_);refine callBo _ call326 rfl (fun w2 hx=>isAtom_ret (hE.ext hx) k n (strB [58,61]) a m c _) ?_;rintro(_|_) hu<;>cbv)|((with_reducible refine Hk 204 _ _ _ _ ?_);refine callBo _ call204 rfl (fun w2 hx=>isFun_ret (hE.ext hx) k n (strB [58,61]) a m c _ _) ?_;rintro(_|_) hu<;>cbv)|((with_reducible refine Hk 327 _ _ _ _ ?_);refine fixed_call ?_;cbv)|(apply And.intro (And.intro (And.intro rfl trivial) trivial))|(simp only [hm2];cbv))
  all_goals(clear Hc Hs Ha Hw Hd Ho Hl Hn Hi Hk Hv Hz Hr Hx;clear hQ;simp only [toV,toVs,retA,Value.int.injEq,isAtomS,isFunS,by_true,by_eq,by_is] at *;grind [cmp0])
end Go.Proofs.YtaacpiniakmpbaaGreatDoor
