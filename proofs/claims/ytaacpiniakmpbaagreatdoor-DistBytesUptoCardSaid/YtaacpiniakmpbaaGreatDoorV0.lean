/- The maps that the program's kinds of goals are looked up in. -/
import Derived.Test.YtaacpiniakmpbaaGreatDoorS6
import Derived.Test.YtaacpiniakmpbaaGreatDoorO
import Derived.Test.YtaacpiniakmpbaaGreatDoorU2
namespace Go.Proofs.YtaacpiniakmpbaaGreatDoor
open Go Ev Tryz
set_option linter.unusedSimpArgs false
set_option linter.unusedVariables false
set_option maxHeartbeats 8000000
set_option maxRecDepth 10000
def opsEs:List (AV×AV):=[(.str [118,101,99,116,111,114,95,110,101,119],.int .i64 2),(.str [118,101,99,116,111,114,95,103,101,116],.int .i64 4),(.str [118,101,99,116,111,114,95,115,101,116],.int .i64 4),(.str [118,101,99,116,111,114,95,115,105,122,101],.int .i64 3),(.str [115,116,114,105,110,103,95,110,101,119],.int .i64 2),(.str [115,116,114,105,110,103,95,103,101,116],.int .i64 4),(.str [115,116,114,105,110,103,95,115,101,116],.int .i64 4),(.str [115,116,114,105,110,103,95,115,105,122,101],.int .i64 3),(.str [115,116,114,105,110,103,95,106,111,105,110],.int .i64 3)]
theorem operations_ret {w:World} (hE:Env w):RetO Tryz.prog 325 #[] w (.map 0) (.map opsEs 9):=by
 refine retO_of hE func325 rfl [] rfl (mk:=.map 0) (ob:=.map opsEs 9) rfl rfl rfl fun Q hQ=>?_
 refine .sy (prog_okB _) ?_
 intro _ _ _ _ _ _ _ _ _ _ _ _ _ _ Hc Hs Ha Hw Hd Ho Hl Hn Hi Hk Hv Hz Hr Hx
 cbv
 exact hQ _ _ 1 ⟨rfl,rfl,_,rfl,rfl,rfl,by decide,rfl⟩
theorem callOK_ctx {B:Nat→Option Go.Obj} {f:FuncId} {args:List AV} {H H':Hp} {nx nx':Nat} {v:AV} (h:CallOK Tryz.prog ctx f args H nx v H' nx'):CallOK Tryz.prog (ctxB B) f args H nx v H' nx' :=
 fun φ w a hr hb ha=>h φ w a hr ⟨fun g hg=>(nomatch (show false=true from hg)),fun k o q=>(nomatch q)⟩ ha
theorem fixed_call {B:Nat→Option Go.Obj} {hp:T Ev.Obj} {nx:Nat} {K:AV→T Ev.Obj→Nat→Prop} (h:K (.map nx) (hp.set nx (.map fixedEs 10)) (nx+1)):CallR Tryz.prog (ctxB B) 327 [] hp nx K :=
 ⟨.map nx,hp.set nx (.map fixedEs 10),nx+1,call327,callOK_ctx (fixed_ok (r:=⟨.map nx,hp.set nx (.map fixedEs 10),nx+1⟩) (by unfold pFixed;rw [T.setK_eq,fNat_eq])).2,h⟩
theorem not_key {l k:List Nat} (h:l≠k):bytesEq l k=false:=by
 cases q:bytesEq l k with
 | false=>rfl
 | true=>rw [bytesEq_iff] at q;exact(h q).elim
theorem kind_n1 {w:World} (hE:Env w) (k n:Int) (a:Option Addr) (m c:Nat):Ret Tryz.prog 205 #[.agg #[.int .i64 k,.int .i64 n,.string (strB [118,101,99,116,111,114,95,110,101,119]),.slice a m c]] w (.int .i64 (plainS k (strB [118,101,99,116,111,114,95,110,101,119]) m)):=by
 have hs:bytesOf (strB [118,101,99,116,111,114,95,110,101,119])=[118,101,99,116,111,114,95,110,101,119]:=rfl
 obtain⟨r,hr⟩:∃ r,r=plainS k (strB [118,101,99,116,111,114,95,110,101,119]) m:=⟨_,rfl⟩
 rw [← hr]
 rw [plainS,hs] at hr
 simp only [dataL,fixedL,List.mem_cons,Prod.mk.injEq,List.cons.injEq,List.not_mem_nil,Nat.reduceEqDiff,false_and,and_false,true_and,and_true,false_or,or_false,reduceCtorEq] at hr
 refine ret_of hE func205 rfl [.agg [.val (.int .i64 k),.val (.int .i64 n),.str [118,101,99,116,111,114,95,110,101,119],.val (.slice a m c)]] rfl fun Q hQ=>?_
 refine .sy (prog_okB _) ?_
 intro _ _ _ _ _ _ _ _ _ _ _ _ _ _ Hc Hs Ha Hw Hd Ho Hl Hn Hi Hk Hv Hz Hr Hx
 cbv
 refine Hk _ _ _ _ _ (callGn (decide (k=3)||decide (k=5)) (fun b=>.tup [.agg [.str [118,101,99,116,111,114,95,110,101,119],.int .i64 (Int.ofNat m)],.bool b]) call324 rfl (fun _=>rfl) (fun w2 hx=>symbol_ret (hE.ext hx) k n (strB [118,101,99,116,111,114,95,110,101,119]) a m c) ?_)
 rintro(_|_) hb<;>cbv
 all_goals
  refine Hk _ _ _ _ _ (callR_obj call325 rfl rfl (fun w' hx=>operations_ret (hE.ext hx)) ?_)
  cbv
  repeat'(first|((with_reducible refine hQ _ _ ?_);refine⟨rfl,rfl,_,rfl,rfl,?_⟩)|((with_reducible first|refine Hc _ _ _ _ ?_|refine Hs _ _ _ _ ?_);rintro(_|_) hq0<;>cbv)|((with_reducible first|refine Ha _ _ _ _ _ ?_|refine Hw _ _ _ ?_);intro _ hn;cbv)|((with_reducible refine Hn _ _ _ ?_);(first|refine len_sl rfl rfl ?_|(refine len_st ?_;intro _ hm));cbv)|((with_reducible refine Hk 326 _ _ _ _ ?_);refine callBo _ call326 rfl (fun w2 hx=>isAtom_ret (hE.ext hx) k n (strB [118,101,99,116,111,114,95,110,101,119]) a m c _) ?_;rintro(_|_) hu<;>cbv)|((with_reducible refine Hk 204 _ _ _ _ ?_);refine callBo _ call204 rfl (fun w2 hx=>isFun_ret (hE.ext hx) k n (strB [118,101,99,116,111,114,95,110,101,119]) a m c _ _) ?_;rintro(_|_) hu<;>cbv)|((with_reducible refine Hk 327 _ _ _ _ ?_);refine fixed_call ?_;cbv)|(apply And.intro (And.intro (And.intro rfl trivial) trivial)))
 all_goals(clear Hc Hs Ha Hw Hd Ho Hl Hn Hi Hk Hv Hz Hr Hx;clear hQ;simp only [toV,toVs,retA,Value.int.injEq,isAtomS,isFunS,by_true,by_eq,by_is] at *;grind [cmp0])
theorem kind_n2 {w:World} (hE:Env w) (k n:Int) (a:Option Addr) (m c:Nat):Ret Tryz.prog 205 #[.agg #[.int .i64 k,.int .i64 n,.string (strB [118,101,99,116,111,114,95,103,101,116]),.slice a m c]] w (.int .i64 (plainS k (strB [118,101,99,116,111,114,95,103,101,116]) m)):=by
 have hs:bytesOf (strB [118,101,99,116,111,114,95,103,101,116])=[118,101,99,116,111,114,95,103,101,116]:=rfl
 obtain⟨r,hr⟩:∃ r,r=plainS k (strB [118,101,99,116,111,114,95,103,101,116]) m:=⟨_,rfl⟩
 rw [← hr]
 rw [plainS,hs] at hr
 simp only [dataL,fixedL,List.mem_cons,Prod.mk.injEq,List.cons.injEq,List.not_mem_nil,Nat.reduceEqDiff,false_and,and_false,true_and,and_true,false_or,or_false,reduceCtorEq] at hr
 refine ret_of hE func205 rfl [.agg [.val (.int .i64 k),.val (.int .i64 n),.str [118,101,99,116,111,114,95,103,101,116],.val (.slice a m c)]] rfl fun Q hQ=>?_
 refine .sy (prog_okB _) ?_
 intro _ _ _ _ _ _ _ _ _ _ _ _ _ _ Hc Hs Ha Hw Hd Ho Hl Hn Hi Hk Hv Hz Hr Hx
 cbv
 refine Hk _ _ _ _ _ (callGn (decide (k=3)||decide (k=5)) (fun b=>.tup [.agg [.str [118,101,99,116,111,114,95,103,101,116],.int .i64 (Int.ofNat m)],.bool b]) call324 rfl (fun _=>rfl) (fun w2 hx=>symbol_ret (hE.ext hx) k n (strB [118,101,99,116,111,114,95,103,101,116]) a m c) ?_)
 rintro(_|_) hb<;>cbv
 all_goals
  refine Hk _ _ _ _ _ (callR_obj call325 rfl rfl (fun w' hx=>operations_ret (hE.ext hx)) ?_)
  cbv
  repeat'(first|((with_reducible refine hQ _ _ ?_);refine⟨rfl,rfl,_,rfl,rfl,?_⟩)|((with_reducible first|refine Hc _ _ _ _ ?_|refine Hs _ _ _ _ ?_);rintro(_|_) hq0<;>cbv)|((with_reducible first|refine Ha _ _ _ _ _ ?_|refine Hw _ _ _ ?_);intro _ hn;cbv)|((with_reducible refine Hn _ _ _ ?_);(first|refine len_sl rfl rfl ?_|(refine len_st ?_;intro _ hm));cbv)|((with_reducible refine Hk 326 _ _ _ _ ?_);refine callBo _ call326 rfl (fun w2 hx=>isAtom_ret (hE.ext hx) k n (strB [118,101,99,116,111,114,95,103,101,116]) a m c _) ?_;rintro(_|_) hu<;>cbv)|((with_reducible refine Hk 204 _ _ _ _ ?_);refine callBo _ call204 rfl (fun w2 hx=>isFun_ret (hE.ext hx) k n (strB [118,101,99,116,111,114,95,103,101,116]) a m c _ _) ?_;rintro(_|_) hu<;>cbv)|((with_reducible refine Hk 327 _ _ _ _ ?_);refine fixed_call ?_;cbv)|(apply And.intro (And.intro (And.intro rfl trivial) trivial)))
 all_goals(clear Hc Hs Ha Hw Hd Ho Hl Hn Hi Hk Hv Hz Hr Hx;clear hQ;simp only [toV,toVs,retA,Value.int.injEq,isAtomS,isFunS,by_true,by_eq,by_is] at *;grind [cmp0])
theorem kind_n3 {w:World} (hE:Env w) (k n:Int) (a:Option Addr) (m c:Nat):Ret Tryz.prog 205 #[.agg #[.int .i64 k,.int .i64 n,.string (strB [118,101,99,116,111,114,95,115,101,116]),.slice a m c]] w (.int .i64 (plainS k (strB [118,101,99,116,111,114,95,115,101,116]) m)):=by
 have hs:bytesOf (strB [118,101,99,116,111,114,95,115,101,116])=[118,101,99,116,111,114,95,115,101,116]:=rfl
 obtain⟨r,hr⟩:∃ r,r=plainS k (strB [118,101,99,116,111,114,95,115,101,116]) m:=⟨_,rfl⟩
 rw [← hr]
 rw [plainS,hs] at hr
 simp only [dataL,fixedL,List.mem_cons,Prod.mk.injEq,List.cons.injEq,List.not_mem_nil,Nat.reduceEqDiff,false_and,and_false,true_and,and_true,false_or,or_false,reduceCtorEq] at hr
 refine ret_of hE func205 rfl [.agg [.val (.int .i64 k),.val (.int .i64 n),.str [118,101,99,116,111,114,95,115,101,116],.val (.slice a m c)]] rfl fun Q hQ=>?_
 refine .sy (prog_okB _) ?_
 intro _ _ _ _ _ _ _ _ _ _ _ _ _ _ Hc Hs Ha Hw Hd Ho Hl Hn Hi Hk Hv Hz Hr Hx
 cbv
 refine Hk _ _ _ _ _ (callGn (decide (k=3)||decide (k=5)) (fun b=>.tup [.agg [.str [118,101,99,116,111,114,95,115,101,116],.int .i64 (Int.ofNat m)],.bool b]) call324 rfl (fun _=>rfl) (fun w2 hx=>symbol_ret (hE.ext hx) k n (strB [118,101,99,116,111,114,95,115,101,116]) a m c) ?_)
 rintro(_|_) hb<;>cbv
 all_goals
  refine Hk _ _ _ _ _ (callR_obj call325 rfl rfl (fun w' hx=>operations_ret (hE.ext hx)) ?_)
  cbv
  repeat'(first|((with_reducible refine hQ _ _ ?_);refine⟨rfl,rfl,_,rfl,rfl,?_⟩)|((with_reducible first|refine Hc _ _ _ _ ?_|refine Hs _ _ _ _ ?_);rintro(_|_) hq0<;>cbv)|((with_reducible first|refine Ha _ _ _ _ _ ?_|refine Hw _ _ _ ?_);intro _ hn;cbv)|((with_reducible refine Hn _ _ _ ?_);(first|refine len_sl rfl rfl ?_|(refine len_st ?_;intro _ hm));cbv)|((with_reducible refine Hk 326 _ _ _ _ ?_);refine callBo _ call326 rfl (fun w2 hx=>isAtom_ret (hE.ext hx) k n (strB [118,101,99,116,111,114,95,115,101,116]) a m c _) ?_;rintro(_|_) hu<;>cbv)|((with_reducible refine Hk 204 _ _ _ _ ?_);refine callBo _ call204 rfl (fun w2 hx=>isFun_ret (hE.ext hx) k n (strB [118,101,99,116,111,114,95,115,101,116]) a m c _ _) ?_;rintro(_|_) hu<;>cbv)|((with_reducible refine Hk 327 _ _ _ _ ?_);refine fixed_call ?_;cbv)|(apply And.intro (And.intro (And.intro rfl trivial) trivial)))
 all_goals(clear Hc Hs Ha Hw Hd Ho Hl Hn Hi Hk Hv Hz Hr Hx;clear hQ;simp only [toV,toVs,retA,Value.int.injEq,isAtomS,isFunS,by_true,by_eq,by_is] at *;grind [cmp0])
theorem kind_n4 {w:World} (hE:Env w) (k n:Int) (a:Option Addr) (m c:Nat):Ret Tryz.prog 205 #[.agg #[.int .i64 k,.int .i64 n,.string (strB [118,101,99,116,111,114,95,115,105,122,101]),.slice a m c]] w (.int .i64 (plainS k (strB [118,101,99,116,111,114,95,115,105,122,101]) m)):=by
 have hs:bytesOf (strB [118,101,99,116,111,114,95,115,105,122,101])=[118,101,99,116,111,114,95,115,105,122,101]:=rfl
 obtain⟨r,hr⟩:∃ r,r=plainS k (strB [118,101,99,116,111,114,95,115,105,122,101]) m:=⟨_,rfl⟩
 rw [← hr]
 rw [plainS,hs] at hr
 simp only [dataL,fixedL,List.mem_cons,Prod.mk.injEq,List.cons.injEq,List.not_mem_nil,Nat.reduceEqDiff,false_and,and_false,true_and,and_true,false_or,or_false,reduceCtorEq] at hr
 refine ret_of hE func205 rfl [.agg [.val (.int .i64 k),.val (.int .i64 n),.str [118,101,99,116,111,114,95,115,105,122,101],.val (.slice a m c)]] rfl fun Q hQ=>?_
 refine .sy (prog_okB _) ?_
 intro _ _ _ _ _ _ _ _ _ _ _ _ _ _ Hc Hs Ha Hw Hd Ho Hl Hn Hi Hk Hv Hz Hr Hx
 cbv
 refine Hk _ _ _ _ _ (callGn (decide (k=3)||decide (k=5)) (fun b=>.tup [.agg [.str [118,101,99,116,111,114,95,115,105,122,101],.int .i64 (Int.ofNat m)],.bool b]) call324 rfl (fun _=>rfl) (fun w2 hx=>symbol_ret (hE.ext hx) k n (strB [118,101,99,116,111,114,95,115,105,122,101]) a m c) ?_)
 rintro(_|_) hb<;>cbv
 all_goals
  refine Hk _ _ _ _ _ (callR_obj call325 rfl rfl (fun w' hx=>operations_ret (hE.ext hx)) ?_)
  cbv
  repeat'(first|((with_reducible refine hQ _ _ ?_);refine⟨rfl,rfl,_,rfl,rfl,?_⟩)|((with_reducible first|refine Hc _ _ _ _ ?_|refine Hs _ _ _ _ ?_);rintro(_|_) hq0<;>cbv)|((with_reducible first|refine Ha _ _ _ _ _ ?_|refine Hw _ _ _ ?_);intro _ hn;cbv)|((with_reducible refine Hn _ _ _ ?_);(first|refine len_sl rfl rfl ?_|(refine len_st ?_;intro _ hm));cbv)|((with_reducible refine Hk 326 _ _ _ _ ?_);refine callBo _ call326 rfl (fun w2 hx=>isAtom_ret (hE.ext hx) k n (strB [118,101,99,116,111,114,95,115,105,122,101]) a m c _) ?_;rintro(_|_) hu<;>cbv)|((with_reducible refine Hk 204 _ _ _ _ ?_);refine callBo _ call204 rfl (fun w2 hx=>isFun_ret (hE.ext hx) k n (strB [118,101,99,116,111,114,95,115,105,122,101]) a m c _ _) ?_;rintro(_|_) hu<;>cbv)|((with_reducible refine Hk 327 _ _ _ _ ?_);refine fixed_call ?_;cbv)|(apply And.intro (And.intro (And.intro rfl trivial) trivial)))
 all_goals(clear Hc Hs Ha Hw Hd Ho Hl Hn Hi Hk Hv Hz Hr Hx;clear hQ;simp only [toV,toVs,retA,Value.int.injEq,isAtomS,isFunS,by_true,by_eq,by_is] at *;grind [cmp0])
theorem kind_n5 {w:World} (hE:Env w) (k n:Int) (a:Option Addr) (m c:Nat):Ret Tryz.prog 205 #[.agg #[.int .i64 k,.int .i64 n,.string (strB [115,116,114,105,110,103,95,110,101,119]),.slice a m c]] w (.int .i64 (plainS k (strB [115,116,114,105,110,103,95,110,101,119]) m)):=by
 have hs:bytesOf (strB [115,116,114,105,110,103,95,110,101,119])=[115,116,114,105,110,103,95,110,101,119]:=rfl
 obtain⟨r,hr⟩:∃ r,r=plainS k (strB [115,116,114,105,110,103,95,110,101,119]) m:=⟨_,rfl⟩
 rw [← hr]
 rw [plainS,hs] at hr
 simp only [dataL,fixedL,List.mem_cons,Prod.mk.injEq,List.cons.injEq,List.not_mem_nil,Nat.reduceEqDiff,false_and,and_false,true_and,and_true,false_or,or_false,reduceCtorEq] at hr
 refine ret_of hE func205 rfl [.agg [.val (.int .i64 k),.val (.int .i64 n),.str [115,116,114,105,110,103,95,110,101,119],.val (.slice a m c)]] rfl fun Q hQ=>?_
 refine .sy (prog_okB _) ?_
 intro _ _ _ _ _ _ _ _ _ _ _ _ _ _ Hc Hs Ha Hw Hd Ho Hl Hn Hi Hk Hv Hz Hr Hx
 cbv
 refine Hk _ _ _ _ _ (callGn (decide (k=3)||decide (k=5)) (fun b=>.tup [.agg [.str [115,116,114,105,110,103,95,110,101,119],.int .i64 (Int.ofNat m)],.bool b]) call324 rfl (fun _=>rfl) (fun w2 hx=>symbol_ret (hE.ext hx) k n (strB [115,116,114,105,110,103,95,110,101,119]) a m c) ?_)
 rintro(_|_) hb<;>cbv
 all_goals
  refine Hk _ _ _ _ _ (callR_obj call325 rfl rfl (fun w' hx=>operations_ret (hE.ext hx)) ?_)
  cbv
  repeat'(first|((with_reducible refine hQ _ _ ?_);refine⟨rfl,rfl,_,rfl,rfl,?_⟩)|((with_reducible first|refine Hc _ _ _ _ ?_|refine Hs _ _ _ _ ?_);rintro(_|_) hq0<;>cbv)|((with_reducible first|refine Ha _ _ _ _ _ ?_|refine Hw _ _ _ ?_);intro _ hn;cbv)|((with_reducible refine Hn _ _ _ ?_);(first|refine len_sl rfl rfl ?_|(refine len_st ?_;intro _ hm));cbv)|((with_reducible refine Hk 326 _ _ _ _ ?_);refine callBo _ call326 rfl (fun w2 hx=>isAtom_ret (hE.ext hx) k n (strB [115,116,114,105,110,103,95,110,101,119]) a m c _) ?_;rintro(_|_) hu<;>cbv)|((with_reducible refine Hk 204 _ _ _ _ ?_);refine callBo _ call204 rfl (fun w2 hx=>isFun_ret (hE.ext hx) k n (strB [115,116,114,105,110,103,95,110,101,119]) a m c _ _) ?_;rintro(_|_) hu<;>cbv)|((with_reducible refine Hk 327 _ _ _ _ ?_);refine fixed_call ?_;cbv)|(apply And.intro (And.intro (And.intro rfl trivial) trivial)))
 all_goals(clear Hc Hs Ha Hw Hd Ho Hl Hn Hi Hk Hv Hz Hr Hx;clear hQ;simp only [toV,toVs,retA,Value.int.injEq,isAtomS,isFunS,by_true,by_eq,by_is] at *;grind [cmp0])
theorem kind_n6 {w:World} (hE:Env w) (k n:Int) (a:Option Addr) (m c:Nat):Ret Tryz.prog 205 #[.agg #[.int .i64 k,.int .i64 n,.string (strB [115,116,114,105,110,103,95,103,101,116]),.slice a m c]] w (.int .i64 (plainS k (strB [115,116,114,105,110,103,95,103,101,116]) m)):=by
 have hs:bytesOf (strB [115,116,114,105,110,103,95,103,101,116])=[115,116,114,105,110,103,95,103,101,116]:=rfl
 obtain⟨r,hr⟩:∃ r,r=plainS k (strB [115,116,114,105,110,103,95,103,101,116]) m:=⟨_,rfl⟩
 rw [← hr]
 rw [plainS,hs] at hr
 simp only [dataL,fixedL,List.mem_cons,Prod.mk.injEq,List.cons.injEq,List.not_mem_nil,Nat.reduceEqDiff,false_and,and_false,true_and,and_true,false_or,or_false,reduceCtorEq] at hr
 refine ret_of hE func205 rfl [.agg [.val (.int .i64 k),.val (.int .i64 n),.str [115,116,114,105,110,103,95,103,101,116],.val (.slice a m c)]] rfl fun Q hQ=>?_
 refine .sy (prog_okB _) ?_
 intro _ _ _ _ _ _ _ _ _ _ _ _ _ _ Hc Hs Ha Hw Hd Ho Hl Hn Hi Hk Hv Hz Hr Hx
 cbv
 refine Hk _ _ _ _ _ (callGn (decide (k=3)||decide (k=5)) (fun b=>.tup [.agg [.str [115,116,114,105,110,103,95,103,101,116],.int .i64 (Int.ofNat m)],.bool b]) call324 rfl (fun _=>rfl) (fun w2 hx=>symbol_ret (hE.ext hx) k n (strB [115,116,114,105,110,103,95,103,101,116]) a m c) ?_)
 rintro(_|_) hb<;>cbv
 all_goals
  refine Hk _ _ _ _ _ (callR_obj call325 rfl rfl (fun w' hx=>operations_ret (hE.ext hx)) ?_)
  cbv
  repeat'(first|((with_reducible refine hQ _ _ ?_);refine⟨rfl,rfl,_,rfl,rfl,?_⟩)|((with_reducible first|refine Hc _ _ _ _ ?_|refine Hs _ _ _ _ ?_);rintro(_|_) hq0<;>cbv)|((with_reducible first|refine Ha _ _ _ _ _ ?_|refine Hw _ _ _ ?_);intro _ hn;cbv)|((with_reducible refine Hn _ _ _ ?_);(first|refine len_sl rfl rfl ?_|(refine len_st ?_;intro _ hm));cbv)|((with_reducible refine Hk 326 _ _ _ _ ?_);refine callBo _ call326 rfl (fun w2 hx=>isAtom_ret (hE.ext hx) k n (strB [115,116,114,105,110,103,95,103,101,116]) a m c _) ?_;rintro(_|_) hu<;>cbv)|((with_reducible refine Hk 204 _ _ _ _ ?_);refine callBo _ call204 rfl (fun w2 hx=>isFun_ret (hE.ext hx) k n (strB [115,116,114,105,110,103,95,103,101,116]) a m c _ _) ?_;rintro(_|_) hu<;>cbv)|((with_reducible refine Hk 327 _ _ _ _ ?_);refine fixed_call ?_;cbv)|(apply And.intro (And.intro (And.intro rfl trivial) trivial)))
 all_goals(clear Hc Hs Ha Hw Hd Ho Hl Hn Hi Hk Hv Hz Hr Hx;clear hQ;simp only [toV,toVs,retA,Value.int.injEq,isAtomS,isFunS,by_true,by_eq,by_is] at *;grind [cmp0])
end Go.Proofs.YtaacpiniakmpbaaGreatDoor
