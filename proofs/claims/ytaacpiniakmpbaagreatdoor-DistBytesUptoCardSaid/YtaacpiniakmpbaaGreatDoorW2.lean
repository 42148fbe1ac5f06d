/- Which messages are valid, as the program tells it. -/
import Derived.Test.YtaacpiniakmpbaaGreatDoorW1
namespace Go.Proofs.YtaacpiniakmpbaaGreatDoor
open Go Ev Tryz
set_option linter.unusedSimpArgs false
set_option linter.unusedVariables false
set_option maxHeartbeats 8000000
set_option maxRecDepth 10000
section
variable {w:World}
theorem valid_ret (hE:Env w) (K o f p:Int) {k n:Int} {s:ByteArray} {l:List Tm} {a:Option Addr} {m c:Nat} (ht:TmAt (hb w) (.mk k n s l) [.int .i64 k,.int .i64 n,.string s,.slice a m c]) :
  Ret Tryz.prog 31 #[.agg #[.int .i64 K,.int .i64 o,.int .i64 f,.int .i64 p,.int .i64 k,.int .i64 n,.string s,.slice a m c]] w (.bool (validS (.mk K o f p (.mk k n s l)))):=by
 obtain⟨kd,pr,k',n',s',a',m',c',hkd,hgoal⟩:=goal_ret hE ht
 have hm:m=l.length:=ht.out2
 obtain⟨r,hr⟩:∃ r,r=validS (.mk K o f p (.mk k n s l)):=⟨_,rfl⟩
 rw [← hr]
 rw [validS,goalS,← hm] at hr
 refine ret_of hE func31 rfl [.agg [.val (.int .i64 K),.val (.int .i64 o),.val (.int .i64 f),.val (.int .i64 p),.val (.int .i64 k),.val (.int .i64 n),.val (.string s),.val (.slice a m c)]] rfl fun Q hQ=>?_
 refine .syCut 5 (prog_okB _) ?_
 intro _ _ _ _ _ _ _ _ _ _ _ _ _ _ Hc Hs Ha Hw Hd Ho Hl Hn Hi Hk Hv Hz Hr Hx G hG
 cbv
 repeat'(first|((with_reducible refine hQ _ _ ?_);refine⟨rfl,rfl,_,rfl,rfl,?_⟩)|((with_reducible first|refine Hc _ _ _ _ ?_|refine Hs _ _ _ _ ?_);rintro(_|_) hq0<;>cbv)|((with_reducible first|refine Ha _ _ _ _ _ ?_|refine Hw _ _ _ ?_);intro _ hn;cbv)|((with_reducible refine Hn _ _ _ ?_);(first|refine len_sl rfl rfl ?_|(refine len_st ?_;intro _ hm));cbv)|((with_reducible refine Hk 33 _ _ _ _ ?_);refine callBo _ call33 rfl (fun w2 hx=>body_ret (hE.ext hx) _) ?_;rintro(_|_) hu<;>cbv)|((with_reducible refine Hk 69 _ _ _ _ ?_);refine callBo _ call69 rfl (fun w2 hx=>psame _ _ (Nat.lt_succ_self _) zeroT (hE.ext hx) (ht.mono (ext_hb hx)) (zero_at _)) ?_;rintro(_|_) hu<;>cbv)|((with_reducible refine Hk 70 _ _ _ _ ?_);refine callIn _ call70 rfl (fun w2 hx=>check_ret (hE.ext hx) (ht.mono (ext_hb hx))) ?_;intro u hu;cbv)|((with_reducible refine Hk 71 _ _ _ _ ?_);refine callGn () (fun _=>.tup [.val (.int .i64 kd),.val (.int .i64 pr),.agg [.val (.int .i64 k'),.val (.int .i64 n'),.val (.string s'),.val (.slice a' m' c')] ]) call71 rfl (fun _=>rfl) (fun w2 hx=>hgoal w2 hx) ?_;intro _ _;cbv)|((with_reducible refine hG _ (mkS [(1,.ptr 1 0),(3,.val (.int .i64 kd))] [(0,.ro calcAVs),(1,.cells [.val (.int .i64 K),.val (.int .i64 o),.val (.int .i64 f),.val (.int .i64 p),.val (.int .i64 k),.val (.int .i64 n),.val (.string s),.val (.slice a m c)] 0)] 3) ?_ rfl rfl ?_);(exact(sub_mk sbt sbh));refine valid8 K o f p rfl ?_ hQ))
 all_goals(clear Hc Hs Ha Hw Hd Ho Hl Hn Hi Hk Hv Hz Hr Hx;clear hQ hG hgoal;simp only [toV,toVs,retA,Value.bool.injEq,SB.bytes] at *;cases hA:atS k s m<;>cases hI:isS (.mk k n s l)<;>simp only [hA,hI,forall_const,Bool.false_eq_true,if_true,if_false,Bool.not_true,Bool.not_false,Bool.and_true,Bool.and_false] at *<;>first|(grind [cmp0,scmp0,bytesEq_iff,bodyS])|((first|subst hkd|skip);rw [hr];(have h1:K=1:=by grind [cmp0]);(have h2:0≤o:=by grind [cmp0]);(have h3:o≤2147483647:=by grind [cmp0]);simp [h1,h2,h3,Bool.and_assoc]))
end
end Go.Proofs.YtaacpiniakmpbaaGreatDoor
