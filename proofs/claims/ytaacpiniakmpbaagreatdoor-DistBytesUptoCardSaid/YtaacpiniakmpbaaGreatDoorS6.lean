/- The kinds of goals, as the reference has them. -/
import Derived.Test.YtaacpiniakmpbaaGreatDoorS5
import Derived.Test.YtaacpiniakmpbaaGreatDoorL
namespace Go.Proofs.YtaacpiniakmpbaaGreatDoor
open Go Ev Tryz
set_option linter.unusedSimpArgs false
set_option linter.unusedVariables false
set_option maxHeartbeats 4000000
set_option maxRecDepth 10000
def dataA:List AV:=[.str [118,101,99,116,111,114,95,110,101,119],.int .i64 2,.str [118,101,99,116,111,114,95,115,105,122,101],.int .i64 3,.str [118,101,99,116,111,114,95,103,101,116],.int .i64 4,.str [118,101,99,116,111,114,95,115,101,116],.int .i64 4,.str [115,116,114,105,110,103,95,110,101,119],.int .i64 2,.str [115,116,114,105,110,103,95,115,105,122,101],.int .i64 3,.str [115,116,114,105,110,103,95,103,101,116],.int .i64 4,.str [115,116,114,105,110,103,95,115,101,116],.int .i64 4,.str [115,116,114,105,110,103,95,106,111,105,110],.int .i64 3]
def fixedA:List AV:=[.str [116,114,117,101],.int .i64 0,.str [61],.int .i64 2,.str [58,61],.int .i64 2,.str [64],.int .i64 2,.str [58,45],.int .i64 2,.str [58,45],.int .i64 1,.str [44],.int .i64 2,.str [124],.int .i64 2,.str [111,116,104,101,114,119,105,115,101],.int .i64 0,.str [97,108,116,101,114,110,97,116,105,118,101,108,121],.int .i64 0]
theorem dataA_rows:rowsOk symR 2 dataA dataL:=by
 unfold dataA dataL
 repeat'(first|exact trivial|refine⟨⟨_,rfl,rfl⟩,rfl,rfl,?_⟩)
theorem resA_rows:rowsOk symR 2 (fixedA++dataA) (fixedL++dataL):=by
 unfold dataA dataL fixedA fixedL
 repeat'(first|exact trivial|refine⟨⟨_,rfl,rfl⟩,rfl,rfl,?_⟩)
section
variable {w:World}
theorem data_ret (hE:Env w):RetO Tryz.prog 331 #[] w (.sl 0 0 9 9 true 2) (.cells dataA 0):=by
 refine retO_of hE func331 rfl [] rfl (mk:=.sl 0 0 9 9 true 2) (ob:=.cells dataA 0) rfl rfl rfl fun Q hQ=>?_
 refine .sy (prog_okB _) ?_
 intro _ _ _ _ _ _ _ _ _ _ _ _ _ _ Hc Hs Ha Hw Hd Ho Hl Hn Hi Hk Hv Hz Hr Hx
 cbv
 exact hQ _ _ 1 ⟨rfl,rfl,_,rfl,rfl,rfl,by decide,rfl⟩
theorem reserved_retO (hE:Env w):RetO Tryz.prog 409 #[] w (.sl 0 0 19 19 false 2) (.cells (fixedA++dataA) 0):=by
 refine retO_of hE func409 rfl [] rfl (mk:=.sl 0 0 19 19 false 2) (ob:=.cells (fixedA++dataA) 0) rfl rfl rfl fun Q hQ=>?_
 refine .sy (prog_okB _) ?_
 intro _ _ _ _ _ _ _ _ _ _ _ _ _ _ Hc Hs Ha Hw Hd Ho Hl Hn Hi Hk Hv Hz Hr Hx
 cbv
 refine Hk _ _ _ _ _ (callR_obj call331 rfl rfl (fun w' hx=>data_ret (hE.ext hx)) ?_)
 cbv
 refine Ho _ _ _ ⟨_,_,_,OpOK.chg (prog_okB _).ctx rfl,?_⟩
 cbv
 exact hQ _ _ 3 ⟨rfl,rfl,_,rfl,rfl,rfl,by decide,rfl⟩
theorem reserved_ret (hE:Env w) (s:ByteArray) (m:Nat):Ret Tryz.prog 332 #[.agg #[.string s,.int .i64 (Int.ofNat m)]] w (.bool (decide ((bytesOf s,m)∈fixedL++dataL))):=by
 refine ret_of hE func332 rfl [.agg [.val (.string s),.val (.int .i64 (Int.ofNat m))]] rfl fun Q hQ=>?_
 refine .sy (prog_okB _) ?_
 intro _ _ _ _ _ _ _ _ _ _ _ _ _ _ Hc Hs Ha Hw Hd Ho Hl Hn Hi Hk Hv Hz Hr Hx
 cbv
 refine Hk _ _ _ _ _ (callR_obj call409 rfl rfl (fun w' hx=>reserved_retO (hE.ext hx)) ?_)
 cbv
 refine Hk _ _ _ _ _ (callR_ownG (decide ((bytesOf s,m)∈fixedL++dataL)) AV.bool call330 (fun _=>rfl) (fun φ w2 args' hr hx hv=>?_) ?_)
 ·obtain⟨v,u,rfl,h1,h2⟩:=vrel2 hv
  have h2':=okV_inv (a:=.agg [.val (.string s),.val (.int .i64 (Int.ofNat m))]) rfl h2
  obtain⟨a2,cp,rfl,hsl⟩:=own_sl (R:=symR) (l:=fixedL++dataL) hr rfl h1 rfl (by decide) (by decide) resA_rows
  subst h2'
  exact isIn_ret (hE.ext hx) hsl s m
 rintro(_|_) hu<;>cbv
 ·(with_reducible refine hQ _ _ ?_);refine⟨rfl,rfl,_,rfl,rfl,?_⟩
  rw [← hu];rfl
 ·(with_reducible refine hQ _ _ ?_);refine⟨rfl,rfl,_,rfl,rfl,?_⟩
  rw [← hu];rfl
theorem by_true:bytesOf ⟨⟨List.map UInt8.ofNat [116,114,117,101]⟩⟩=[116,114,117,101]:=rfl
theorem by_eq:bytesOf ⟨⟨List.map UInt8.ofNat [61]⟩⟩=[61]:=rfl
theorem by_is:bytesOf ⟨⟨List.map UInt8.ofNat [58,61]⟩⟩=[58,61]:=rfl
theorem by_at:bytesOf ⟨⟨List.map UInt8.ofNat [64]⟩⟩=[64]:=rfl
theorem refPlain_ret (hE:Env w) (k n:Int) (s:ByteArray) (a:Option Addr) (m c:Nat):Ret Tryz.prog 209 #[.agg #[.int .i64 k,.int .i64 n,.string s,.slice a m c]] w (.int .i64 (plainS k s m)):=by
 obtain⟨r,hr⟩:∃ r,r=plainS k s m:=⟨_,rfl⟩
 rw [← hr]
 rw [plainS] at hr
 refine ret_of hE func209 rfl [.agg [.val (.int .i64 k),.val (.int .i64 n),.val (.string s),.val (.slice a m c)]] rfl fun Q hQ=>?_
 by_cases hk:k=3∨k=5
 ·rw [if_pos hk] at hr
  refine .sy (prog_okB _) ?_
  intro _ _ _ _ _ _ _ _ _ _ _ _ _ _ Hc Hs Ha Hw Hd Ho Hl Hn Hi Hk Hv Hz Hr Hx
  cbv
  refine Hk _ _ _ _ _ (callGn () (fun _=>.tup [.agg [.val (.string s),.val (.int .i64 (Int.ofNat m))],.bool true]) call329 rfl (fun _=>rfl) (fun w2 hx=>by have:=symbolOf_ret (hE.ext hx) k n s a m c;rw [symV,if_pos hk] at this;exact this) ?_)
  intro _ _
  cbv
  repeat'(first|((with_reducible refine hQ _ _ ?_);refine⟨rfl,rfl,_,rfl,rfl,?_⟩)|((with_reducible first|refine Hc _ _ _ _ ?_|refine Hs _ _ _ _ ?_);rintro(_|_) hq0<;>cbv)|((with_reducible first|refine Ha _ _ _ _ _ ?_|refine Hw _ _ _ ?_);intro _ hn;cbv)|((with_reducible refine Hn _ _ _ ?_);(first|refine len_sl rfl rfl ?_|(refine len_st ?_;intro _ hm));cbv)|((with_reducible refine Hk 208 _ _ _ _ ?_);refine callBo _ call208 rfl (fun w2 hx=>fun_ret (hE.ext hx) k n s a m c _ _) ?_;rintro(_|_) hu<;>cbv)|((with_reducible refine Hk 332 _ _ _ _ ?_);refine callBo _ call332 rfl (fun w2 hx=>reserved_ret (hE.ext hx) s m) ?_;rintro(_|_) hu<;>cbv)|((with_reducible refine Hk 331 _ _ _ _ ?_);refine callR_obj call331 rfl rfl (fun w' hx=>data_ret (hE.ext hx)) ?_;cbv;refine Hk _ _ _ _ _ (callR_ownG (decide ((bytesOf s,m)∈dataL)) AV.bool call330 (fun _=>rfl) (fun φ w2 args' hr hx hv=>by(obtain⟨v,u,rfl,h1,h2⟩:=vrel2 hv);(have h2':=okV_inv (a:=.agg [.val (.string s),.val (.int .i64 (Int.ofNat m))]) rfl h2);(subst h2');(obtain⟨a2,cp,rfl,hsl⟩:=own_sl (R:=symR) (l:=dataL) hr rfl h1 rfl (by decide) (by decide) dataA_rows);exact isIn_ret (hE.ext hx) hsl s m) ?_);rintro(_|_) hu<;>cbv))
  all_goals(clear Hc Hs Ha Hw Hd Ho Hl Hn Hi Hk Hv Hz Hr Hx;clear hQ;simp only [toV,toVs,retA,Value.int.injEq,funS,isAtomS,isFunS,List.mem_append,by_true,by_eq,by_is] at *;grind)
 ·rw [if_neg hk] at hr
  refine .sy (prog_okB _) ?_
  intro _ _ _ _ _ _ _ _ _ _ _ _ _ _ Hc Hs Ha Hw Hd Ho Hl Hn Hi Hk Hv Hz Hr Hx
  cbv
  refine Hk _ _ _ _ _ (callGn () (fun _=>.tup [.agg [.str [],.int .i64 0],.bool false]) call329 rfl (fun _=>rfl) (fun w2 hx=>by have:=symbolOf_ret (hE.ext hx) k n s a m c;rw [symV,if_neg hk] at this;exact this) ?_)
  intro _ _
  cbv
  (with_reducible refine hQ _ _ ?_);refine⟨rfl,rfl,_,rfl,rfl,?_⟩
  rw [hr];rfl
end
end Go.Proofs.YtaacpiniakmpbaaGreatDoor
