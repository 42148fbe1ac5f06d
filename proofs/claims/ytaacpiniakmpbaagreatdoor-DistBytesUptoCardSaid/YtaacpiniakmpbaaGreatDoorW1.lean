/- Which goals the program takes as valid. -/
import Derived.Test.YtaacpiniakmpbaaGreatDoorS5
import Derived.Test.YtaacpiniakmpbaaGreatDoorV4
import Derived.Test.YtaacpiniakmpbaaGreatDoorN
namespace Go.Proofs.YtaacpiniakmpbaaGreatDoor
open Go Ev Tryz
set_option linter.unusedSimpArgs false
set_option linter.unusedVariables false
set_option maxHeartbeats 8000000
set_option maxRecDepth 10000
section
variable {w:World}
theorem valid8 (K o f p:Int) {k n kd:Int} {s:ByteArray} {a:Option Addr} {m c:Nat} {r:Bool} {Q:Ex→St→Prop} {b:Code} (hbd:Tryz.f31.body.map (dropS 5)=some b)
  (hr:r=(decide (-1≤f∧f<o∧0≤p∧p≤15∧kd≠0)&&!atS k s m))
  (hQ:∀ (e:Ex) (st:St),endV (ctxB (hb w)) Tryz.f31 (.bool r) e st→Q e st) :
  CodeP Tryz.prog (ctxB (hb w)) 113 none b (mkS [(1,.ptr 1 0),(3,.val (.int .i64 kd))] [(0,.ro calcAVs),(1,.cells [.val (.int .i64 K),.val (.int .i64 o),.val (.int .i64 f),.val (.int .i64 p),.val (.int .i64 k),.val (.int .i64 n),.val (.string s),.val (.slice a m c)] 0)] 3) Q:=by
 cases hbd
 refine .sy (prog_okB _) ?_
 intro _ _ _ _ _ _ _ _ _ _ _ _ _ _ Hc Hs Ha Hw Hd Ho Hl Hn Hi Hk Hv Hz Hr Hx
 cbv
 repeat'(first|((with_reducible refine hQ _ _ ?_);refine⟨rfl,rfl,_,rfl,rfl,?_⟩)|((with_reducible refine Hc _ _ _ _ ?_);rintro(_|_) hq0<;>first|(refine wpOps_cut (l1:=[_,_,_,_,_,_,_,_,_,_,_,_,_,_,_,_,_,_,_,_,_]) fun G hG=>?_;cbv;refine hG _ ?_;cbv)|cbv)|((with_reducible refine Hs _ _ _ _ ?_);rintro(_|_) hq0<;>cbv)|((with_reducible refine Hn _ _ _ ?_);refine len_sl rfl rfl ?_;cbv))
 all_goals(clear Hc Hs Ha Hw Hd Ho Hl Hn Hi Hk Hv Hz Hr Hx;clear hQ;simp only [toV,toVs,retA,Value.bool.injEq,SB.bytes,atS] at *;grind [cmp0,scmp0,bytesEq_iff])
end
end Go.Proofs.YtaacpiniakmpbaaGreatDoor
