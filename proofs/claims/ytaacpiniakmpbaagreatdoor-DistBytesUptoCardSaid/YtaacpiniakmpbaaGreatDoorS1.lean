/- What the program asks of a node, by its kind. -/
import Derived.Test.YtaacpiniakmpbaaGreatDoorS0
namespace Go.Proofs.YtaacpiniakmpbaaGreatDoor
open Go Ev Tryz
set_option linter.unusedSimpArgs false
set_option linter.unusedVariables false
set_option maxHeartbeats 4000000
set_option maxRecDepth 10000
theorem load_one {B:Nat→Option Go.Obj} {t:Nat} {p:Addr} {v:Value} {ti:TI} (ht:ttG.get t=some ti) (hk:ti.k.agg=false) (hc:CellsB B p [v]) (hv:v.oneCell'=true) {K:AV→Prop} (hK:K (.val v)):LoadR (ctxB B) t p K:=⟨_,_,ht,hc,.inr ⟨hk,v,rfl,hv,hK⟩⟩
def BareAt (B:Nat→Option Go.Obj) (p:Addr):Prop:=CellsB B p [.func (.func 316) #[] #[]]
theorem BareAt.mono {B B':Nat→Option Go.Obj} {p:Addr} (h:BareAt B p) (hm:∀ k o,B k=some o→B' k=some o):BareAt B' p:=CellsB.mono hm h
section
variable {w:World}
theorem form1_ret (hE:Env w) {p:Addr} (hp:BareAt (hb w) p) (k n:Int) (s:ByteArray) (a:Option Addr) (m c:Nat) (hs:s.size≤1048576):Ret Tryz.prog 317 #[.agg #[.int .i64 k,.int .i64 n,.string s,.slice a m c],.pointer (some p)] w (.bool (nodeS 1 n s m)):=by
 refine ret_of hE func317 rfl [.agg [.val (.int .i64 k),.val (.int .i64 n),.val (.string s),.val (.slice a m c)],.val (.pointer (some p))] rfl fun Q hQ=>?_
 refine .sy (prog_okB _) ?_
 intro _ _ _ _ _ _ _ _ _ _ _ _ _ _ Hc Hs Ha Hw Hd Ho Hl Hn Hi Hk Hv Hz Hr Hx
 cbv
 refine Hl _ _ _ (load_one rfl rfl hp rfl ?_)
 cbv
 repeat'(first|((with_reducible refine hQ _ _ ?_);refine⟨rfl,rfl,_,rfl,rfl,?_⟩)|((with_reducible first|refine Hc _ _ _ _ ?_|refine Hs _ _ _ _ ?_);rintro(_|_) hq0<;>cbv)|((with_reducible first|refine Ha _ _ _ _ _ ?_|refine Hw _ _ _ ?_);intro _ hn;cbv)|((with_reducible refine Hn _ _ _ ?_);(first|refine len_sl rfl rfl ?_|(refine len_st ?_;intro _ hm));cbv)|((with_reducible refine Hv _ _ _ _ _ ?_);refine callv_ret (bareS n s m true false false) AV.bool call316 rfl rfl rfl (fun _=>rfl) (fun w2 hx=>bare_ret (hE.ext hx) k n s a m c true false false) ?_;rintro(_|_) hu<;>cbv)|((with_reducible refine Hk 320 _ _ _ _ ?_);refine callBo _ call320 rfl (fun w2 hx=>name_ret (hE.ext hx) s hs) ?_;rintro(_|_) hu<;>cbv))
 all_goals(clear Hc Hs Ha Hw Hd Ho Hl Hn Hi Hk Hv Hz Hr Hx;clear hQ;simp only [toV,toVs,retA,Value.bool.injEq,SB.bytes,nodeS,bareS] at *;grind [cmp0,scmp0,bytesEq_iff])
theorem form2_ret (hE:Env w) {p:Addr} (hp:BareAt (hb w) p) (k n:Int) (s:ByteArray) (a:Option Addr) (m c:Nat) (hs:s.size≤1048576):Ret Tryz.prog 318 #[.agg #[.int .i64 k,.int .i64 n,.string s,.slice a m c],.pointer (some p)] w (.bool (nodeS 2 n s m)):=by
 refine ret_of hE func318 rfl [.agg [.val (.int .i64 k),.val (.int .i64 n),.val (.string s),.val (.slice a m c)],.val (.pointer (some p))] rfl fun Q hQ=>?_
 refine .sy (prog_okB _) ?_
 intro _ _ _ _ _ _ _ _ _ _ _ _ _ _ Hc Hs Ha Hw Hd Ho Hl Hn Hi Hk Hv Hz Hr Hx
 cbv
 refine Hl _ _ _ (load_one rfl rfl hp rfl ?_)
 cbv
 repeat'(first|((with_reducible refine hQ _ _ ?_);refine⟨rfl,rfl,_,rfl,rfl,?_⟩)|((with_reducible first|refine Hc _ _ _ _ ?_|refine Hs _ _ _ _ ?_);rintro(_|_) hq0<;>cbv)|((with_reducible first|refine Ha _ _ _ _ _ ?_|refine Hw _ _ _ ?_);intro _ hn;cbv)|((with_reducible refine Hn _ _ _ ?_);(first|refine len_sl rfl rfl ?_|(refine len_st ?_;intro _ hm));cbv)|((with_reducible refine Hv _ _ _ _ _ ?_);refine callv_ret (bareS n s m true false false) AV.bool call316 rfl rfl rfl (fun _=>rfl) (fun w2 hx=>bare_ret (hE.ext hx) k n s a m c true false false) ?_;rintro(_|_) hu<;>cbv)|((with_reducible refine Hk 320 _ _ _ _ ?_);refine callBo _ call320 rfl (fun w2 hx=>name_ret (hE.ext hx) s hs) ?_;rintro(_|_) hu<;>cbv))
 all_goals(clear Hc Hs Ha Hw Hd Ho Hl Hn Hi Hk Hv Hz Hr Hx;clear hQ;simp only [toV,toVs,retA,Value.bool.injEq,SB.bytes,nodeS,bareS] at *;grind [cmp0,scmp0,bytesEq_iff])
theorem form3_ret (hE:Env w) {p:Addr} (hp:BareAt (hb w) p) (k n:Int) (s:ByteArray) (a:Option Addr) (m c:Nat) (hs:s.size≤1048576):Ret Tryz.prog 319 #[.agg #[.int .i64 k,.int .i64 n,.string s,.slice a m c],.pointer (some p)] w (.bool (nodeS 3 n s m)):=by
 refine ret_of hE func319 rfl [.agg [.val (.int .i64 k),.val (.int .i64 n),.val (.string s),.val (.slice a m c)],.val (.pointer (some p))] rfl fun Q hQ=>?_
 refine .sy (prog_okB _) ?_
 intro _ _ _ _ _ _ _ _ _ _ _ _ _ _ Hc Hs Ha Hw Hd Ho Hl Hn Hi Hk Hv Hz Hr Hx
 cbv
 refine Hl _ _ _ (load_one rfl rfl hp rfl ?_)
 cbv
 repeat'(first|((with_reducible refine hQ _ _ ?_);refine⟨rfl,rfl,_,rfl,rfl,?_⟩)|((with_reducible first|refine Hc _ _ _ _ ?_|refine Hs _ _ _ _ ?_);rintro(_|_) hq0<;>cbv)|((with_reducible first|refine Ha _ _ _ _ _ ?_|refine Hw _ _ _ ?_);intro _ hn;cbv)|((with_reducible refine Hn _ _ _ ?_);(first|refine len_sl rfl rfl ?_|(refine len_st ?_;intro _ hm));cbv)|((with_reducible refine Hv _ _ _ _ _ ?_);refine callv_ret (bareS n s m false true false) AV.bool call316 rfl rfl rfl (fun _=>rfl) (fun w2 hx=>bare_ret (hE.ext hx) k n s a m c false true false) ?_;rintro(_|_) hu<;>cbv)|((with_reducible refine Hk 320 _ _ _ _ ?_);refine callBo _ call320 rfl (fun w2 hx=>name_ret (hE.ext hx) s hs) ?_;rintro(_|_) hu<;>cbv))
 all_goals(clear Hc Hs Ha Hw Hd Ho Hl Hn Hi Hk Hv Hz Hr Hx;clear hQ;simp only [toV,toVs,retA,Value.bool.injEq,SB.bytes,nodeS,bareS] at *;grind [cmp0,scmp0,bytesEq_iff])
theorem form4_ret (hE:Env w) {p:Addr} (hp:BareAt (hb w) p) (k n:Int) (s:ByteArray) (a:Option Addr) (m c:Nat) (hs:s.size≤1048576):Ret Tryz.prog 321 #[.agg #[.int .i64 k,.int .i64 n,.string s,.slice a m c],.pointer (some p)] w (.bool (nodeS 4 n s m)):=by
 refine ret_of hE func321 rfl [.agg [.val (.int .i64 k),.val (.int .i64 n),.val (.string s),.val (.slice a m c)],.val (.pointer (some p))] rfl fun Q hQ=>?_
 refine .sy (prog_okB _) ?_
 intro _ _ _ _ _ _ _ _ _ _ _ _ _ _ Hc Hs Ha Hw Hd Ho Hl Hn Hi Hk Hv Hz Hr Hx
 cbv
 refine Hl _ _ _ (load_one rfl rfl hp rfl ?_)
 cbv
 repeat'(first|((with_reducible refine hQ _ _ ?_);refine⟨rfl,rfl,_,rfl,rfl,?_⟩)|((with_reducible first|refine Hc _ _ _ _ ?_|refine Hs _ _ _ _ ?_);rintro(_|_) hq0<;>cbv)|((with_reducible first|refine Ha _ _ _ _ _ ?_|refine Hw _ _ _ ?_);intro _ hn;cbv)|((with_reducible refine Hn _ _ _ ?_);(first|refine len_sl rfl rfl ?_|(refine len_st ?_;intro _ hm));cbv)|((with_reducible refine Hv _ _ _ _ _ ?_);refine callv_ret (bareS n s m false true false) AV.bool call316 rfl rfl rfl (fun _=>rfl) (fun w2 hx=>bare_ret (hE.ext hx) k n s a m c false true false) ?_;rintro(_|_) hu<;>cbv)|((with_reducible refine Hk 320 _ _ _ _ ?_);refine callBo _ call320 rfl (fun w2 hx=>name_ret (hE.ext hx) s hs) ?_;rintro(_|_) hu<;>cbv))
 all_goals(clear Hc Hs Ha Hw Hd Ho Hl Hn Hi Hk Hv Hz Hr Hx;clear hQ;simp only [toV,toVs,retA,Value.bool.injEq,SB.bytes,nodeS,bareS] at *;grind [cmp0,scmp0,bytesEq_iff])
theorem form5_ret (hE:Env w) {p:Addr} (hp:BareAt (hb w) p) (k n:Int) (s:ByteArray) (a:Option Addr) (m c:Nat) (hs:s.size≤1048576):Ret Tryz.prog 322 #[.agg #[.int .i64 k,.int .i64 n,.string s,.slice a m c],.pointer (some p)] w (.bool (nodeS 5 n s m)):=by
 refine ret_of hE func322 rfl [.agg [.val (.int .i64 k),.val (.int .i64 n),.val (.string s),.val (.slice a m c)],.val (.pointer (some p))] rfl fun Q hQ=>?_
 refine .sy (prog_okB _) ?_
 intro _ _ _ _ _ _ _ _ _ _ _ _ _ _ Hc Hs Ha Hw Hd Ho Hl Hn Hi Hk Hv Hz Hr Hx
 cbv
 refine Hl _ _ _ (load_one rfl rfl hp rfl ?_)
 cbv
 repeat'(first|((with_reducible refine hQ _ _ ?_);refine⟨rfl,rfl,_,rfl,rfl,?_⟩)|((with_reducible first|refine Hc _ _ _ _ ?_|refine Hs _ _ _ _ ?_);rintro(_|_) hq0<;>cbv)|((with_reducible first|refine Ha _ _ _ _ _ ?_|refine Hw _ _ _ ?_);intro _ hn;cbv)|((with_reducible refine Hn _ _ _ ?_);(first|refine len_sl rfl rfl ?_|(refine len_st ?_;intro _ hm));cbv)|((with_reducible refine Hv _ _ _ _ _ ?_);refine callv_ret (bareS n s m false true true) AV.bool call316 rfl rfl rfl (fun _=>rfl) (fun w2 hx=>bare_ret (hE.ext hx) k n s a m c false true true) ?_;rintro(_|_) hu<;>cbv)|((with_reducible refine Hk 320 _ _ _ _ ?_);refine callBo _ call320 rfl (fun w2 hx=>name_ret (hE.ext hx) s hs) ?_;rintro(_|_) hu<;>cbv))
 all_goals(clear Hc Hs Ha Hw Hd Ho Hl Hn Hi Hk Hv Hz Hr Hx;clear hQ;simp only [toV,toVs,retA,Value.bool.injEq,SB.bytes,nodeS,bareS] at *;grind [cmp0,scmp0,bytesEq_iff])
theorem form6_ret (hE:Env w) {p:Addr} (hp:BareAt (hb w) p) (k n:Int) (s:ByteArray) (a:Option Addr) (m c:Nat) (hs:s.size≤1048576):Ret Tryz.prog 323 #[.agg #[.int .i64 k,.int .i64 n,.string s,.slice a m c],.pointer (some p)] w (.bool (nodeS 6 n s m)):=by
 refine ret_of hE func323 rfl [.agg [.val (.int .i64 k),.val (.int .i64 n),.val (.string s),.val (.slice a m c)],.val (.pointer (some p))] rfl fun Q hQ=>?_
 refine .sy (prog_okB _) ?_
 intro _ _ _ _ _ _ _ _ _ _ _ _ _ _ Hc Hs Ha Hw Hd Ho Hl Hn Hi Hk Hv Hz Hr Hx
 cbv
 refine Hl _ _ _ (load_one rfl rfl hp rfl ?_)
 cbv
 repeat'(first|((with_reducible refine hQ _ _ ?_);refine⟨rfl,rfl,_,rfl,rfl,?_⟩)|((with_reducible first|refine Hc _ _ _ _ ?_|refine Hs _ _ _ _ ?_);rintro(_|_) hq0<;>cbv)|((with_reducible first|refine Ha _ _ _ _ _ ?_|refine Hw _ _ _ ?_);intro _ hn;cbv)|((with_reducible refine Hn _ _ _ ?_);(first|refine len_sl rfl rfl ?_|(refine len_st ?_;intro _ hm));cbv)|((with_reducible refine Hv _ _ _ _ _ ?_);refine callv_ret (bareS n s m false false true) AV.bool call316 rfl rfl rfl (fun _=>rfl) (fun w2 hx=>bare_ret (hE.ext hx) k n s a m c false false true) ?_;rintro(_|_) hu<;>cbv)|((with_reducible refine Hk 320 _ _ _ _ ?_);refine callBo _ call320 rfl (fun w2 hx=>name_ret (hE.ext hx) s hs) ?_;rintro(_|_) hu<;>cbv))
 all_goals(clear Hc Hs Ha Hw Hd Ho Hl Hn Hi Hk Hv Hz Hr Hx;clear hQ;simp only [toV,toVs,retA,Value.bool.injEq,SB.bytes,nodeS,bareS] at *;grind [cmp0,scmp0,bytesEq_iff])
end
end Go.Proofs.YtaacpiniakmpbaaGreatDoor
namespace Go.Proofs.YtaacpiniakmpbaaGreatDoor
open Go Ev Tryz
set_option linter.unusedSimpArgs false
set_option linter.unusedVariables false
set_option maxHeartbeats 8000000
set_option maxRecDepth 10000
def formsV (p:Addr):Value:=.agg #[.nilFunc,.func (.func 317) #[] #[.pointer (some p)],.func (.func 318) #[] #[.pointer (some p)],.func (.func 319) #[] #[.pointer (some p)],.func (.func 321) #[] #[.pointer (some p)],.func (.func 322) #[] #[.pointer (some p)],.func (.func 323) #[] #[.pointer (some p)]]
def cntS (left deep:Nat) (t:Tm):Nat:=if tsz t≤left∧tdep t≤deep∧nodesS t=true then tsz t else left+1
theorem cnt_step {left deep n i:Nat} {l:List Tm} {t:Tm} (hg:l[i]?=some t) (hn:n≤left) :
  (n+tszs (l.drop i)≤left∧tdeps (l.drop i)≤deep∧nodessS (l.drop i)=true)↔(n+cntS (left - n) deep t≤left∧(n+cntS (left - n) deep t)+tszs (l.drop (i+1))≤left∧tdeps (l.drop (i+1))≤deep∧nodessS (l.drop (i+1))=true):=by
 rw [drop_get hg,tszs,tdeps,nodessS,cntS,Bool.and_eq_true]
 split
 ·next h =>
  constructor
  ·intro q;exact⟨by omega,by omega,by omega,q.2.2.2⟩
  ·intro q;exact⟨by omega,by omega,h.2.2,q.2.2.2⟩
 ·next h =>
  constructor
  ·intro q;exact(h ⟨by omega,by omega,q.2.2.1⟩).elim
  ·intro q;omega
def FL (p:Addr):List AV:=[.nfn,.val (.func (.func 317) #[] #[.pointer (some p)]),.val (.func (.func 318) #[] #[.pointer (some p)]),.val (.func (.func 319) #[] #[.pointer (some p)]),.val (.func (.func 321) #[] #[.pointer (some p)]),.val (.func (.func 322) #[] #[.pointer (some p)]),.val (.func (.func 323) #[] #[.pointer (some p)])]
def FA (p:Addr):AV:=.agg (FL p)
def Kd (k:Int):Prop:=k=k
def CntK (k:Int):Prop:=∀ (N:Nat) (ih:∀ (t:Tm),tsz t<N→∀ (left deep:Nat),left≤4000→deep≤600→∀ {w:World} {cs:List Value} {p:Addr},Env w→TmAt (hb w) t cs→BareAt (hb w) p→Ret Tryz.prog 203 #[.agg cs.toArray,.int .i64 (Int.ofNat left),.int .i64 (Int.ofNat deep),formsV p] w (.int .i64 (Int.ofNat (cntS left deep t)))) {n:Int} {s:ByteArray} {l:List Tm} (hN:tszs l+1<N+1) {left deep:Nat} (hleft:left≤4000) (hdeep:deep≤600) {w:World} {p:Addr} {a:Option Addr} {m c:Nat} (hE:Env w) (hl:TmsAt (hb w) l a m) (hs:s.size≤1048576) (hp:BareAt (hb w) p) (r:Nat) (hr:r=cntS left deep (.mk k n s l)) (hkd:Kd k),Ret Tryz.prog 203 #[.agg #[.int .i64 k,.int .i64 n,.string s,.slice a m c],.int .i64 (Int.ofNat left),.int .i64 (Int.ofNat deep),formsV p] w (.int .i64 (Int.ofNat r))
end Go.Proofs.YtaacpiniakmpbaaGreatDoor
