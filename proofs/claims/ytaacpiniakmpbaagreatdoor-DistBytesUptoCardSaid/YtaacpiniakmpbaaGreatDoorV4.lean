/- Goals, as the program and the reference take them. -/
import Derived.Test.YtaacpiniakmpbaaGreatDoorS5
import Derived.Test.YtaacpiniakmpbaaGreatDoorS6
import Derived.Test.YtaacpiniakmpbaaGreatDoorV3
namespace Go.Proofs.YtaacpiniakmpbaaGreatDoor
open Go Ev Tryz
set_option linter.unusedSimpArgs false
set_option linter.unusedVariables false
set_option maxHeartbeats 8000000
set_option maxRecDepth 10000
theorem idx_el {B:Nat→Option Go.Obj} {b off n c j:Nat} {i:Int} (hj:j<n) (hi:i=Int.ofNat j) {K:AV→Prop} (hK:K (.val (.pointer (some ⟨b,off+j*4,none⟩)))):IndexR (ctxB B) 22 (.slice (some ⟨b,off,none⟩) n c) i K :=
 ⟨_,_,_,b,off,n,c,j,rfl,rfl,rfl,rfl,hi,hj,hK⟩
def GoalV (w:World) (f:FuncId) (isg:Bool) (k n:Int) (s:ByteArray) (a:Option Addr) (m c:Nat):Prop :=
 ∃ kd pr k' n' s' a' m' c',(isg=true→atS k s m=false→kd=plainS k s m)∧∀ w2,Ext (ctxB (hb w)) w2→Ret Tryz.prog f #[.agg #[.int .i64 k,.int .i64 n,.string s,.slice a m c]] w2 (.tuple #[.int .i64 kd,.int .i64 pr,.agg #[.int .i64 k',.int .i64 n',.string s',.slice a' m' c']])
theorem at_out {B:Nat→Option Go.Obj} {k n:Int} {s:ByteArray} {l:List Tm} {a:Option Addr} {m c:Nat} (ht:TmAt B (.mk k n s l) [.int .i64 k,.int .i64 n,.string s,.slice a m c]) (h:m=2) :
  ∃ b off k0 n0 s0 a0 m0 c0 k1 n1 s1 a1 m1 c1 l0 l1,a=some ⟨b,off,none⟩∧CellsB B ⟨b,off+0*4,none⟩ [.int .i64 k0,.int .i64 n0,.string s0,.slice a0 m0 c0]∧CellsB B ⟨b,off+1*4,none⟩ [.int .i64 k1,.int .i64 n1,.string s1,.slice a1 m1 c1] ∧
   TmAt B (.mk k0 n0 s0 l0) [.int .i64 k0,.int .i64 n0,.string s0,.slice a0 m0 c0]∧TmAt B (.mk k1 n1 s1 l1) [.int .i64 k1,.int .i64 n1,.string s1,.slice a1 m1 c1]:=by
 obtain⟨hm,_,hl⟩:=ht.out3
 match l,hm.symm.trans h with
 | [⟨k0,n0,s0,l0⟩,⟨k1,n1,s1,l1⟩],_ =>
  rcases hl with hl|⟨b,off,rfl,hl⟩
  ·cases hl
  ·obtain⟨cs0,g0,t0⟩:=hl.get 0 _ rfl
   obtain⟨cs1,g1,t1⟩:=hl.get 1 _ rfl
   obtain⟨a0,m0,c0,rfl,_⟩:=t0.out
   obtain⟨a1,m1,c1,rfl,_⟩:=t1.out
   exact⟨b,off,k0,n0,s0,a0,m0,c0,k1,n1,s1,a1,m1,c1,l0,l1,rfl,g0,g1,t0,t1⟩
theorem load_at {B B':Nat→Option Go.Obj} (hm:∀ k o,B k=some o→B' k=some o) {p:Addr} {k n:Int} {s:ByteArray} {a:Option Addr} {m c:Nat} (hc:CellsB B p [.int .i64 k,.int .i64 n,.string s,.slice a m c]) {K:AV→Prop} (hK:K (.agg [.val (.int .i64 k),.val (.int .i64 n),.val (.string s),.val (.slice a m c)])):LoadR (ctxB B') 24 p K:=⟨_,_,rfl,CellsB.mono hm hc,.inl ⟨rfl,rfl,rfl,hK⟩⟩
theorem _root_.Ev.CellsB.fld {B:Nat→Option Go.Obj} {p:Addr} {cs:List Value} {j:Nat} {v:Value} (h:CellsB B p cs) (hj:cs[j]?=some v):CellsB B (p.add j) [v]:=by
 obtain⟨h1,arr,e,fz,h2,h3⟩:=h
 unfold Addr.add
 split
 ·next q =>
  subst q
  exact⟨h1,arr,e,fz,h2,fun i u hi=>by cases i with|zero=>cases hi;exact h3 0 _ hj|succ i=>simp at hi⟩
 ·exact⟨rfl,arr,e,fz,h2,fun i u hi=>by cases i with|zero=>cases hi;exact h3 j _ hj|succ i=>simp at hi⟩
theorem at_of {k:Int} {s:ByteArray} {m:Nat} (h:isFunS k s m ⟨⟨List.map UInt8.ofNat [64]⟩⟩ 2=true):atS k s m=true∧m=2:=by
 simp only [isFunS,by_at,Bool.and_eq_true,decide_eq_true_eq] at h
 have:m=2:=by omega
 exact⟨decide_eq_true ⟨h.1.1,of_decide_eq_true h.1.2,this⟩,this⟩
theorem fun_isFun {k:Int} {s:ByteArray} {m:Nat} {u:ByteArray} (h:funS k s m u 2=true):isFunS k s m u 2=true:=by
 rwa [funS,if_neg (by decide)] at h
section
variable {w:World}
theorem goal126 (hE:Env w) {k n:Int} {s:ByteArray} {l:List Tm} {a:Option Addr} {m c:Nat} (ht:TmAt (hb w) (.mk k n s l) [.int .i64 k,.int .i64 n,.string s,.slice a m c]):GoalV w 126 true k n s a m c:=by
 cases hat:isFunS k s m ⟨⟨List.map UInt8.ofNat [64]⟩⟩ 2 with
 | false =>
  obtain⟨r,hr⟩:∃ r,r=plainS k s m:=⟨_,rfl⟩
  by_cases h0:r=0
  ·refine⟨0,0,0,0,strB [],none,0,0,fun _ q=>h0.symm.trans hr,fun w2 hx=>?_⟩
   refine ret_of (hE.ext hx) func126 rfl [.agg [.val (.int .i64 k),.val (.int .i64 n),.val (.string s),.val (.slice a m c)]] rfl fun Q hQ=>?_
   refine .sy (prog_okB _) ?_
   intro _ _ _ _ _ _ _ _ _ _ _ _ _ _ Hc Hs Ha Hw Hd Ho Hl Hn Hi Hk Hv Hz Hr Hx
   cbv
   refine Hk _ _ _ _ _ (callBo false call204 rfl (fun w3 hy=>hat▸isFun_ret ((hE.ext hx).ext hy) k n s a m c _ 2) ?_)
   intro u hu
   subst hu
   cbv
   refine Hk _ _ _ _ _ (callIn r call205 rfl (fun w3 hy=>hr▸kind_ret ((hE.ext hx).ext hy) k n s a m c) ?_)
   intro u hu
   cbv
   repeat'(first|((with_reducible refine hQ _ _ ?_);refine⟨rfl,rfl,_,rfl,rfl,?_⟩)|((with_reducible first|refine Hc _ _ _ _ ?_|refine Hs _ _ _ _ ?_);rintro(_|_) hq0<;>cbv)|((with_reducible first|refine Ha _ _ _ _ _ ?_|refine Hw _ _ _ ?_);intro _ hn;cbv)|((with_reducible refine Hn _ _ _ ?_);(first|refine len_sl rfl rfl ?_|(refine len_st ?_;intro _ hm));cbv))
   all_goals(clear Hc Hs Ha Hw Hd Ho Hl Hn Hi Hk Hv Hz Hr Hx;clear hQ)
   all_goals first
    | rfl
    | (subst hu;rfl)
    | (exfalso;clear hE hx ht;grind [cmp0])
  ·refine⟨r,0,k,n,s,a,m,c,fun _ q=>hr,fun w2 hx=>?_⟩
   refine ret_of (hE.ext hx) func126 rfl [.agg [.val (.int .i64 k),.val (.int .i64 n),.val (.string s),.val (.slice a m c)]] rfl fun Q hQ=>?_
   refine .sy (prog_okB _) ?_
   intro _ _ _ _ _ _ _ _ _ _ _ _ _ _ Hc Hs Ha Hw Hd Ho Hl Hn Hi Hk Hv Hz Hr Hx
   cbv
   refine Hk _ _ _ _ _ (callBo false call204 rfl (fun w3 hy=>hat▸isFun_ret ((hE.ext hx).ext hy) k n s a m c _ 2) ?_)
   intro u hu
   subst hu
   cbv
   refine Hk _ _ _ _ _ (callIn r call205 rfl (fun w3 hy=>hr▸kind_ret ((hE.ext hx).ext hy) k n s a m c) ?_)
   intro u hu
   cbv
   repeat'(first|((with_reducible refine hQ _ _ ?_);refine⟨rfl,rfl,_,rfl,rfl,?_⟩)|((with_reducible first|refine Hc _ _ _ _ ?_|refine Hs _ _ _ _ ?_);rintro(_|_) hq0<;>cbv)|((with_reducible first|refine Ha _ _ _ _ _ ?_|refine Hw _ _ _ ?_);intro _ hn;cbv)|((with_reducible refine Hn _ _ _ ?_);(first|refine len_sl rfl rfl ?_|(refine len_st ?_;intro _ hm));cbv))
   all_goals(clear Hc Hs Ha Hw Hd Ho Hl Hn Hi Hk Hv Hz Hr Hx;clear hQ)
   all_goals first
    | rfl
    | (subst hu;rfl)
    | (exfalso;clear hE hx ht;grind [cmp0])
 | true =>
  have hk:atS k s m=true∧m=2:=at_of hat
  obtain⟨b,off,k0,n0,s0,a0,m0,c0,k1,n1,s1,a1,m1,c1,l0,l1,rfl,g0,g1,t0,t1⟩:=at_out ht hk.2
  have hm1:1<m:=by omega
  have hm0:0<m:=by omega
  obtain⟨r,hr⟩:∃ r,r=plainS k0 s0 m0:=⟨_,rfl⟩
  by_cases hbad:k1≠2∨n1<0∨15<n1
  ·refine⟨0,0,0,0,strB [],none,0,0,fun _ q=>absurd (hk.1.symm.trans q) (by decide),fun w2 hx=>?_⟩
   refine ret_of (hE.ext hx) func126 rfl [.agg [.val (.int .i64 k),.val (.int .i64 n),.val (.string s),.val (.slice (some (Addr.mk b off none)) m c)]] rfl fun Q hQ=>?_
   refine .sy (prog_okB _) ?_
   intro _ _ _ _ _ _ _ _ _ _ _ _ _ _ Hc Hs Ha Hw Hd Ho Hl Hn Hi Hk Hv Hz Hr Hx
   cbv
   refine Hk _ _ _ _ _ (callBo true call204 rfl (fun w3 hy=>hat▸isFun_ret ((hE.ext hx).ext hy) k n s (some (Addr.mk b off none)) m c _ 2) ?_)
   intro u hu
   subst hu
   cbv
   repeat'(first|((with_reducible refine hQ _ _ ?_);refine⟨rfl,rfl,_,rfl,rfl,?_⟩)|((with_reducible first|refine Hc _ _ _ _ ?_|refine Hs _ _ _ _ ?_);rintro(_|_) hq0<;>cbv)|((with_reducible first|refine Ha _ _ _ _ _ ?_|refine Hw _ _ _ ?_);intro _ hn;cbv)|((with_reducible refine Hn _ _ _ ?_);(first|refine len_sl rfl rfl ?_|(refine len_st ?_;intro _ hm));cbv)|((with_reducible refine Hi _ _ _ _ ?_);refine idx_el (j:=1) hm1 rfl ?_;cbv)|((with_reducible refine Hi _ _ _ _ ?_);refine idx_el (j:=0) hm0 rfl ?_;cbv)|((with_reducible refine Hl 24 _ _ ?_);refine load_at (ext_hb hx) g1 ?_;cbv)|((with_reducible refine Hl 24 _ _ ?_);refine load_at (ext_hb hx) g0 ?_;cbv)|((with_reducible refine Hd _ _ _ ?_);intro q hq;cbv)|((with_reducible refine Hl 3 _ _ ?_);subst hq;refine load_one rfl rfl (CellsB.fld (j:=0) (CellsB.mono (ext_hb hx) g1) rfl) rfl ?_;cbv)|((with_reducible refine Hl 3 _ _ ?_);subst hq;refine load_one rfl rfl (CellsB.fld (j:=1) (CellsB.mono (ext_hb hx) g1) rfl) rfl ?_;cbv)|((with_reducible refine Hk 205 _ _ _ _ ?_);refine callIn r call205 rfl (fun w3 hy=>hr▸kind_ret ((hE.ext hx).ext hy) k0 n0 s0 a0 m0 c0) ?_;intro u hu;cbv))
   all_goals(clear Hc Hs Ha Hw Hd Ho Hl Hn Hi Hk Hv Hz Hr Hx;clear hQ)
   all_goals first
    | rfl
    | (subst hu;rfl)
    | (exfalso;clear hE hx ht;grind [cmp0])
  ·by_cases h0:r=0
   ·refine⟨0,0,0,0,strB [],none,0,0,fun _ q=>absurd (hk.1.symm.trans q) (by decide),fun w2 hx=>?_⟩
    refine ret_of (hE.ext hx) func126 rfl [.agg [.val (.int .i64 k),.val (.int .i64 n),.val (.string s),.val (.slice (some (Addr.mk b off none)) m c)]] rfl fun Q hQ=>?_
    refine .sy (prog_okB _) ?_
    intro _ _ _ _ _ _ _ _ _ _ _ _ _ _ Hc Hs Ha Hw Hd Ho Hl Hn Hi Hk Hv Hz Hr Hx
    cbv
    refine Hk _ _ _ _ _ (callBo true call204 rfl (fun w3 hy=>hat▸isFun_ret ((hE.ext hx).ext hy) k n s (some (Addr.mk b off none)) m c _ 2) ?_)
    intro u hu
    subst hu
    cbv
    repeat'(first|((with_reducible refine hQ _ _ ?_);refine⟨rfl,rfl,_,rfl,rfl,?_⟩)|((with_reducible first|refine Hc _ _ _ _ ?_|refine Hs _ _ _ _ ?_);rintro(_|_) hq0<;>cbv)|((with_reducible first|refine Ha _ _ _ _ _ ?_|refine Hw _ _ _ ?_);intro _ hn;cbv)|((with_reducible refine Hn _ _ _ ?_);(first|refine len_sl rfl rfl ?_|(refine len_st ?_;intro _ hm));cbv)|((with_reducible refine Hi _ _ _ _ ?_);refine idx_el (j:=1) hm1 rfl ?_;cbv)|((with_reducible refine Hi _ _ _ _ ?_);refine idx_el (j:=0) hm0 rfl ?_;cbv)|((with_reducible refine Hl 24 _ _ ?_);refine load_at (ext_hb hx) g1 ?_;cbv)|((with_reducible refine Hl 24 _ _ ?_);refine load_at (ext_hb hx) g0 ?_;cbv)|((with_reducible refine Hd _ _ _ ?_);intro q hq;cbv)|((with_reducible refine Hl 3 _ _ ?_);subst hq;refine load_one rfl rfl (CellsB.fld (j:=0) (CellsB.mono (ext_hb hx) g1) rfl) rfl ?_;cbv)|((with_reducible refine Hl 3 _ _ ?_);subst hq;refine load_one rfl rfl (CellsB.fld (j:=1) (CellsB.mono (ext_hb hx) g1) rfl) rfl ?_;cbv)|((with_reducible refine Hk 205 _ _ _ _ ?_);refine callIn r call205 rfl (fun w3 hy=>hr▸kind_ret ((hE.ext hx).ext hy) k0 n0 s0 a0 m0 c0) ?_;intro u hu;cbv))
    all_goals(clear Hc Hs Ha Hw Hd Ho Hl Hn Hi Hk Hv Hz Hr Hx;clear hQ)
    all_goals first
     | rfl
     | (subst hu;rfl)
     | (exfalso;clear hE hx ht;grind [cmp0])
   ·refine⟨r,n1,k0,n0,s0,a0,m0,c0,fun _ q=>absurd (hk.1.symm.trans q) (by decide),fun w2 hx=>?_⟩
    refine ret_of (hE.ext hx) func126 rfl [.agg [.val (.int .i64 k),.val (.int .i64 n),.val (.string s),.val (.slice (some (Addr.mk b off none)) m c)]] rfl fun Q hQ=>?_
    refine .sy (prog_okB _) ?_
    intro _ _ _ _ _ _ _ _ _ _ _ _ _ _ Hc Hs Ha Hw Hd Ho Hl Hn Hi Hk Hv Hz Hr Hx
    cbv
    refine Hk _ _ _ _ _ (callBo true call204 rfl (fun w3 hy=>hat▸isFun_ret ((hE.ext hx).ext hy) k n s (some (Addr.mk b off none)) m c _ 2) ?_)
    intro u hu
    subst hu
    cbv
    repeat'(first|((with_reducible refine hQ _ _ ?_);refine⟨rfl,rfl,_,rfl,rfl,?_⟩)|((with_reducible first|refine Hc _ _ _ _ ?_|refine Hs _ _ _ _ ?_);rintro(_|_) hq0<;>cbv)|((with_reducible first|refine Ha _ _ _ _ _ ?_|refine Hw _ _ _ ?_);intro _ hn;cbv)|((with_reducible refine Hn _ _ _ ?_);(first|refine len_sl rfl rfl ?_|(refine len_st ?_;intro _ hm));cbv)|((with_reducible refine Hi _ _ _ _ ?_);refine idx_el (j:=1) hm1 rfl ?_;cbv)|((with_reducible refine Hi _ _ _ _ ?_);refine idx_el (j:=0) hm0 rfl ?_;cbv)|((with_reducible refine Hl 24 _ _ ?_);refine load_at (ext_hb hx) g1 ?_;cbv)|((with_reducible refine Hl 24 _ _ ?_);refine load_at (ext_hb hx) g0 ?_;cbv)|((with_reducible refine Hd _ _ _ ?_);intro q hq;cbv)|((with_reducible refine Hl 3 _ _ ?_);subst hq;refine load_one rfl rfl (CellsB.fld (j:=0) (CellsB.mono (ext_hb hx) g1) rfl) rfl ?_;cbv)|((with_reducible refine Hl 3 _ _ ?_);subst hq;refine load_one rfl rfl (CellsB.fld (j:=1) (CellsB.mono (ext_hb hx) g1) rfl) rfl ?_;cbv)|((with_reducible refine Hk 205 _ _ _ _ ?_);refine callIn r call205 rfl (fun w3 hy=>hr▸kind_ret ((hE.ext hx).ext hy) k0 n0 s0 a0 m0 c0) ?_;intro u hu;cbv))
    all_goals(clear Hc Hs Ha Hw Hd Ho Hl Hn Hi Hk Hv Hz Hr Hx;clear hQ)
    all_goals first
     | rfl
     | (subst hu;rfl)
     | (exfalso;clear hE hx ht;grind [cmp0])
theorem goal128 (hE:Env w) {k n:Int} {s:ByteArray} {l:List Tm} {a:Option Addr} {m c:Nat} (ht:TmAt (hb w) (.mk k n s l) [.int .i64 k,.int .i64 n,.string s,.slice a m c]):GoalV w 128 true k n s a m c:=by
 cases hat:funS k s m ⟨⟨List.map UInt8.ofNat [64]⟩⟩ 2 with
 | false =>
  obtain⟨r,hr⟩:∃ r,r=plainS k s m:=⟨_,rfl⟩
  by_cases h0:r=0
  ·refine⟨0,0,0,0,strB [],none,0,0,fun _ q=>h0.symm.trans hr,fun w2 hx=>?_⟩
   refine ret_of (hE.ext hx) func128 rfl [.agg [.val (.int .i64 k),.val (.int .i64 n),.val (.string s),.val (.slice a m c)]] rfl fun Q hQ=>?_
   refine .sy (prog_okB _) ?_
   intro _ _ _ _ _ _ _ _ _ _ _ _ _ _ Hc Hs Ha Hw Hd Ho Hl Hn Hi Hk Hv Hz Hr Hx
   cbv
   refine Hk _ _ _ _ _ (callBo false call208 rfl (fun w3 hy=>hat▸fun_ret ((hE.ext hx).ext hy) k n s a m c _ 2) ?_)
   intro u hu
   subst hu
   cbv
   refine Hk _ _ _ _ _ (callIn r call209 rfl (fun w3 hy=>hr▸refPlain_ret ((hE.ext hx).ext hy) k n s a m c) ?_)
   intro u hu
   cbv
   repeat'(first|((with_reducible refine hQ _ _ ?_);refine⟨rfl,rfl,_,rfl,rfl,?_⟩)|((with_reducible first|refine Hc _ _ _ _ ?_|refine Hs _ _ _ _ ?_);rintro(_|_) hq0<;>cbv)|((with_reducible first|refine Ha _ _ _ _ _ ?_|refine Hw _ _ _ ?_);intro _ hn;cbv)|((with_reducible refine Hn _ _ _ ?_);(first|refine len_sl rfl rfl ?_|(refine len_st ?_;intro _ hm));cbv))
   all_goals(clear Hc Hs Ha Hw Hd Ho Hl Hn Hi Hk Hv Hz Hr Hx;clear hQ)
   all_goals first
    | rfl
    | (subst hu;rfl)
    | (exfalso;clear hE hx ht;grind [cmp0])
  ·refine⟨r,0,k,n,s,a,m,c,fun _ q=>hr,fun w2 hx=>?_⟩
   refine ret_of (hE.ext hx) func128 rfl [.agg [.val (.int .i64 k),.val (.int .i64 n),.val (.string s),.val (.slice a m c)]] rfl fun Q hQ=>?_
   refine .sy (prog_okB _) ?_
   intro _ _ _ _ _ _ _ _ _ _ _ _ _ _ Hc Hs Ha Hw Hd Ho Hl Hn Hi Hk Hv Hz Hr Hx
   cbv
   refine Hk _ _ _ _ _ (callBo false call208 rfl (fun w3 hy=>hat▸fun_ret ((hE.ext hx).ext hy) k n s a m c _ 2) ?_)
   intro u hu
   subst hu
   cbv
   refine Hk _ _ _ _ _ (callIn r call209 rfl (fun w3 hy=>hr▸refPlain_ret ((hE.ext hx).ext hy) k n s a m c) ?_)
   intro u hu
   cbv
   repeat'(first|((with_reducible refine hQ _ _ ?_);refine⟨rfl,rfl,_,rfl,rfl,?_⟩)|((with_reducible first|refine Hc _ _ _ _ ?_|refine Hs _ _ _ _ ?_);rintro(_|_) hq0<;>cbv)|((with_reducible first|refine Ha _ _ _ _ _ ?_|refine Hw _ _ _ ?_);intro _ hn;cbv)|((with_reducible refine Hn _ _ _ ?_);(first|refine len_sl rfl rfl ?_|(refine len_st ?_;intro _ hm));cbv))
   all_goals(clear Hc Hs Ha Hw Hd Ho Hl Hn Hi Hk Hv Hz Hr Hx;clear hQ)
   all_goals first
    | rfl
    | (subst hu;rfl)
    | (exfalso;clear hE hx ht;grind [cmp0])
 | true =>
  have hk:atS k s m=true∧m=2:=at_of (fun_isFun hat)
  obtain⟨b,off,k0,n0,s0,a0,m0,c0,k1,n1,s1,a1,m1,c1,l0,l1,rfl,g0,g1,t0,t1⟩:=at_out ht hk.2
  have hm1:1<m:=by omega
  have hm0:0<m:=by omega
  obtain⟨r,hr⟩:∃ r,r=plainS k0 s0 m0:=⟨_,rfl⟩
  by_cases hbad:k1≠2∨n1<0∨15<n1
  ·refine⟨0,0,0,0,strB [],none,0,0,fun _ q=>absurd (hk.1.symm.trans q) (by decide),fun w2 hx=>?_⟩
   refine ret_of (hE.ext hx) func128 rfl [.agg [.val (.int .i64 k),.val (.int .i64 n),.val (.string s),.val (.slice (some (Addr.mk b off none)) m c)]] rfl fun Q hQ=>?_
   refine .sy (prog_okB _) ?_
   intro _ _ _ _ _ _ _ _ _ _ _ _ _ _ Hc Hs Ha Hw Hd Ho Hl Hn Hi Hk Hv Hz Hr Hx
   cbv
   refine Hk _ _ _ _ _ (callBo true call208 rfl (fun w3 hy=>hat▸fun_ret ((hE.ext hx).ext hy) k n s (some (Addr.mk b off none)) m c _ 2) ?_)
   intro u hu
   subst hu
   cbv
   repeat'(first|((with_reducible refine hQ _ _ ?_);refine⟨rfl,rfl,_,rfl,rfl,?_⟩)|((with_reducible first|refine Hc _ _ _ _ ?_|refine Hs _ _ _ _ ?_);rintro(_|_) hq0<;>cbv)|((with_reducible first|refine Ha _ _ _ _ _ ?_|refine Hw _ _ _ ?_);intro _ hn;cbv)|((with_reducible refine Hn _ _ _ ?_);(first|refine len_sl rfl rfl ?_|(refine len_st ?_;intro _ hm));cbv)|((with_reducible refine Hi _ _ _ _ ?_);refine idx_el (j:=1) hm1 rfl ?_;cbv)|((with_reducible refine Hi _ _ _ _ ?_);refine idx_el (j:=0) hm0 rfl ?_;cbv)|((with_reducible refine Hl 24 _ _ ?_);refine load_at (ext_hb hx) g1 ?_;cbv)|((with_reducible refine Hl 24 _ _ ?_);refine load_at (ext_hb hx) g0 ?_;cbv)|((with_reducible refine Hd _ _ _ ?_);intro q hq;cbv)|((with_reducible refine Hl 3 _ _ ?_);subst hq;refine load_one rfl rfl (CellsB.fld (j:=0) (CellsB.mono (ext_hb hx) g1) rfl) rfl ?_;cbv)|((with_reducible refine Hl 3 _ _ ?_);subst hq;refine load_one rfl rfl (CellsB.fld (j:=1) (CellsB.mono (ext_hb hx) g1) rfl) rfl ?_;cbv)|((with_reducible refine Hk 209 _ _ _ _ ?_);refine callIn r call209 rfl (fun w3 hy=>hr▸refPlain_ret ((hE.ext hx).ext hy) k0 n0 s0 a0 m0 c0) ?_;intro u hu;cbv))
   all_goals(clear Hc Hs Ha Hw Hd Ho Hl Hn Hi Hk Hv Hz Hr Hx;clear hQ)
   all_goals first
    | rfl
    | (subst hu;rfl)
    | (exfalso;clear hE hx ht;grind [cmp0])
  ·by_cases h0:r=0
   ·refine⟨0,0,0,0,strB [],none,0,0,fun _ q=>absurd (hk.1.symm.trans q) (by decide),fun w2 hx=>?_⟩
    refine ret_of (hE.ext hx) func128 rfl [.agg [.val (.int .i64 k),.val (.int .i64 n),.val (.string s),.val (.slice (some (Addr.mk b off none)) m c)]] rfl fun Q hQ=>?_
    refine .sy (prog_okB _) ?_
    intro _ _ _ _ _ _ _ _ _ _ _ _ _ _ Hc Hs Ha Hw Hd Ho Hl Hn Hi Hk Hv Hz Hr Hx
    cbv
    refine Hk _ _ _ _ _ (callBo true call208 rfl (fun w3 hy=>hat▸fun_ret ((hE.ext hx).ext hy) k n s (some (Addr.mk b off none)) m c _ 2) ?_)
    intro u hu
    subst hu
    cbv
    repeat'(first|((with_reducible refine hQ _ _ ?_);refine⟨rfl,rfl,_,rfl,rfl,?_⟩)|((with_reducible first|refine Hc _ _ _ _ ?_|refine Hs _ _ _ _ ?_);rintro(_|_) hq0<;>cbv)|((with_reducible first|refine Ha _ _ _ _ _ ?_|refine Hw _ _ _ ?_);intro _ hn;cbv)|((with_reducible refine Hn _ _ _ ?_);(first|refine len_sl rfl rfl ?_|(refine len_st ?_;intro _ hm));cbv)|((with_reducible refine Hi _ _ _ _ ?_);refine idx_el (j:=1) hm1 rfl ?_;cbv)|((with_reducible refine Hi _ _ _ _ ?_);refine idx_el (j:=0) hm0 rfl ?_;cbv)|((with_reducible refine Hl 24 _ _ ?_);refine load_at (ext_hb hx) g1 ?_;cbv)|((with_reducible refine Hl 24 _ _ ?_);refine load_at (ext_hb hx) g0 ?_;cbv)|((with_reducible refine Hd _ _ _ ?_);intro q hq;cbv)|((with_reducible refine Hl 3 _ _ ?_);subst hq;refine load_one rfl rfl (CellsB.fld (j:=0) (CellsB.mono (ext_hb hx) g1) rfl) rfl ?_;cbv)|((with_reducible refine Hl 3 _ _ ?_);subst hq;refine load_one rfl rfl (CellsB.fld (j:=1) (CellsB.mono (ext_hb hx) g1) rfl) rfl ?_;cbv)|((with_reducible refine Hk 209 _ _ _ _ ?_);refine callIn r call209 rfl (fun w3 hy=>hr▸refPlain_ret ((hE.ext hx).ext hy) k0 n0 s0 a0 m0 c0) ?_;intro u hu;cbv))
    all_goals(clear Hc Hs Ha Hw Hd Ho Hl Hn Hi Hk Hv Hz Hr Hx;clear hQ)
    all_goals first
     | rfl
     | (subst hu;rfl)
     | (exfalso;clear hE hx ht;grind [cmp0])
   ·refine⟨r,n1,k0,n0,s0,a0,m0,c0,fun _ q=>absurd (hk.1.symm.trans q) (by decide),fun w2 hx=>?_⟩
    refine ret_of (hE.ext hx) func128 rfl [.agg [.val (.int .i64 k),.val (.int .i64 n),.val (.string s),.val (.slice (some (Addr.mk b off none)) m c)]] rfl fun Q hQ=>?_
    refine .sy (prog_okB _) ?_
    intro _ _ _ _ _ _ _ _ _ _ _ _ _ _ Hc Hs Ha Hw Hd Ho Hl Hn Hi Hk Hv Hz Hr Hx
    cbv
    refine Hk _ _ _ _ _ (callBo true call208 rfl (fun w3 hy=>hat▸fun_ret ((hE.ext hx).ext hy) k n s (some (Addr.mk b off none)) m c _ 2) ?_)
    intro u hu
    subst hu
    cbv
    repeat'(first|((with_reducible refine hQ _ _ ?_);refine⟨rfl,rfl,_,rfl,rfl,?_⟩)|((with_reducible first|refine Hc _ _ _ _ ?_|refine Hs _ _ _ _ ?_);rintro(_|_) hq0<;>cbv)|((with_reducible first|refine Ha _ _ _ _ _ ?_|refine Hw _ _ _ ?_);intro _ hn;cbv)|((with_reducible refine Hn _ _ _ ?_);(first|refine len_sl rfl rfl ?_|(refine len_st ?_;intro _ hm));cbv)|((with_reducible refine Hi _ _ _ _ ?_);refine idx_el (j:=1) hm1 rfl ?_;cbv)|((with_reducible refine Hi _ _ _ _ ?_);refine idx_el (j:=0) hm0 rfl ?_;cbv)|((with_reducible refine Hl 24 _ _ ?_);refine load_at (ext_hb hx) g1 ?_;cbv)|((with_reducible refine Hl 24 _ _ ?_);refine load_at (ext_hb hx) g0 ?_;cbv)|((with_reducible refine Hd _ _ _ ?_);intro q hq;cbv)|((with_reducible refine Hl 3 _ _ ?_);subst hq;refine load_one rfl rfl (CellsB.fld (j:=0) (CellsB.mono (ext_hb hx) g1) rfl) rfl ?_;cbv)|((with_reducible refine Hl 3 _ _ ?_);subst hq;refine load_one rfl rfl (CellsB.fld (j:=1) (CellsB.mono (ext_hb hx) g1) rfl) rfl ?_;cbv)|((with_reducible refine Hk 209 _ _ _ _ ?_);refine callIn r call209 rfl (fun w3 hy=>hr▸refPlain_ret ((hE.ext hx).ext hy) k0 n0 s0 a0 m0 c0) ?_;intro u hu;cbv))
    all_goals(clear Hc Hs Ha Hw Hd Ho Hl Hn Hi Hk Hv Hz Hr Hx;clear hQ)
    all_goals first
     | rfl
     | (subst hu;rfl)
     | (exfalso;clear hE hx ht;grind [cmp0])
theorem goal_ret (hE:Env w) {k n:Int} {s:ByteArray} {l:List Tm} {a:Option Addr} {m c:Nat} (ht:TmAt (hb w) (.mk k n s l) [.int .i64 k,.int .i64 n,.string s,.slice a m c]):GoalV w 71 (isS (.mk k n s l)) k n s a m c:=by
 obtain⟨kd,pr,k',n',s',a',m',c',hkd,hg⟩:=goal126 hE ht
 cases his:isS (.mk k n s l) with
 | false =>
  refine⟨0,0,0,0,strB [],none,0,0,fun q=>(nomatch q),fun w2 hx=>?_⟩
  refine ret_of (hE.ext hx) func71 rfl [.agg [.val (.int .i64 k),.val (.int .i64 n),.val (.string s),.val (.slice a m c)]] rfl fun Q hQ=>?_
  refine .sy (prog_okB _) ?_
  intro _ _ _ _ _ _ _ _ _ _ _ _ _ _ Hc Hs Ha Hw Hd Ho Hl Hn Hi Hk Hv Hz Hr Hx
  cbv
  refine Hk _ _ _ _ _ (callIn _ call70 rfl (fun w3 hy=>check_ret ((hE.ext hx).ext hy) ((ht.mono (ext_hb hx)).mono (ext_hb hy))) ?_);rw [his];intro u hu;simp only [if_true,if_false,Bool.false_eq_true] at hu;subst hu
  cbv
  repeat'(first|((with_reducible refine hQ _ _ ?_);refine⟨rfl,rfl,_,rfl,rfl,?_⟩)|((with_reducible first|refine Hc _ _ _ _ ?_|refine Hs _ _ _ _ ?_);rintro(_|_) hq0<;>cbv)|((with_reducible first|refine Ha _ _ _ _ _ ?_|refine Hw _ _ _ ?_);intro _ hn;cbv)|((with_reducible refine Hn _ _ _ ?_);(first|refine len_sl rfl rfl ?_|(refine len_st ?_;intro _ hm));cbv))
  all_goals(clear Hc Hs Ha Hw Hd Ho Hl Hn Hi Hk Hv Hz Hr Hx;clear hQ)
  all_goals first
   | rfl
   | (subst hu;rfl)
   | (exfalso;clear hE hx ht;grind [cmp0])
 | true =>
  refine⟨kd,pr,k',n',s',a',m',c',fun _ q=>hkd rfl q,fun w2 hx=>?_⟩
  refine ret_of (hE.ext hx) func71 rfl [.agg [.val (.int .i64 k),.val (.int .i64 n),.val (.string s),.val (.slice a m c)]] rfl fun Q hQ=>?_
  refine .sy (prog_okB _) ?_
  intro _ _ _ _ _ _ _ _ _ _ _ _ _ _ Hc Hs Ha Hw Hd Ho Hl Hn Hi Hk Hv Hz Hr Hx
  cbv
  refine Hk _ _ _ _ _ (callIn _ call70 rfl (fun w3 hy=>check_ret ((hE.ext hx).ext hy) ((ht.mono (ext_hb hx)).mono (ext_hb hy))) ?_);rw [his];intro u hu;simp only [if_true,if_false,Bool.false_eq_true] at hu;subst hu
  cbv
  repeat'(first|((with_reducible refine hQ _ _ ?_);refine⟨rfl,rfl,_,rfl,rfl,?_⟩)|((with_reducible first|refine Hc _ _ _ _ ?_|refine Hs _ _ _ _ ?_);rintro(_|_) hq0<;>cbv)|((with_reducible first|refine Ha _ _ _ _ _ ?_|refine Hw _ _ _ ?_);intro _ hn;cbv)|((with_reducible refine Hn _ _ _ ?_);(first|refine len_sl rfl rfl ?_|(refine len_st ?_;intro _ hm));cbv)|((with_reducible refine Hk 126 _ _ _ _ ?_);refine callGn () (fun _=>.tup [.val (.int .i64 kd),.val (.int .i64 pr),.agg [.val (.int .i64 k'),.val (.int .i64 n'),.val (.string s'),.val (.slice a' m' c')] ]) call126 rfl (fun _=>rfl) (fun w3 hy=>hg w3 (fun i o q=>hy i o (hx i o q))) ?_;intro _ _;cbv))
  all_goals(clear Hc Hs Ha Hw Hd Ho Hl Hn Hi Hk Hv Hz Hr Hx;clear hQ)
  all_goals first
   | rfl
   | (subst hu;rfl)
   | (exfalso;clear hE hx ht;grind [cmp0])
theorem refGoal_ret (hE:Env w) {k n:Int} {s:ByteArray} {l:List Tm} {a:Option Addr} {m c:Nat} (hz:tsz (.mk k n s l)≤1048576) (ht:TmAt (hb w) (.mk k n s l) [.int .i64 k,.int .i64 n,.string s,.slice a m c]):GoalV w 74 (isS (.mk k n s l)) k n s a m c:=by
 obtain⟨kd,pr,k',n',s',a',m',c',hkd,hg⟩:=goal128 hE ht
 cases his:isS (.mk k n s l) with
 | false =>
  refine⟨0,0,0,0,strB [],none,0,0,fun q=>(nomatch q),fun w2 hx=>?_⟩
  refine ret_of (hE.ext hx) func74 rfl [.agg [.val (.int .i64 k),.val (.int .i64 n),.val (.string s),.val (.slice a m c)]] rfl fun Q hQ=>?_
  refine .sy (prog_okB _) ?_
  intro _ _ _ _ _ _ _ _ _ _ _ _ _ _ Hc Hs Ha Hw Hd Ho Hl Hn Hi Hk Hv Hz Hr Hx
  cbv
  refine Hk _ _ _ _ _ (callBo _ call127 rfl (fun w3 hy=>is_ret ((hE.ext hx).ext hy) hz ((ht.mono (ext_hb hx)).mono (ext_hb hy))) ?_);rw [his];intro u hu;subst hu
  cbv
  repeat'(first|((with_reducible refine hQ _ _ ?_);refine⟨rfl,rfl,_,rfl,rfl,?_⟩)|((with_reducible first|refine Hc _ _ _ _ ?_|refine Hs _ _ _ _ ?_);rintro(_|_) hq0<;>cbv)|((with_reducible first|refine Ha _ _ _ _ _ ?_|refine Hw _ _ _ ?_);intro _ hn;cbv)|((with_reducible refine Hn _ _ _ ?_);(first|refine len_sl rfl rfl ?_|(refine len_st ?_;intro _ hm));cbv))
  all_goals(clear Hc Hs Ha Hw Hd Ho Hl Hn Hi Hk Hv Hz Hr Hx;clear hQ)
  all_goals first
   | rfl
   | (subst hu;rfl)
   | (exfalso;clear hE hx ht;grind [cmp0])
 | true =>
  refine⟨kd,pr,k',n',s',a',m',c',fun _ q=>hkd rfl q,fun w2 hx=>?_⟩
  refine ret_of (hE.ext hx) func74 rfl [.agg [.val (.int .i64 k),.val (.int .i64 n),.val (.string s),.val (.slice a m c)]] rfl fun Q hQ=>?_
  refine .sy (prog_okB _) ?_
  intro _ _ _ _ _ _ _ _ _ _ _ _ _ _ Hc Hs Ha Hw Hd Ho Hl Hn Hi Hk Hv Hz Hr Hx
  cbv
  refine Hk _ _ _ _ _ (callBo _ call127 rfl (fun w3 hy=>is_ret ((hE.ext hx).ext hy) hz ((ht.mono (ext_hb hx)).mono (ext_hb hy))) ?_);rw [his];intro u hu;subst hu
  cbv
  repeat'(first|((with_reducible refine hQ _ _ ?_);refine⟨rfl,rfl,_,rfl,rfl,?_⟩)|((with_reducible first|refine Hc _ _ _ _ ?_|refine Hs _ _ _ _ ?_);rintro(_|_) hq0<;>cbv)|((with_reducible first|refine Ha _ _ _ _ _ ?_|refine Hw _ _ _ ?_);intro _ hn;cbv)|((with_reducible refine Hn _ _ _ ?_);(first|refine len_sl rfl rfl ?_|(refine len_st ?_;intro _ hm));cbv)|((with_reducible refine Hk 128 _ _ _ _ ?_);refine callGn () (fun _=>.tup [.val (.int .i64 kd),.val (.int .i64 pr),.agg [.val (.int .i64 k'),.val (.int .i64 n'),.val (.string s'),.val (.slice a' m' c')] ]) call128 rfl (fun _=>rfl) (fun w3 hy=>hg w3 (fun i o q=>hy i o (hx i o q))) ?_;intro _ _;cbv))
  all_goals(clear Hc Hs Ha Hw Hd Ho Hl Hn Hi Hk Hv Hz Hr Hx;clear hQ)
  all_goals first
   | rfl
   | (subst hu;rfl)
   | (exfalso;clear hE hx ht;grind [cmp0])
end
end Go.Proofs.YtaacpiniakmpbaaGreatDoor
