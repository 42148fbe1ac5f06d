/- Functions that change what is theirs: numbers, as they are written. -/
import Derived.Test.YtaacpiniakmpbaaGreatDoorK
import Derived.Test.YtaacpiniakmpbaaGreatDoorI
import Derived.Test.YtaacpiniakmpbaaGreatDoorM
namespace Go.Proofs.YtaacpiniakmpbaaGreatDoor
open Go Ev Tryz
set_option linter.unusedSimpArgs false
set_option linter.unusedVariables false
set_option maxHeartbeats 4000000
set_option maxRecDepth 10000
noncomputable def ctxZ:Ctx:=ctxB fun _=>none
theorem prog_okZ:ProgOk Tryz.prog ctxZ:=prog_okB _
theorem gsZ {g:Nat} (h:ctxZ.gs g=true):g=0:=by
 have:false=true:=h
 cases this
theorem gsLt {n:Nat} (h:Nat.ble 1 n=true):∀ g,ctxZ.gs g=true→g<n:=fun g hg=>by rw [gsZ hg];exact Nat.le_of_ble_eq_true h
theorem gsT {n:Nat} {τ:Nat→Nat} (h:τ 0=0) (h1:Nat.ble 1 n=true):∀ g,ctxZ.gs g=true→τ g=g∧g<n:=fun g hg=>by rw [gsZ hg];exact⟨h,Nat.le_of_ble_eq_true h1⟩
theorem len_slZ {B:Base} {t e n c:Nat} {a:Option Addr} {ti:TI} (ht:ttG.get t=some ti) (hk:ti.k=.sl e) {K:AV→Prop} (hK:K (.val (.int .i64 (Int.ofNat n)))):LenR (ctxZ.at B) t (.slice a n c) K:=len_sl ht hk hK
theorem len_stZ {B:Base} {s:ByteArray} {K:AV→Prop} (hK:∀ m,m=s.size→K (.val (.int .i64 (Int.ofNat m)))):LenR (ctxZ.at B) 9 (.string s) K:=len_st hK
theorem idx_tmZ {B:Base} {l:List Tm} {a:Option Addr} {m:Nat} (h:TmsAt B l a m) {i:Nat} (hi:i<m) {c:Nat} {K:AV→Prop}
  (hK:∀ p t cs,l[i]?=some t→CellsB B p cs→TmAt B t cs→K (.val (.pointer (some p)))):IndexR (ctxZ.at B) 22 (.slice a m c) (Int.ofNat i) K:=idx_tm h hi hK
theorem load_tmZ {B:Base} {p:Addr} {t:Tm} {cs:List Value} (hc:CellsB B p cs) (ht:TmAt B t cs) {K:AV→Prop} (hK:K (.agg (cs.map .val))):LoadR (ctxZ.at B) 24 p K:=load_tm hc ht hK
theorem ctxAt {B:Base}:CtxOk Tryz.prog (ctxZ.at B):=(At.ok prog_okZ B).ctx
def encN (n:Nat):List Nat:=if n<128 then [n] else(n%128+128)::encN (n / 128)
termination_by n
theorem encN_small {n:Nat} (h:n<128):encN n=[n]:=by rw [encN,if_pos h]
theorem encN_big {n:Nat} (h:¬ n<128):encN n=(n%128+128)::encN (n / 128):=by rw [encN,if_neg h]
theorem encN_lt (n:Nat):((encN n).all fun n=>Nat.blt n 256)=true:=by
 induction n using Nat.strongRecOn with
 | _ n ih =>
  by_cases h:n<128
  ·rw [encN_small h];simp [Nat.blt_eq];omega
  ·rw [encN_big h]
   simp only [List.all_cons,Bool.and_eq_true]
   exact⟨by simp [Nat.blt_eq];omega,ih _ (by omega)⟩
theorem encN_len:∀ (k n:Nat),n<128 ^ k→0<k→(encN n).length≤k:=by
 intro k
 induction k with
 | zero=>intro n _ h;omega
 | succ k ih =>
  intro n h _
  by_cases h1:n<128
  ·rw [encN_small h1];simp
  ·rw [encN_big h1]
   rcases Nat.eq_zero_or_pos k with rfl|hk
   ·simp at h;omega
   ·have:=ih (n / 128) (by rw [Nat.pow_succ] at h;omega) hk
    simp;omega
theorem shr7 (n:Nat):(Int.ofNat n).fdiv (2 ^ (min 7 IntKind.i64.bits))=Int.ofNat (n / 128):=by
 have:min 7 IntKind.i64.bits=7:=by decide
 rw [this]
 have h2:(2:Int) ^ 7=((128:Nat):Int):=by decide
 rw [h2]
 exact(Int.ofNat_fdiv n 128).symm
theorem and127 {n:Nat} (h:n<2 ^ 62):ar0 .and .i64 (Int.ofNat n) 127=Int.ofNat (n%128):=by
 have e1:(BitVec.ofInt 64 (Int.ofNat n)).toNat=n:=by
  rw [BitVec.toNat_ofInt];simp;omega
 have e2:(BitVec.ofInt 64 127).toNat=127:=by decide
 have e3:(BitVec.ofInt 64 (Int.ofNat n) &&& BitVec.ofInt 64 127).toNat=n%128:=by
  rw [BitVec.toNat_and,e1,e2]
  exact Nat.and_two_pow_sub_one_eq_mod n 7
 show IntKind.i64.wrap ((BitVec.ofInt 64 (Int.ofNat n) &&& BitVec.ofInt 64 127).toNat:Int)=_
 rw [e3,wrap_in (by omega) (by omega)];rfl
theorem or128 {n:Nat} (h:n<128):ar0 .or .i64 (Int.ofNat n) 128=Int.ofNat (n+128):=by
 have e1:(BitVec.ofInt 64 (Int.ofNat n)).toNat=n:=by
  rw [BitVec.toNat_ofInt];simp;omega
 have e2:(BitVec.ofInt 64 128).toNat=128:=by decide
 have e3:(BitVec.ofInt 64 (Int.ofNat n) ||| BitVec.ofInt 64 128).toNat=n+128:=by
  rw [BitVec.toNat_or,e1,e2,Nat.or_comm]
  have:=Nat.two_pow_add_eq_or_of_lt (i:=7) h 1
  simp at this;omega
 show IntKind.i64.wrap ((BitVec.ofInt 64 (Int.ofNat n) ||| BitVec.ofInt 64 128).toNat:Int)=_
 rw [e3,wrap_in (by omega) (by omega)];rfl
theorem wrap_u8 {n:Nat} (h:n<256):IntKind.u8.wrap (Int.ofNat n)=Int.ofNat n:=by
 simp only [IntKind.wrap_u8];simp;omega
def OkB (l:List Nat):Prop:=∀ b∈l,b<256
theorem OkB.tl {b:Nat} {l:List Nat} (h:OkB (b::l)):OkB l:=fun x hx=>h x (List.mem_cons_of_mem _ hx)
theorem OkB.right {a l:List Nat} (h:OkB (a++l)):OkB l:=fun x hx=>h x (List.mem_append_right _ hx)
theorem OkB.left {a l:List Nat} (h:OkB (a++l)):OkB a:=fun x hx=>h x (List.mem_append_left _ hx)
theorem OkB.all {l:List Nat} (h:OkB l):(l.all fun n=>Nat.blt n 256)=true:=by
 rw [List.all_eq_true];intro x hx;simpa [Nat.blt_eq] using h x hx
theorem OkB.of (s:ByteArray):OkB (bytesOf s):=fun b hb=>by simpa [Nat.blt_eq] using List.all_eq_true.1 (bytes_lt s) b hb
theorem OkB.str {l:List Nat} (h:OkB l):bytesOf (strB l)=l:=strB_bytes h.all
def dataL:List (List Nat×Nat):=[([118,101,99,116,111,114,95,110,101,119],2),([118,101,99,116,111,114,95,115,105,122,101],3),([118,101,99,116,111,114,95,103,101,116],4),([118,101,99,116,111,114,95,115,101,116],4),([115,116,114,105,110,103,95,110,101,119],2),([115,116,114,105,110,103,95,115,105,122,101],3),([115,116,114,105,110,103,95,103,101,116],4),([115,116,114,105,110,103,95,115,101,116],4),([115,116,114,105,110,103,95,106,111,105,110],3)]
def fixedL:List (List Nat×Nat):=[([116,114,117,101],0),([61],2),([58,61],2),([64],2),([58,45],2),([58,45],1),([44],2),([124],2),([111,116,104,101,114,119,105,115,101],0),([97,108,116,101,114,110,97,116,105,118,101,108,121],0)]
def plainS (k:Int) (s:ByteArray) (m:Nat):Int :=
 if k=3∨k=5 then
  if k=3∧bytesOf s=[116,114,117,101] then 2
  else if k=5∧bytesOf s=[61]∧m=2 then 3
  else if k=5∧bytesOf s=[58,61]∧m=2 then 4
  else if (bytesOf s,m)∈dataL then 5
  else if (bytesOf s,m)∈fixedL then 0
  else 1
 else 0
def atS (k:Int) (s:ByteArray) (m:Nat):Bool:=decide (k=5∧bytesOf s=[64]∧m=2)
def goalS:Tm→Bool
 | .mk k _ s l=>!atS k s l.length&&decide (plainS k s l.length≠0)
def zeroT:Tm:=.mk 0 0 (strB []) []
inductive Ml where
 | mk (k no fr pr:Int) (t:Tm)
def validS:Ml→Bool
 | .mk k no fr pr t=>decide (1≤k)&&decide (k≤4)&&decide (0≤no)&&decide (no≤2147483647)&&(if k=3 then sameT t zeroT else isS t) &&
  (if k=1 then decide (-1≤fr)&&decide (fr<no)&&decide (0≤pr)&&decide (pr≤15)&&goalS t else decide (no<100000)&&decide (fr=0)&&decide (pr=0))
mutual
theorem sameT_refl:∀ t:Tm,sameT t t=true
 | .mk k n s l=>by rw [sameT,sameTs_refl l];simp
theorem sameTs_refl:∀ l:List Tm,sameTs l l=true
 | []=>by rw [sameTs]
 | t::l=>by rw [sameTs,sameT_refl t,sameTs_refl l];rfl
end
theorem zero_at (B:Nat→Option Go.Obj):TmAt B zeroT [.int .i64 0,.int .i64 0,.string (strB []),.slice none 0 0]:=TmAt.mk' ⟨rfl,by decide,.inl rfl⟩ (by decide)
theorem TmAt.out2 {B:Nat→Option Go.Obj} {k n k' n':Int} {s s':ByteArray} {l:List Tm} {a:Option Addr} {m c:Nat} (h:TmAt B (.mk k n s l) [.int .i64 k',.int .i64 n',.string s',.slice a m c]):m=l.length:=by
 obtain⟨_,_,_,e,h⟩:=h.out
 cases e;exact h.1
theorem TmAt.out3 {B:Nat→Option Go.Obj} {k n k' n':Int} {s s':ByteArray} {l:List Tm} {a:Option Addr} {m c:Nat} (h:TmAt B (.mk k n s l) [.int .i64 k',.int .i64 n',.string s',.slice a m c]):TmsAt B l a m:=by
 obtain⟨_,_,_,e,h⟩:=h.out
 cases e;exact h
theorem eqf_ret (N:Nat) (ih:∀ (t:Tm),tsz t<N→∀ (t':Tm) {w:World} {cs cs':List Value},Env w→TmAt (hb w) t cs→TmAt (hb w) t' cs'→Ret Tryz.prog 69 #[.agg cs.toArray,.agg cs'.toArray] w (.bool (sameT t t')))
  {l l':List Tm} (hN:tszs l<N) {w:World} {a a':Option Addr} {m m' c c':Nat} (hE:Env w) (hl:TmsAt (hb w) l a m) (hl':TmsAt (hb w) l' a' m'):Ret Tryz.prog 124 #[.slice a m c,.slice a' m' c',.func (.func 69) #[] #[]] w (.bool (sameTs l l')):=by
 obtain⟨r,hr⟩:∃ r,r=sameTs l l':=⟨_,rfl⟩
 rw [← hr]
 refine ret_of hE func124 rfl [.val (.slice a m c),.val (.slice a' m' c'),.fn (.func 69) [] []] rfl fun Q hQ=>?_
 refine .sy (prog_okB _) ?_
 intro _ _ _ _ _ _ _ _ _ _ _ _ _ _ Hc Hs Ha Hw Hd Ho Hl Hn Hi Hk Hv Hz Hr Hx
 cbv
 refine Hn _ _ _ (len_sl rfl rfl ?_)
 cbv
 refine Hn _ _ _ (len_sl rfl rfl ?_)
 cbv
 refine Hc _ _ _ _ ?_
 rintro(_|_) h4<;>cbv
 ·have e4:m=m':=by simp [cmp0] at h4;omega
  subst e4
  clear h4
  refine Hn _ _ _ (len_sl rfl rfl ?_)
  cbv
  refine Hr _ _ _ (CodeP.loopN 1 (fun i:Nat=>mkS [(1,.val (.slice a' m c')),(2,.fn (.func 69) [] []),(15,.val (.slice a m c)),(16,.val (.int .i64 (Int.ofNat m))),(17,.val (.int .i64 (Int.ofNat i)))] [(0,.ro calcAVs)] 1)
   (fun i=>m - i) (fun i=>i≤m∧r=sameTs (l.drop i) (l'.drop i)) 0 ⟨Nat.zero_le _,hr⟩ (sub_mk sbt sbh) rfl rfl (fun _=>⟨rfl,rfl⟩) ?_)
  rintro G i ⟨hi,hri⟩ hG
  have hmb:=hl.2.1
  refine .sy (prog_okB _) ?_
  intro _ _ _ _ _ _ _ _ _ _ _ _ _ _ Hc2 Hs2 Ha2 Hw2 Hd2 Ho2 Hl2 Hn2 Hi2 Hk2 Hv2 Hz2 Hr2 Hx2
  cbv
  refine Hc2 _ _ _ _ ?_
  rintro(_|_) h2<;>cbv
  ·have hge:m≤i:=by simpa [cmp0] using h2
   (with_reducible refine hQ _ _ ?_);refine⟨rfl,rfl,_,rfl,rfl,?_⟩
   rw [hri,List.drop_of_length_le (by have:=hl.1;omega),List.drop_of_length_le (by have:=hl'.1;omega)];simp [sameTs,toV,toVs,retA]
  ·have hlt:i<m:=by simpa [cmp0] using h2
   refine Hi2 _ _ _ _ (idx_tm hl hlt ?_)
   rintro p ⟨k1,n1,s1,l1⟩ cs1 hg hc ht1
   cbv
   refine Hl2 _ _ _ (load_tm hc ht1 ?_)
   obtain⟨a1,m1,c1,rfl,hl1⟩:=ht1.out
   have hm:=tsz_mem hg
   cbv
   refine Hi2 _ _ _ _ (idx_tm hl' hlt ?_)
   rintro p2 ⟨k2,n2,s2,l2⟩ cs2 hg2 hc2 ht2
   cbv
   refine Hl2 _ _ _ (load_tm hc2 ht2 ?_)
   obtain⟨a2,m2,c2,rfl,hl2⟩:=ht2.out
   rw [drop_get hg,drop_get hg2,sameTs] at hri
   cbv
   refine Hk2 _ _ _ _ _ (callBo _ call69 rfl (fun w' hx=>ih _ (by omega) _ (hE.ext hx) (ht1.mono (ext_hb hx)) (ht2.mono (ext_hb hx))) ?_)
   rintro(_|_) hu<;>cbv
   ·(with_reducible refine hQ _ _ ?_);refine⟨rfl,rfl,_,rfl,rfl,?_⟩
    rw [hri,← hu];rfl
   ·refine Ha2 _ _ _ _ _ ?_
    rintro q rfl
    rw [ar0_suc (by omega)]
    cbv
    refine hG _ (i+1) rfl (by omega) ⟨by omega,?_⟩ (sub_mk sbt sbh) (lt_mk rfl rfl)
    rw [hri,← hu];rfl
 ·have e4:m≠m':=by simp [cmp0] at h4;omega
  (with_reducible refine hQ _ _ ?_);refine⟨rfl,rfl,_,rfl,rfl,?_⟩
  rw [hr,sameTs_len (by rw [← hl.1,← hl'.1];exact e4)];rfl
theorem psame (N:Nat):∀ (t:Tm),tsz t<N→∀ (t':Tm) {w:World} {cs cs':List Value},Env w→TmAt (hb w) t cs→TmAt (hb w) t' cs'→Ret Tryz.prog 69 #[.agg cs.toArray,.agg cs'.toArray] w (.bool (sameT t t')):=by
 induction N with
 | zero=>intro t h;omega
 | succ N ih =>
  rintro⟨k,n,s,l⟩ hN ⟨k',n',s',l'⟩ w cs cs' hE ht ht'
  obtain⟨a,m,c,rfl,hl⟩:=ht.out
  obtain⟨a',m',c',rfl,hl'⟩:=ht'.out
  rw [tsz] at hN
  rw [sameT]
  refine ret_of hE func69 rfl [.agg [.val (.int .i64 k),.val (.int .i64 n),.val (.string s),.val (.slice a m c)],.agg [.val (.int .i64 k'),.val (.int .i64 n'),.val (.string s'),.val (.slice a' m' c')]] rfl fun Q hQ=>?_
  refine .sy (prog_okB _) ?_
  intro _ _ _ _ _ _ _ _ _ _ _ _ _ _ Hc Hs Ha Hw Hd Ho Hl Hn Hi Hk Hv Hz Hr Hx
  cbv
  repeat'(first|((with_reducible refine hQ _ _ ?_);refine⟨rfl,rfl,_,rfl,rfl,?_⟩)|((with_reducible first|refine Hc _ _ _ _ ?_|refine Hs _ _ _ _ ?_);rintro(_|_) hq0<;>cbv)|((with_reducible first|refine Ha _ _ _ _ _ ?_|refine Hw _ _ _ ?_);intro _ hn;cbv)|((with_reducible refine Hn _ _ _ ?_);(first|refine len_sl rfl rfl ?_|(refine len_st ?_;intro _ hm));cbv)|((with_reducible refine Hk 124 _ _ _ _ ?_);refine callBo _ call124 rfl (fun w2 hx=>eqf_ret N ih (by omega) (hE.ext hx) (hl.mono (ext_hb hx)) (hl'.mono (ext_hb hx))) ?_;rintro(_|_) hu<;>cbv))
  all_goals(clear Hc Hs Ha Hw Hd Ho Hl Hn Hi Hk Hv Hz Hr Hx;clear hQ;simp only [toV,toVs,retA,Value.bool.injEq,SB.bytes] at *;grind [cmp0,scmp0,bytesEq_iff])
def sameMl:Ml→Ml→Bool
 | .mk k o f p t,.mk k' o' f' p' t'=>decide (k=k')&&decide (o=o')&&decide (f=f')&&decide (p=p')&&sameT t t'
section
variable {w:World}
theorem sameMail_ret (hE:Env w) (K o f p K' o' f' p':Int) {k n k' n':Int} {s s':ByteArray} {l l':List Tm} {a a':Option Addr} {m m' c c':Nat} (ht:TmAt (hb w) (.mk k n s l) [.int .i64 k,.int .i64 n,.string s,.slice a m c]) (ht':TmAt (hb w) (.mk k' n' s' l') [.int .i64 k',.int .i64 n',.string s',.slice a' m' c']) :
  Ret Tryz.prog 10 #[.agg #[.int .i64 K,.int .i64 o,.int .i64 f,.int .i64 p,.int .i64 k,.int .i64 n,.string s,.slice a m c],.agg #[.int .i64 K',.int .i64 o',.int .i64 f',.int .i64 p',.int .i64 k',.int .i64 n',.string s',.slice a' m' c']] w (.bool (sameMl (.mk K o f p (.mk k n s l)) (.mk K' o' f' p' (.mk k' n' s' l')))):=by
 rw [sameMl]
 refine ret_of hE func10 rfl [.agg [.val (.int .i64 K),.val (.int .i64 o),.val (.int .i64 f),.val (.int .i64 p),.val (.int .i64 k),.val (.int .i64 n),.val (.string s),.val (.slice a m c)],.agg [.val (.int .i64 K'),.val (.int .i64 o'),.val (.int .i64 f'),.val (.int .i64 p'),.val (.int .i64 k'),.val (.int .i64 n'),.val (.string s'),.val (.slice a' m' c')]] rfl fun Q hQ=>?_
 refine .sy (prog_okB _) ?_
 intro _ _ _ _ _ _ _ _ _ _ _ _ _ _ Hc Hs Ha Hw Hd Ho Hl Hn Hi Hk Hv Hz Hr Hx
 cbv
 repeat'(first|((with_reducible refine hQ _ _ ?_);refine⟨rfl,rfl,_,rfl,rfl,?_⟩)|((with_reducible first|refine Hc _ _ _ _ ?_|refine Hs _ _ _ _ ?_);rintro(_|_) hq0<;>cbv)|((with_reducible first|refine Ha _ _ _ _ _ ?_|refine Hw _ _ _ ?_);intro _ hn;cbv)|((with_reducible refine Hn _ _ _ ?_);(first|refine len_sl rfl rfl ?_|(refine len_st ?_;intro _ hm));cbv)|((with_reducible refine Hk 14 _ _ _ _ ?_);refine callBo _ call14 rfl (fun w2 hx=>rsame _ _ (Nat.lt_succ_self _) _ (hE.ext hx) (ht.mono (ext_hb hx)) (ht'.mono (ext_hb hx))) ?_;rintro(_|_) hu<;>cbv))
 all_goals(clear Hc Hs Ha Hw Hd Ho Hl Hn Hi Hk Hv Hz Hr Hx;clear hQ;simp only [toV,toVs,retA,Value.bool.injEq] at *;grind [cmp0])
def bodyS (k:Int):Bool:=decide (k=1)||decide (k=2)||decide (k=4)
theorem body_ret (hE:Env w) (k:Int):Ret Tryz.prog 33 #[.int .i64 k] w (.bool (bodyS k)):=by
 refine ret_of hE func33 rfl [.val (.int .i64 k)] rfl fun Q hQ=>?_
 refine .sy (prog_okB _) ?_
 intro _ _ _ _ _ _ _ _ _ _ _ _ _ _ Hc Hs Ha Hw Hd Ho Hl Hn Hi Hk Hv Hz Hr Hx
 cbv
 repeat'(first|((with_reducible refine hQ _ _ ?_);refine⟨rfl,rfl,_,rfl,rfl,?_⟩)|((with_reducible first|refine Hc _ _ _ _ ?_|refine Hs _ _ _ _ ?_);rintro(_|_) hq0<;>cbv)|((with_reducible first|refine Ha _ _ _ _ _ ?_|refine Hw _ _ _ ?_);intro _ hn;cbv)|((with_reducible refine Hn _ _ _ ?_);(first|refine len_sl rfl rfl ?_|(refine len_st ?_;intro _ hm));cbv))
 all_goals(clear Hc Hs Ha Hw Hd Ho Hl Hn Hi Hk Hv Hz Hr Hx;clear hQ;simp only [toV,toVs,retA,Value.bool.injEq] at *;grind [cmp0,bodyS])
theorem sameT_zero {k n:Int} {s:ByteArray} {l:List Tm}:sameT (.mk k n s l) zeroT=(decide (k=0)&&decide (n=0)&&decide (bytesOf s=[])&&decide (l.length=0)):=by
 rw [zeroT,sameT]
 cases l with
 | nil=>simp [sameTs];rfl
 | cons x l=>simp [sameTs]
theorem empty_ret (hE:Env w) {k n:Int} {s:ByteArray} {l:List Tm} {a:Option Addr} {m c:Nat} (hm:m=l.length):Ret Tryz.prog 75 #[.agg #[.int .i64 k,.int .i64 n,.string s,.slice a m c]] w (.bool (sameT (.mk k n s l) zeroT)):=by
 rw [sameT_zero,← hm]
 refine ret_of hE func75 rfl [.agg [.val (.int .i64 k),.val (.int .i64 n),.val (.string s),.val (.slice a m c)]] rfl fun Q hQ=>?_
 refine .sy (prog_okB _) ?_
 intro _ _ _ _ _ _ _ _ _ _ _ _ _ _ Hc Hs Ha Hw Hd Ho Hl Hn Hi Hk Hv Hz Hr Hx
 cbv
 repeat'(first|((with_reducible refine hQ _ _ ?_);refine⟨rfl,rfl,_,rfl,rfl,?_⟩)|((with_reducible first|refine Hc _ _ _ _ ?_|refine Hs _ _ _ _ ?_);rintro(_|_) hq0<;>cbv)|((with_reducible first|refine Ha _ _ _ _ _ ?_|refine Hw _ _ _ ?_);intro _ hn;cbv)|((with_reducible refine Hn _ _ _ ?_);(first|refine len_sl rfl rfl ?_|(refine len_st ?_;intro _ hm));cbv))
 all_goals(clear Hc Hs Ha Hw Hd Ho Hl Hn Hi Hk Hv Hz Hr Hx;clear hQ;simp only [toV,toVs,retA,Value.bool.injEq,SB.bytes] at *;grind [cmp0,scmp0,bytesEq_iff])
end
mutual
def nodT:Tm→Nat→Nat→Nat
 | .mk _ _ _ l,k,most=>if k+1≤most then k+1+nodTs l 0 (most - (k+1)) else k+1
def nodTs:List Tm→Nat→Nat→Nat
 | [],k,_=>k
 | t::r,k,most=>if most<nodT t k most then nodT t k most else nodTs r (nodT t k most) most
end
mutual
theorem nodT_spec:∀ (t:Tm) (k most:Nat),k≤most→(k+tsz t≤most→nodT t k most=k+tsz t)∧(most<k+tsz t→most<nodT t k most)∧nodT t k most≤most+1
 | .mk a b c l,k,most,h=>by
  rw [nodT,tsz]
  split
  ·next h1 =>
   have:=nodTs_spec l 0 (most - (k+1)) (Nat.zero_le _)
   omega
  ·next h1=>omega
theorem nodTs_spec:∀ (l:List Tm) (k most:Nat),k≤most→(k+tszs l≤most→nodTs l k most=k+tszs l)∧(most<k+tszs l→most<nodTs l k most)∧nodTs l k most≤most+1
 | [],k,most,h=>by rw [nodTs,tszs];omega
 | t::l,k,most,h=>by
  have h1:=nodT_spec t k most h
  rw [nodTs,tszs]
  split
  ·next h2=>omega
  ·next h2 =>
   have:=nodTs_spec l (nodT t k most) most (by omega)
   omega
end
theorem nodes27_ret (N:Nat):∀ (l:List Tm),tszs l<N→∀ (most:Nat),most≤6000→∀ {w:World} {a:Option Addr} {m c:Nat},Env w→TmsAt (hb w) l a m→Ret Tryz.prog 5 #[.slice a m c,.int .i64 (Int.ofNat most)] w (.int .i64 (Int.ofNat (nodTs l 0 most))):=by
 induction N with
 | zero=>intro l h;omega
 | succ N ih =>
  intro l hN most hmost w a m c hE hl
  obtain⟨r,hr⟩:∃ r,r=nodTs l 0 most:=⟨_,rfl⟩
  rw [← hr]
  refine ret_of hE func5 rfl [.val (.slice a m c),.val (.int .i64 (Int.ofNat most))] rfl fun Q hQ=>?_
  refine .sy (prog_okB _) ?_
  intro _ _ _ _ _ _ _ _ _ _ _ _ _ _ Hc Hs Ha Hw Hd Ho Hl Hn Hi Hk Hv Hz Hr Hx
  cbv
  refine Hn _ _ _ (len_sl rfl rfl ?_)
  cbv
  refine Hr _ _ _ (CodeP.loopN 1 (fun x:Nat×Nat=>mkS [(1,.val (.int .i64 (Int.ofNat most))),(5,.val (.int .i64 (Int.ofNat x.2))),(8,.val (.slice a m c)),(9,.val (.int .i64 (Int.ofNat m))),(10,.val (.int .i64 (Int.ofNat x.1)))] [(0,.ro calcAVs)] 1)
   (fun x=>m - x.1) (fun x=>x.1≤m∧x.2≤most∧r=nodTs (l.drop x.1) x.2 most) (0,0) ⟨Nat.zero_le _,Nat.zero_le _,hr⟩ (sub_mk sbt sbh) rfl rfl (fun _=>⟨rfl,rfl⟩) ?_)
  rintro G ⟨i,kk⟩ ⟨hi,hk,hri⟩ hG
  simp only at hi hk hri
  have hmb:=hl.2.1
  refine .sy (prog_okB _) ?_
  intro _ _ _ _ _ _ _ _ _ _ _ _ _ _ Hc2 Hs2 Ha2 Hw2 Hd2 Ho2 Hl2 Hn2 Hi2 Hk2 Hv2 Hz2 Hr2 Hx2
  cbv
  refine Hc2 _ _ _ _ ?_
  rintro(_|_) h2<;>cbv
  ·have hge:m≤i:=by simpa [cmp0] using h2
   (with_reducible refine hQ _ _ ?_);refine⟨rfl,rfl,_,rfl,rfl,?_⟩
   rw [hri,List.drop_of_length_le (by have:=hl.1;omega)];rfl
  ·have hlt:i<m:=by simpa [cmp0] using h2
   refine Hi2 _ _ _ _ (idx_tm hl hlt ?_)
   rintro p ⟨k1,n1,s1,l1⟩ cs1 hg hc ht1
   cbv
   refine Hl2 _ _ _ (load_tm hc ht1 ?_)
   obtain⟨a1,m1,c1,rfl,hl1⟩:=ht1.out
   have hm:=tsz_mem hg
   rw [tsz] at hm
   rw [drop_get hg,nodTs] at hri
   cbv
   refine Ha2 _ _ _ _ _ ?_
   intro q hq
   obtain⟨k2,hk2⟩:∃ k2,k2=kk+1:=⟨_,rfl⟩
   obtain rfl:q=Int.ofNat k2:=by rw [hq,hk2];exact ar0_suc (by omega)
   clear hq
   cbv
   refine Hc2 _ _ _ _ ?_
   rintro(_|_) h3<;>cbv
   ·have h3:most<k2:=by simp [cmp0] at h3;omega
    have e:nodT (.mk k1 n1 s1 l1) kk most=k2:=by rw [nodT,if_neg (by omega),hk2]
    rw [e,if_pos h3] at hri
    refine Hc2 _ _ _ _ ?_
    rintro(_|_) h4<;>cbv
    ·simp [cmp0] at h4;omega
    ·(with_reducible refine hQ _ _ ?_);refine⟨rfl,rfl,_,rfl,rfl,?_⟩
     rw [hri];rfl
   ·have h3:k2≤most:=by simp [cmp0] at h3;omega
    refine Ha2 _ _ _ _ _ ?_
    intro q hq
    obtain⟨k3,hk3⟩:∃ k3,k3=most - k2:=⟨_,rfl⟩
    obtain rfl:q=Int.ofNat k3:=by rw [hq,hk3,ar0_sub (by simp<;>omega) (by simp<;>omega)];simp;omega
    clear hq
    have hsp:=nodTs_spec l1 0 k3 (Nat.zero_le _)
    cbv
    refine Hk2 _ _ _ _ _ (callIn _ call5 rfl (fun w' hx=>ih l1 (by omega) k3 (by omega) (hE.ext hx) (hl1.mono (ext_hb hx))) ?_)
    intro q hq
    obtain⟨k4,hk4⟩:∃ k4,k4=nodTs l1 0 k3:=⟨_,rfl⟩
    rw [← hk4] at hq hsp
    subst hq
    cbv
    refine Ha2 _ _ _ _ _ ?_
    intro q hq
    obtain⟨k5,hk5⟩:∃ k5,k5=k2+k4:=⟨_,rfl⟩
    obtain rfl:q=Int.ofNat k5:=by rw [hq,hk5];exact ar0_addN (by omega)
    clear hq
    have e:nodT (.mk k1 n1 s1 l1) kk most=k5:=by rw [nodT,if_pos (by omega),← hk2,← hk3,← hk4,hk5]
    rw [e] at hri
    cbv
    refine Hc2 _ _ _ _ ?_
    rintro(_|_) h4<;>cbv
    ·have h4:k5≤most:=by simp [cmp0] at h4;omega
     rw [if_neg (by omega)] at hri
     refine Ha2 _ _ _ _ _ ?_
     rintro q rfl
     rw [ar0_suc (by omega)]
     cbv
     refine hG _ (i+1,k5) rfl (by simp only;omega) ⟨by simp only;omega,h4,hri⟩ (sub_mk sbt sbh) (lt_mk rfl rfl)
    ·have h4:most<k5:=by simp [cmp0] at h4;omega
     rw [if_pos h4] at hri
     (with_reducible refine hQ _ _ ?_);refine⟨rfl,rfl,_,rfl,rfl,?_⟩
     rw [hri];rfl
end Go.Proofs.YtaacpiniakmpbaaGreatDoor
