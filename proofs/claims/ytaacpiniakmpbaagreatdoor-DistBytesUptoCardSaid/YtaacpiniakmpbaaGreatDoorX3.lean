/- Plain laws: what is written is read back, and what is read is what was written. -/
import Derived.Test.YtaacpiniakmpbaaGreatDoorS0
import Derived.Test.YtaacpiniakmpbaaGreatDoorU4
import Derived.Test.YtaacpiniakmpbaaGreatDoorX1
import Derived.Test.YtaacpiniakmpbaaGreatDoorX2
namespace Go.Proofs.YtaacpiniakmpbaaGreatDoor
open Go Ev Tryz
set_option linter.unusedSimpArgs false
set_option linter.unusedVariables false
set_option maxHeartbeats 4000000
set_option maxRecDepth 10000
theorem split128 (n i:Nat):n%128*128 ^ i+n / 128*128 ^ (i+1)=n*128 ^ i:=by
 have h:n*128 ^ i=(n%128+128*(n / 128))*128 ^ i:=by rw [Nat.mod_add_div]
 rw [h,Nat.add_mul,Nat.pow_succ]
 congr 1
 rw [Nat.mul_comm (128 ^ i) 128,← Nat.mul_assoc,Nat.mul_comm (n / 128) 128]
theorem pNum_enc:∀ (k i n a:Nat) (r:List Nat),0<k→n<128 ^ k→(0<i→n≠0)→a+n*128 ^ i<4294967296→pNum k i a (encN n++r)=some (a+n*128 ^ i,r)
 | 0,_,_,_,_,h,_,_,_=>by omega
 | k+1,i,n,a,r,_,hn,hi,ha=>by
  by_cases h:n<128
  ·rw [encN_small h,List.singleton_append,pNum,if_pos h,Nat.mod_eq_of_lt h,if_neg (by omega)]
  ·have e2:=split128 n i
   rw [encN_big h,List.cons_append,pNum,if_neg (by omega),show(n%128+128)%128=n%128 by omega]
   have hk:0<k:=by
    rcases Nat.eq_zero_or_pos k with rfl|hk
    ·simp at hn;omega
    ·exact hk
   rw [pNum_enc k (i+1) (n / 128) _ r hk (by rw [Nat.pow_succ] at hn;omega) (fun _=>by omega) (by omega),Nat.add_assoc,e2]
theorem pNum5 {n:Nat} (r:List Nat) (h:n<4294967296):pNum 5 0 0 (encN n++r)=some (n,r):=by
 rw [pNum_enc 5 0 n 0 r (by decide) (by omega) (fun q=>by omega) (by omega)];simp
theorem pNum_snd:∀ (k i a:Nat) (bs:List Nat) {m:Nat} {r:List Nat},pNum k i a bs=some (m,r)→OkB bs→∃ n,m=a+n*128 ^ i∧bs=encN n++r∧(0<i→n≠0)
 | 0,_,_,_,_,_,h,_=>by simp [pNum] at h
 | _+1,_,_,[],_,_,h,_=>by simp [pNum] at h
 | k+1,i,a,b::t,m,r,h,ho=>by
  rw [pNum] at h
  split at h
  ·next hb =>
   split at h
   ·cases h
   ·next q =>
    cases h
    exact⟨b,by rw [Nat.mod_eq_of_lt hb],by rw [encN_small hb];rfl,fun hi q0=>q (.inl ⟨q0,hi⟩)⟩
  ·next hb =>
   obtain⟨n,h1,h2,h3⟩:=pNum_snd k _ _ t h ho.tl
   have hb2:=ho b (List.mem_cons_self ..)
   have hn0:=h3 (by omega)
   have hs:=split128 (b%128+128*n) i
   have e1:(b%128+128*n)%128=b%128:=by omega
   have e2:(b%128+128*n) / 128=n:=by omega
   rw [e1,e2] at hs
   refine⟨b%128+128*n,by rw [h1,← hs,Nat.add_assoc],?_,fun _=>by omega⟩
   rw [encN_big (by omega),e1,e2,h2,List.cons_append,show b%128+128=b by omega]
theorem pNum5_snd {bs r:List Nat} {m:Nat} (h:pNum 5 0 0 bs=some (m,r)) (ho:OkB bs):bs=encN m++r∧OkB r:=by
 obtain⟨n,h1,h2,_⟩:=pNum_snd 5 0 0 bs h ho
 obtain rfl:m=n:=by rw [h1];simp
 exact⟨h2,(h2▸ho).right⟩
theorem pText_enc {s:ByteArray} (h:s.size≤255) (r:List Nat):pText (encS s++r)=some (bytesOf s,r):=by
 have hl:=bytesOf_len s
 rw [pText,encS,List.append_assoc,pNum5 _ (by omega)]
 simp only
 rw [if_pos (by rw [List.length_append];omega),← hl,List.take_left,List.drop_left]
theorem pText_snd {bs x r:List Nat} (h:pText bs=some (x,r)) (ho:OkB bs):bs=encS (strB x)++r∧OkB x∧OkB r:=by
 rw [pText] at h
 split at h
 ·next n q hq =>
  obtain⟨h1,h2⟩:=pNum5_snd hq ho
  split at h
  ·next hle =>
   cases h
   have hx:OkB (q.take n):=fun b hb=>h2 b (List.mem_of_mem_take hb)
   refine⟨?_,hx,fun b hb=>h2 b (List.mem_of_mem_drop hb)⟩
   have hsz:(strB (q.take n)).size=n:=by rw [← bytesOf_len,hx.str,List.length_take];omega
   rw [encS,hsz,hx.str,List.append_assoc,List.take_append_drop,← h1]
  ·cases h
 ·cases h
theorem node_cases {k n:Int} {s:ByteArray} {m:Nat} (h:nodeS k n s m=true):(k=1∧0≤n∧n<100000∧bytesOf s=[]∧m=0)∨(k=2∧-2147483647≤n∧n≤2147483647∧bytesOf s=[]∧m=0)∨(k=3∧n=0∧s.size≤255∧m=0)∨(k=4∧n=0∧s.size≤255∧m=0)∨(k=5∧n=0∧s.size≤32∧m≤64)∨(k=6∧n=0∧bytesOf s=[]∧m≤64):=by
 unfold nodeS at h
 unfold nameS at h
 split at h
 ·simp at h;refine .inl ⟨by assumption,h.1.1.1,h.1.1.2,h.1.2,h.2⟩
 ·split at h
  ·simp at h;refine .inr (.inl ⟨by assumption,h.1.1.1,h.1.1.2,h.1.2,h.2⟩)
  ·split at h
   ·simp at h;refine .inr (.inr (.inl ⟨by assumption,h.1.1,by omega,h.2⟩))
   ·split at h
    ·simp at h;refine .inr (.inr (.inr (.inl ⟨by assumption,h.1.1,h.1.2,h.2⟩)))
    ·split at h
     ·simp at h;refine .inr (.inr (.inr (.inr (.inl ⟨by assumption,h.1.1.1,by omega,by omega⟩))))
     ·split at h
      ·simp at h;refine .inr (.inr (.inr (.inr (.inr ⟨by assumption,h.1.1,h.1.2,h.2⟩))))
      ·simp at h
theorem pRep_enc {f:Nat→List Nat→Option (Tm×List Nat×Nat)} {d:Nat} (hf:∀ (t:Tm) (nd:Nat) (r:List Nat),nodesS t=true→tdep t≤d→tsz t≤nd→f nd (encT t++r)=some (t,r,nd - tsz t)) :
  ∀ (l:List Tm) (nd:Nat) (r:List Nat),nodessS l=true→tdeps l≤d→tszs l≤nd→pRep f l.length nd (encTs l++r)=some (l,r,nd - tszs l)
 | [],nd,r,_,_,_=>by simp [pRep,encTs,tszs]
 | t::l,nd,r,hg,hd,hz=>by
  rw [nodessS,Bool.and_eq_true] at hg
  rw [tdeps] at hd
  rw [tszs] at hz
  rw [encTs,List.append_assoc,List.length_cons,pRep,hf t nd _ hg.1 (by omega) (by omega)]
  simp only
  rw [pRep_enc hf l (nd - tsz t) r hg.2 (by omega) (by omega)]
  simp only
  rw [tszs,Nat.sub_sub]
theorem pParts_enc {f:Nat→List Nat→Option (Tm×List Nat×Nat)} {d:Nat} (hf:∀ (t:Tm) (nd:Nat) (r:List Nat),nodesS t=true→tdep t≤d→tsz t≤nd→f nd (encT t++r)=some (t,r,nd - tsz t))
  {k:Int} {s:ByteArray} {l:List Tm} {nd:Nat} {r:List Nat} (hm:l.length≤64) (hg:nodessS l=true) (hd:tdeps l≤d) (hz:tszs l≤nd):pParts f k s nd (encN l.length++(encTs l++r))=some (.mk k 0 s l,r,nd - tszs l):=by
 rw [pParts,pNum5 _ (by omega)]
 simp only
 rw [if_neg (by omega),pRep_enc hf l nd r hg hd hz]
theorem nil_str {s:ByteArray} (h:bytesOf s=[]):s=strB []:=by rw [← h,str_eq]
theorem pTerm_enc:∀ (d:Nat) (t:Tm) (nd:Nat) (r:List Nat),nodesS t=true→tdep t≤d→tsz t≤nd→pTerm d nd (encT t++r)=some (t,r,nd - tsz t)
 | 0,.mk k n s l,_,_,_,hd,_=>by rw [tdep] at hd;omega
 | _+1,.mk k n s l,0,_,_,_,hz=>by rw [tsz] at hz;omega
 | d+1,.mk k n s l,nd+1,r,hg,hd,hz=>by
  rw [nodesS,Bool.and_eq_true] at hg
  rw [tdep] at hd
  rw [tsz] at hz
  have ih:=pTerm_enc d
  rcases node_cases hg.1 with⟨rfl,h1,h2,h3,h4⟩|⟨rfl,h1,h2,h3,h4⟩|⟨rfl,rfl,h3,h4⟩|⟨rfl,rfl,h3,h4⟩|⟨rfl,rfl,h3,h4⟩|⟨rfl,rfl,h3,h4⟩
  ·obtain rfl:=nil_str h3
   obtain rfl:=List.length_eq_zero_iff.1 h4
   obtain⟨n,rfl⟩:=Int.eq_ofNat_of_zero_le h1
   have e:encT (.mk 1 (n:Int) (strB []) [])=1::encN n:=by simp [encT]
   rw [e,List.cons_append,pTerm,if_pos rfl,pNum5 _ (by omega)]
   simp [tsz,tszs]
  ·obtain rfl:=nil_str h3
   obtain rfl:=List.length_eq_zero_iff.1 h4
   obtain⟨x,hx⟩:∃ x,x=if 0≤n then(2*n).toNat else(-2*n - 1).toNat:=⟨_,rfl⟩
   have e:encT (.mk 2 n (strB []) [])=2::encN x:=by simp [encT,hx]
   have hx2:x<4294967296:=by rw [hx];split<;>omega
   have hx3:(if x%2=1 then -((x / 2:Nat):Int) - 1 else((x / 2:Nat):Int))=n:=by
    split at hx<;>split<;>omega
   rw [e,List.cons_append,pTerm,if_neg (by decide),if_pos rfl,pNum5 _ hx2]
   simp only
   rw [hx3]
   simp [tsz,tszs]
  ·obtain rfl:=List.length_eq_zero_iff.1 h4
   have e:encT (.mk 3 0 s [])=3::encS s:=by simp [encT]
   rw [e,List.cons_append,pTerm,if_neg (by decide),if_neg (by decide),if_pos (.inl rfl),pText_enc h3]
   simp only
   rw [str_eq]
   simp [tsz,tszs]
  ·obtain rfl:=List.length_eq_zero_iff.1 h4
   have e:encT (.mk 4 0 s [])=4::encS s:=by simp [encT]
   rw [e,List.cons_append,pTerm,if_neg (by decide),if_neg (by decide),if_pos (.inr rfl),pText_enc h3]
   simp only
   rw [str_eq]
   simp [tsz,tszs]
  ·have e:encT (.mk 5 0 s l)=5::(encS s++(encN l.length++encTs l)):=by simp [encT]
   rw [e,List.cons_append,pTerm,if_neg (by decide),if_neg (by decide),if_neg (by decide),if_pos rfl,List.append_assoc,pText_enc (by omega)]
   simp only
   rw [str_eq,List.append_assoc,pParts_enc ih h4 hg.2 (by omega) (by omega),tsz]
   simp
  ·obtain rfl:=nil_str h3
   have e:encT (.mk 6 0 (strB []) l)=6::(encN l.length++encTs l):=by simp [encT]
   rw [e,List.cons_append,pTerm,if_neg (by decide),if_neg (by decide),if_neg (by decide),if_neg (by decide),if_pos rfl,List.append_assoc,pParts_enc ih h4 hg.2 (by omega) (by omega),tsz]
   simp
theorem pRep_snd {f:Nat→List Nat→Option (Tm×List Nat×Nat)} (hf:∀ nd bs t r nd',f nd bs=some (t,r,nd')→OkB bs→bs=encT t++r):∀ (m nd:Nat) (bs:List Nat) {l:List Tm} {r:List Nat} {nd':Nat},pRep f m nd bs=some (l,r,nd')→OkB bs→l.length=m∧bs=encTs l++r
 | 0,nd,bs,l,r,nd',h,_=>by
  rw [pRep] at h;cases h;exact⟨rfl,rfl⟩
 | m+1,nd,bs,l,r,nd',h,ho=>by
  rw [pRep] at h
  split at h
  ·next t r1 nd1 h1 =>
   have e1:=hf _ _ _ _ _ h1 ho
   split at h
   ·next l2 r2 nd2 h2 =>
    cases h
    obtain⟨e2,e3⟩:=pRep_snd hf m nd1 r1 h2 (e1▸ho).right
    exact⟨by rw [List.length_cons,e2],by rw [encTs,List.append_assoc,← e3,← e1]⟩
   ·cases h
  ·cases h
theorem pParts_snd {f:Nat→List Nat→Option (Tm×List Nat×Nat)} (hf:∀ nd bs t r nd',f nd bs=some (t,r,nd')→OkB bs→bs=encT t++r) {k:Int} {s:ByteArray} {nd nd':Nat} {bs r:List Nat} {t:Tm} (h:pParts f k s nd bs=some (t,r,nd')) (ho:OkB bs) :
  ∃ l,t=.mk k 0 s l∧bs=encN l.length++(encTs l++r):=by
 rw [pParts] at h
 split at h
 ·next m r1 h1 =>
  obtain⟨e1,ho1⟩:=pNum5_snd h1 ho
  split at h
  ·cases h
  ·split at h
   ·next l r2 nd2 h2 =>
    cases h
    obtain⟨e2,e3⟩:=pRep_snd hf m nd r1 h2 ho1
    exact⟨l,rfl,by rw [e2,← e3,← e1]⟩
   ·cases h
 ·cases h
theorem pTerm_snd:∀ (d nd:Nat) (bs:List Nat) (t:Tm) (r:List Nat) (nd':Nat),pTerm d nd bs=some (t,r,nd')→OkB bs→bs=encT t++r
 | 0,_,_,_,_,_,h,_=>by simp [pTerm] at h
 | _+1,0,_,_,_,_,h,_=>by simp [pTerm] at h
 | _+1,_+1,[],_,_,_,h,_=>by simp [pTerm] at h
 | d+1,nd+1,k::bs,t,r,nd',h,ho=>by
  have ih:=pTerm_snd d
  rw [pTerm] at h
  split at h
  ·next hk =>
   subst hk
   split at h
   ·next n r1 h1 =>
    cases h
    rw [(pNum5_snd h1 ho.tl).1];simp [encT]
   ·cases h
  ·split at h
   ·next hk =>
    subst hk
    split at h
    ·next n r1 h1 =>
     cases h
     rw [(pNum5_snd h1 ho.tl).1]
     have e:encT (.mk 2 (if n%2=1 then -((n / 2:Nat):Int) - 1 else((n / 2:Nat):Int)) (strB []) [])=2::encN n:=by
      have:(if 0≤(if n%2=1 then -((n / 2:Nat):Int) - 1 else((n / 2:Nat):Int)) then(2*(if n%2=1 then -((n / 2:Nat):Int) - 1 else((n / 2:Nat):Int))).toNat else(-2*(if n%2=1 then -((n / 2:Nat):Int) - 1 else((n / 2:Nat):Int)) - 1).toNat)=n:=by
       split<;>split<;>omega
      rw [encT,this];simp
     rw [e];rfl
    ·cases h
   ·split at h
    ·next hk =>
     split at h
     ·next x r1 h1 =>
      cases h
      rw [(pText_snd h1 ho.tl).1]
      rcases hk with rfl|rfl<;>simp [encT]
     ·cases h
    ·split at h
     ·next hk =>
      subst hk
      split at h
      ·next x r1 h1 =>
       obtain⟨e1,_,ho1⟩:=pText_snd h1 ho.tl
       obtain⟨l,rfl,e2⟩:=pParts_snd ih h ho1
       rw [e1,e2];simp [encT]
      ·cases h
     ·split at h
      ·next hk =>
       subst hk
       obtain⟨l,rfl,e2⟩:=pParts_snd ih h ho.tl
       rw [e2];simp [encT]
      ·cases h
theorem pNum_t:∀ (k i a:Nat) (bs:List Nat) {m:Nat} {r:List Nat},pNum k i a bs=some (m,r)→tNum k i a bs=some (m,r)
 | 0,_,_,_,_,_,h=>by simp [pNum] at h
 | _+1,_,_,[],_,_,h=>by simp [pNum] at h
 | k+1,i,a,b::t,m,r,h=>by
  rw [pNum] at h
  rw [tNum]
  split at h
  ·next hb =>
   rw [if_pos hb]
   split at h
   ·cases h
   ·exact h
  ·next hb =>
   rw [if_neg hb];exact pNum_t k _ _ t h
theorem pText_t {bs x r:List Nat} (h:pText bs=some (x,r)):tText bs=some (x,r):=by
 rw [pText] at h
 split at h
 ·next n q hq=>rw [tText,pNum_t _ _ _ _ hq];exact h
 ·cases h
theorem pRep_t {f:Nat→List Nat→Option (Tm×List Nat×Nat)} {g:List Nat→Option (Tm×List Nat)} (hf:∀ nd bs t r nd',f nd bs=some (t,r,nd')→g bs=some (t,r)):∀ (m nd:Nat) (bs:List Nat) {l:List Tm} {r:List Nat} {nd':Nat},pRep f m nd bs=some (l,r,nd')→tRep g m bs=some (l,r)
 | 0,nd,bs,l,r,nd',h=>by
  rw [pRep] at h;cases h;rfl
 | m+1,nd,bs,l,r,nd',h=>by
  rw [pRep] at h
  split at h
  ·next t r1 nd1 h1 =>
   split at h
   ·next l2 r2 nd2 h2 =>
    cases h
    rw [tRep,hf _ _ _ _ _ h1]
    simp only
    rw [pRep_t hf m nd1 r1 h2]
   ·cases h
  ·cases h
theorem pParts_t {f:Nat→List Nat→Option (Tm×List Nat×Nat)} {g:List Nat→Option (Tm×List Nat)} (hf:∀ nd bs t r nd',f nd bs=some (t,r,nd')→g bs=some (t,r)) {k:Int} {s:ByteArray} {nd nd':Nat} {bs r:List Nat} {t:Tm} (h:pParts f k s nd bs=some (t,r,nd')):tParts g k s bs=some (t,r):=by
 rw [pParts] at h
 split at h
 ·next m r1 h1 =>
  split at h
  ·cases h
  ·split at h
   ·next l r2 nd2 h2 =>
    cases h
    rw [tParts,pNum_t _ _ _ _ h1]
    simp only
    rw [tRest,pRep_t hf m nd r1 h2]
    simp
   ·cases h
 ·cases h
theorem pTerm_t:∀ (d nd:Nat) (bs:List Nat) (t:Tm) (r:List Nat) (nd':Nat),pTerm d nd bs=some (t,r,nd')→tTerm d bs=some (t,r)
 | 0,_,_,_,_,_,h=>by simp [pTerm] at h
 | _+1,0,_,_,_,_,h=>by simp [pTerm] at h
 | _+1,_+1,[],_,_,_,h=>by simp [pTerm] at h
 | d+1,nd+1,k::bs,t,r,nd',h=>by
  have ih:=pTerm_t d
  rw [pTerm] at h
  rw [tTerm]
  split at h
  ·next hk =>
   rw [if_pos hk]
   split at h
   ·next n r1 h1=>cases h;rw [pNum_t _ _ _ _ h1]
   ·cases h
  ·next hk =>
   rw [if_neg hk]
   split at h
   ·next hk =>
    rw [if_pos hk]
    split at h
    ·next n r1 h1=>cases h;rw [pNum_t _ _ _ _ h1]
    ·cases h
   ·next hk =>
    rw [if_neg hk]
    split at h
    ·next hk =>
     rw [if_pos hk]
     split at h
     ·next x r1 h1=>cases h;rw [pText_t h1]
     ·cases h
    ·next hk =>
     rw [if_neg hk]
     split at h
     ·next hk =>
      rw [if_pos hk]
      split at h
      ·next x r1 h1=>rw [pText_t h1];exact pParts_t ih h
      ·cases h
     ·next hk =>
      rw [if_neg hk]
      split at h
      ·next hk=>rw [if_pos hk];exact pParts_t ih h
      ·cases h
theorem tText_len {bs x r:List Nat} (h:tText bs=some (x,r)):r.length<bs.length:=by
 rw [tText] at h
 split at h
 ·next n q hq =>
  have:=tNum_len _ _ _ _ hq
  split at h
  ·cases h;rw [List.length_drop];omega
  ·cases h
 ·cases h
theorem tRep_len {f:List Nat→Option (Tm×List Nat)} (hf:∀ bs t r,f bs=some (t,r)→tsz t+r.length≤bs.length):∀ (m:Nat) (bs:List Nat) {l:List Tm} {r:List Nat},tRep f m bs=some (l,r)→tszs l+r.length≤bs.length
 | 0,bs,l,r,h=>by rw [tRep] at h;cases h;simp [tszs]
 | m+1,bs,l,r,h=>by
  rw [tRep] at h
  split at h
  ·next t r1 h1 =>
   have e1:=hf _ _ _ h1
   split at h
   ·next l2 r2 h2 =>
    cases h
    have:=tRep_len hf m r1 h2
    rw [tszs];omega
   ·cases h
  ·cases h
theorem tParts_len {f:List Nat→Option (Tm×List Nat)} (hf:∀ bs t r,f bs=some (t,r)→tsz t+r.length≤bs.length) {k:Int} {s:ByteArray} {bs r:List Nat} {t:Tm} (h:tParts f k s bs=some (t,r)):tsz t+r.length≤bs.length:=by
 rw [tParts] at h
 split at h
 ·next m r1 h1 =>
  have e1:=tNum_len _ _ _ _ h1
  rw [tRest] at h
  split at h
  ·next l r2 h2 =>
   cases h
   have:=tRep_len hf m r1 h2
   rw [tsz,List.nil_append];omega
  ·cases h
 ·cases h
theorem tTerm_len:∀ (d:Nat) (bs:List Nat) (t:Tm) (r:List Nat),tTerm d bs=some (t,r)→tsz t+r.length≤bs.length
 | 0,_,_,_,h=>by simp [tTerm] at h
 | _+1,[],_,_,h=>by simp [tTerm] at h
 | d+1,k::bs,t,r,h=>by
  have ih:=tTerm_len d
  rw [tTerm] at h
  rw [List.length_cons]
  split at h
  ·split at h
   ·next n r1 h1=>cases h;have:=tNum_len _ _ _ _ h1;simp [tsz,tszs];omega
   ·cases h
  ·split at h
   ·split at h
    ·next n r1 h1=>cases h;have:=tNum_len _ _ _ _ h1;simp [tsz,tszs];omega
    ·cases h
   ·split at h
    ·split at h
     ·next x r1 h1=>cases h;have:=tText_len h1;simp [tsz,tszs];omega
     ·cases h
    ·split at h
     ·split at h
      ·next x r1 h1=>have:=tText_len h1;have:=tParts_len ih h;omega
      ·cases h
     ·split at h
      ·have:=tParts_len ih h;omega
      ·cases h
theorem encN_ok (n:Nat):OkB (encN n):=fun b hb=>by simpa [Nat.blt_eq] using List.all_eq_true.1 (encN_lt n) b hb
theorem OkB.app {a b:List Nat} (h:OkB a) (k:OkB b):OkB (a++b):=fun x hx=>(List.mem_append.1 hx).elim (h x) (k x)
theorem encS_ok (s:ByteArray):OkB (encS s):=(encN_ok _).app (.of s)
theorem encS_len {s:ByteArray} (h:s.size≤255):(encS s).length≤s.size+2:=by
 have:=encN_len 2 s.size (by omega) (by decide)
 rw [encS,List.length_append,bytesOf_len];omega
mutual
theorem encT_fits:∀ t:Tm,nodesS t=true→OkB (encT t)∧(encT t).length≤258*tsz t
 | .mk k n s l,h=>by
  rw [nodesS,Bool.and_eq_true] at h
  have hs:=encTs_fits l h.2
  rw [tsz]
  rcases node_cases h.1 with⟨rfl,h1,h2,h3,h4⟩|⟨rfl,h1,h2,h3,h4⟩|⟨rfl,rfl,h3,h4⟩|⟨rfl,rfl,h3,h4⟩|⟨rfl,rfl,h3,h4⟩|⟨rfl,rfl,h3,h4⟩
  ·have e:encT (.mk 1 n s l)=[1]++encN n.toNat:=by simp [encT]
   have:=encN_len 5 n.toNat (by omega) (by decide)
   rw [e]
   refine⟨OkB.app (by simp [OkB]) (encN_ok _),?_⟩
   simp;omega
  ·obtain⟨x,hx⟩:∃ x,x=if 0≤n then(2*n).toNat else(-2*n - 1).toNat:=⟨_,rfl⟩
   have e:encT (.mk 2 n s l)=[2]++encN x:=by simp [encT,hx]
   have:=encN_len 5 x (by rw [hx];split<;>omega) (by decide)
   rw [e]
   refine⟨OkB.app (by simp [OkB]) (encN_ok _),?_⟩
   simp;omega
  ·have e:encT (.mk 3 0 s l)=[3]++encS s:=by simp [encT]
   have:=encS_len h3
   rw [e]
   refine⟨OkB.app (by simp [OkB]) (encS_ok _),?_⟩
   simp;omega
  ·have e:encT (.mk 4 0 s l)=[4]++encS s:=by simp [encT]
   have:=encS_len h3
   rw [e]
   refine⟨OkB.app (by simp [OkB]) (encS_ok _),?_⟩
   simp;omega
  ·have e:encT (.mk 5 0 s l)=[5]++(encS s++(encN l.length++encTs l)):=by simp [encT]
   have:=encS_len (s:=s) (by omega)
   have:=encN_len 1 l.length (by omega) (by decide)
   rw [e]
   refine⟨OkB.app (by simp [OkB]) ((encS_ok _).app ((encN_ok _).app hs.1)),?_⟩
   simp;omega
  ·have e:encT (.mk 6 0 s l)=[6]++(encN l.length++encTs l):=by simp [encT]
   have:=encN_len 1 l.length (by omega) (by decide)
   rw [e]
   refine⟨OkB.app (by simp [OkB]) ((encN_ok _).app hs.1),?_⟩
   simp;omega
theorem encTs_fits:∀ l:List Tm,nodessS l=true→OkB (encTs l)∧(encTs l).length≤258*tszs l
 | [],_=>by rw [encTs];exact⟨fun b hb=>(by cases hb),Nat.zero_le _⟩
 | t::l,h=>by
  rw [nodessS,Bool.and_eq_true] at h
  have h1:=encT_fits t h.1
  have h2:=encTs_fits l h.2
  rw [encTs,tszs]
  exact⟨h1.1.app h2.1,by rw [List.length_append];omega⟩
end
def encM:Ml→List Nat
 | .mk k no fr pr t=>encN k.toNat++(encN no.toNat++(encN (fr+1).toNat++(encN pr.toNat++(if k=3 then [] else encT t))))
def finM (m:Ml) (r:List Nat):Option Ml:=if r=[]∧validS m=true then some m else none
def strictM (bs:List Nat):Option Ml :=
 match pNum 5 0 0 bs with
 | none=>none
 | some (k,r1)=>match pNum 5 0 0 r1 with
  | none=>none
  | some (no,r2)=>match pNum 5 0 0 r2 with
   | none=>none
   | some (fr,r3)=>match pNum 5 0 0 r3 with
    | none=>none
    | some (pr,r4) =>
     if k=1∨k=2∨k=4 then match pTerm 600 4000 r4 with
      | none=>none
      | some (t,r5,_)=>finM (.mk k no ((fr:Int) - 1) pr t) r5
     else finM (.mk k no ((fr:Int) - 1) pr zeroT) r4
def laxF (m:Ml) (bs:List Nat):Option Ml:=if validS m=true∧encM m=bs then some m else none
def laxM (bs:List Nat):Option Ml :=
 match tNum 5 0 0 bs with
 | none=>none
 | some (k,r1)=>match tNum 5 0 0 r1 with
  | none=>none
  | some (no,r2)=>match tNum 5 0 0 r2 with
   | none=>none
   | some (fr,r3)=>match tNum 5 0 0 r3 with
    | none=>none
    | some (pr,r4) =>
     if k=3 then laxF (.mk k no ((fr:Int) - 1) pr zeroT) bs
     else match tTerm 600 r4 with
      | none=>none
      | some (t,_)=>laxF (.mk k no ((fr:Int) - 1) pr t) bs
theorem same_zero {t:Tm} (h:sameT t zeroT=true):t=zeroT:=by
 obtain⟨k,n,s,l⟩:=t
 rw [zeroT,sameT] at h
 simp only [Bool.and_eq_true,decide_eq_true_eq] at h
 obtain⟨⟨⟨rfl,rfl⟩,h3⟩,h4⟩:=h
 cases l with
 | cons x l=>simp [sameTs] at h4
 | nil =>
  have:s=strB []:=by rw [← str_eq s,h3,str_eq]
  rw [this,zeroT]
theorem strict_enc {m:Ml} (h:validS m=true):strictM (encM m)=some m:=by
 obtain⟨k,no,fr,pr,t⟩:=m
 have hv:=h
 rw [validS] at h
 simp only [Bool.and_eq_true,decide_eq_true_eq] at h
 obtain⟨⟨⟨⟨⟨h1,h2⟩,h3⟩,h4⟩,h5⟩,h6⟩:=h
 have h7 : -1≤fr∧fr≤2147483647∧0≤pr∧pr≤15:=by
  split at h6
  ·simp only [Bool.and_eq_true,decide_eq_true_eq] at h6;omega
  ·simp only [Bool.and_eq_true,decide_eq_true_eq] at h6;omega
 obtain⟨k,rfl⟩:=Int.eq_ofNat_of_zero_le (show 0≤k by omega)
 obtain⟨no,rfl⟩:=Int.eq_ofNat_of_zero_le h3
 obtain⟨pr,rfl⟩:=Int.eq_ofNat_of_zero_le h7.2.2.1
 obtain⟨f,hf⟩:=Int.eq_ofNat_of_zero_le (show 0≤fr+1 by omega)
 obtain rfl:fr=(f:Int) - 1:=by omega
 rw [encM,Int.sub_add_cancel]
 simp only [Int.toNat_natCast]
 rw [strictM,pNum5 _ (by omega)]
 simp only
 rw [pNum5 _ (by omega)]
 simp only
 rw [pNum5 _ (by omega)]
 simp only
 rw [pNum5 _ (by omega)]
 simp only
 by_cases hk:k=3
 ·subst hk
  have hk3:((3:Nat):Int)=3:=rfl
  rw [if_pos hk3] at h5
  obtain rfl:=same_zero h5
  rw [if_neg (by decide),if_pos hk3,finM,if_pos ⟨rfl,hv⟩]
 ·rw [if_neg (by omega)] at h5
  rw [isS] at h5
  simp only [Bool.and_eq_true,decide_eq_true_eq] at h5
  have:=pTerm_enc 600 t 4000 [] h5.2 h5.1.2 h5.1.1
  rw [List.append_nil] at this
  rw [if_pos (by omega),if_neg (by omega),this]
  simp only
  rw [finM,if_pos ⟨rfl,hv⟩]
theorem finM_some {m m':Ml} {r:List Nat} (h:finM m r=some m'):m'=m∧r=[]∧validS m=true:=by
 rw [finM] at h
 split at h
 ·next q=>cases h;exact⟨rfl,q⟩
 ·cases h
theorem strict_snd {bs:List Nat} {m:Ml} (h:strictM bs=some m) (ho:OkB bs):validS m=true∧encM m=bs∧laxM bs=some m:=by
 rw [strictM] at h
 split at h
 ·cases h
 next k r1 h1 =>
 obtain⟨e1,o1⟩:=pNum5_snd h1 ho
 split at h
 ·cases h
 next no r2 h2 =>
 obtain⟨e2,o2⟩:=pNum5_snd h2 o1
 split at h
 ·cases h
 next fr r3 h3 =>
 obtain⟨e3,o3⟩:=pNum5_snd h3 o2
 split at h
 ·cases h
 next pr r4 h4 =>
 obtain⟨e4,o4⟩:=pNum5_snd h4 o3
 have hl:laxM bs=if k=3 then laxF (.mk k no ((fr:Int) - 1) pr zeroT) bs
     else match tTerm 600 r4 with
      | none=>none
      | some (t,_)=>laxF (.mk k no ((fr:Int) - 1) pr t) bs:=by
  rw [laxM,pNum_t _ _ _ _ h1]
  simp only
  rw [pNum_t _ _ _ _ h2]
  simp only
  rw [pNum_t _ _ _ _ h3]
  simp only
  rw [pNum_t _ _ _ _ h4]
 split at h
 ·next hk =>
  split at h
  ·cases h
  next t r5 nd h5 =>
  obtain⟨rfl,rfl,hv⟩:=finM_some h
  have e5:=pTerm_snd _ _ _ _ _ _ h5 o4
  have he:encM (.mk k no ((fr:Int) - 1) pr t)=bs:=by
   rw [encM,Int.sub_add_cancel]
   simp only [Int.toNat_natCast]
   rw [if_neg (by omega),e1,e2,e3,e4,e5,List.append_nil]
  refine⟨hv,he,?_⟩
  rw [hl,if_neg (by omega),pTerm_t _ _ _ _ _ _ h5]
  simp only
  rw [laxF,if_pos ⟨hv,he⟩]
 ·next hk =>
  obtain⟨rfl,rfl,hv⟩:=finM_some h
  have hk3:k=3:=by
   have:=hv
   rw [validS] at this
   simp only [Bool.and_eq_true,decide_eq_true_eq] at this
   omega
  have he:encM (.mk k no ((fr:Int) - 1) pr zeroT)=bs:=by
   rw [encM,Int.sub_add_cancel]
   simp only [Int.toNat_natCast]
   rw [if_pos (by omega),e1,e2,e3,e4]
  refine⟨hv,he,?_⟩
  rw [hl,if_pos hk3,laxF,if_pos ⟨hv,he⟩]
theorem laxF_some {m m':Ml} {bs:List Nat} (h:laxF m bs=some m'):validS m'=true∧encM m'=bs:=by
 rw [laxF] at h
 split at h
 ·next q=>cases h;exact q
 ·cases h
theorem lax_snd {bs:List Nat} {m:Ml} (h:laxM bs=some m):validS m=true∧encM m=bs:=by
 rw [laxM] at h
 split at h
 ·cases h
 split at h
 ·cases h
 split at h
 ·cases h
 split at h
 ·cases h
 split at h
 ·exact laxF_some h
 ·split at h
  ·cases h
  ·exact laxF_some h
theorem lax_strict {bs:List Nat} (ho:OkB bs):laxM bs=strictM bs:=by
 cases h:strictM bs with
 | some m=>exact(strict_snd h ho).2.2
 | none =>
  cases h2:laxM bs with
  | none=>rfl
  | some m =>
   obtain⟨h3,h4⟩:=lax_snd h2
   rw [← h4,strict_enc h3] at h
   cases h
theorem encM_fits {m:Ml} (h:validS m=true):OkB (encM m)∧(encM m).length≤1048576:=by
 obtain⟨k,no,fr,pr,t⟩:=m
 rw [validS] at h
 simp only [Bool.and_eq_true,decide_eq_true_eq] at h
 obtain⟨⟨⟨⟨⟨h1,h2⟩,h3⟩,h4⟩,h5⟩,h6⟩:=h
 have h7 : -1≤fr∧fr≤2147483647∧0≤pr∧pr≤15:=by
  split at h6
  ·simp only [Bool.and_eq_true,decide_eq_true_eq] at h6;omega
  ·simp only [Bool.and_eq_true,decide_eq_true_eq] at h6;omega
 have n1:=encN_len 5 k.toNat (by omega) (by decide)
 have n2:=encN_len 5 no.toNat (by omega) (by decide)
 have n3:=encN_len 5 (fr+1).toNat (by omega) (by decide)
 have n4:=encN_len 5 pr.toNat (by omega) (by decide)
 have hT:OkB (if k=3 then [] else encT t)∧(if k=3 then [] else encT t).length≤1032000:=by
  split
  ·exact⟨fun b hb=>(nomatch hb),Nat.zero_le _⟩
  ·next hk =>
   rw [if_neg hk,isS] at h5
   simp only [Bool.and_eq_true,decide_eq_true_eq] at h5
   have:=encT_fits t h5.2
   exact⟨this.1,by omega⟩
 rw [encM]
 refine⟨(encN_ok _).app ((encN_ok _).app ((encN_ok _).app ((encN_ok _).app hT.1))),?_⟩
 simp only [List.length_append]
 omega
end Go.Proofs.YtaacpiniakmpbaaGreatDoor
