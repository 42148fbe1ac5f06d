/- The abstract operations and the model's: operations that change memory. -/
import Derived.Test.YtaacpiniakmpbaaGreatDoorB
import Derived.Deep.AppendSrc
import Derived.Lib.ConvBytes
import Derived.Laws.RangeString
import Derived.OrdersIn
import Derived.RangeFuncLeaves
namespace Ev
open Go
set_option linter.unusedSimpArgs false
set_option linter.unusedVariables false
section
variable {P:Program} {C:Ctx} {φ:Phi}
def ChgOk (P:Program) (φ:Phi) (H:Hp) (nx:Nat) (w:World) (ρ:Operand→Value) (o:Oper) (r:R3):Prop :=
 ∃ φ' v' w' n,(execOp ρ o).run P w=.ok n w'∧(n=.value v'∨(n=.skip∧v'=undef))∧VRel φ' r.v v'∧Rel φ' r.hp.get r.nx w'∧Step φ H nx w φ' r.hp.get r.nx w'
theorem undef_rel:VRel φ undefA undef:=.tup (x':=#[]) .nil
theorem setObj_turn {hp:T Obj} {nx:Nat} {w:World} (hr:Rel φ hp.get nx w) {id b:Nat} {ob ob':Obj} (hob:hp.get id=some ob) (ho:ob.own=true) (ho':ob'.own=true) (hφ:φ id=some (.obj b))
  {old new:Go.Obj} (hold:w.heap[b]?=some old) (h1:∀ c e f,old≠.cells c e f) (h2:∀ c e f,new≠.cells c e f) {w':World} (hw:w'={ w with heap:=w.heap.setIfInBounds b new })
  (hrel:ORel φ w' ob' (.obj b)):Rel φ (hp.set id ob').get nx w'∧Step φ hp.get nx w φ (hp.set id ob').get nx w':=by
 rw [set_get]
 subst hw
 have hlt:b<w.heap.size:=(Array.getElem?_eq_some_iff.1 hold).1
 refine hr.turn hob ho ho' hφ hrel rfl rfl rfl (by simp) ?_ ?_
 ·intro r
  simp only [World.shape?,Array.getElem?_setIfInBounds]
  by_cases e:b=r
  ·subst e
   rw [if_pos rfl,if_pos hlt,hold]
   cases old<;>cases new<;>first|rfl|(exact(h1 _ _ _ rfl).elim)|(exact(h2 _ _ _ rfl).elim)
  ·rw [if_neg e]
 ·intro k hk
  simp only [Array.getElem?_setIfInBounds]
  rw [if_neg (fun e=>hk e.symm)]
theorem heap_set_same {w:World} {b:Nat} {old new:Go.Obj} (h:w.heap[b]?=some old):({ w with heap:=w.heap.setIfInBounds b new }:World).heap[b]?=some new:=by
 have hlt:b<w.heap.size:=(Array.getElem?_eq_some_iff.1 h).1
 simp [hlt]
theorem upd_ok (hC:CtxOk P C) {hp:T Obj} {nx:Nat} {w:World} (hr:Rel φ hp.get nx w) (hg:GOk C φ) {tm:T AV} {a:Act} (ht:TRel φ tm a.tmps) {t:TypeId} {m k x:Operand} {r:R3}
  (h:chgA.upd C tm hp nx t m k x=some r):∃ w',(Instr.mapUpdate t (a.eval m) (a.eval k) (a.eval x)).run P w=.ok () w'∧r.v=undefA∧Rel φ r.hp.get r.nx w'∧Step φ hp.get nx w φ r.hp.get r.nx w':=by
 unfold chgA.upd at h
 split at h
 ·next ti id kv xv hti hm hk hx =>
  split at h
  ·next kt et hkk =>
   split at h
   ·next tk es clk htk hes =>
    split at h
    ·next hko =>
     split at h
     ·next es' nw hset =>
      simp only [Option.some.injEq] at h;subst h
      obtain⟨b,hb,hφ⟩:=(ev_rel hg ht hm).inv_map
      have hkv:=ev_rel hg ht hk
      have hxv:=ev_rel hg ht hx
      obtain⟨l,h1,h2⟩:=hr.dom id _ hes
      rw [hφ] at h1;cases h1
      cases h2 with
      | @map _ _ _ ens hbk hmr =>
       have hck:=checkKey_ok (P:=P) (htk:=hC kt tk htk) hko hkv
       have hget:(getObj b).run P w=.ok (.map ens clk) w:=by simp [getObj,Sem.run,hbk]
       have hsetr:∀ o':Go.Obj,(setObj b o').run P w=.ok () { w with heap:=w.heap.setIfInBounds b o' }:=fun o'=>by simp [setObj,Sem.run,hbk]
       cases nw with
       | false =>
        obtain⟨l1,e,l2,e1,e2,e3,e4,e5⟩:=setK_old hset
        rcases hmr.find (hC kt tk htk) hko hkv e5 w with⟨e,_⟩|⟨m1,e',m2,r1,mm,r2,i,f1,f2,f3,f4,f5,f6,f7,f8,f9,f10,f11⟩
        ·simp at e
        ·obtain⟨rfl,rfl,rfl⟩:=first_unique (e1.symm.trans f1) e3 f2.2.1 e4 f2.2.2
         have hkeep:(Instr.keyThatStays (((ens[i]?).map (·.key)).getD (a.eval k)) (a.eval k)).run P w=.ok (a.eval k) w:=by
          have hi:ens[i]?=some mm:=by simpa using f9
          simp only [hi,Option.map_some,Option.getD_some,f7,Instr.keyThatStays]
          rw [if_pos (sameBits_self (eqK_keyV e3).1 hkv 9999)]
          rfl
         refine⟨{ w with heap:=w.heap.setIfInBounds b (.map (ens.modify i fun e=>{ e with key:=a.eval k,val:=a.eval x }) clk) },?_,rfl,?_⟩
         ·simp only [Instr.mapUpdate,Sem.run_bind,run_underlying ((hC t ti hti).map hkk),Result.andThen_ok,hb,hget,hck,f11,hkeep,hsetr]
         ·refine setObj_turn hr hes rfl rfl hφ hbk (by simp) (by simp) rfl (.map (heap_set_same hbk) ?_)
          rw [e2,Array.toList_modify]
          have hput:=MRel.put (e1▸hmr) f4 f5 f8 f9 (f2.1▸hkv) hxv
          exact hput
       | true =>
        obtain⟨e1,e2⟩:=setK_new hset
        rcases hmr.find (hC kt tk htk) hko hkv e2 w with⟨_,hno,f11⟩|⟨m1,e',m2,r1,mm,r2,i,f1,f2,f3,_⟩
        ·refine⟨{ w with heap:=w.heap.setIfInBounds b (.map (ens.push { key:=a.eval k,val:=a.eval x,born:=clk }) (clk+1)) },?_,rfl,?_⟩
         ·simp only [Instr.mapUpdate,Sem.run_bind,run_underlying ((hC t ti hti).map hkk),Result.andThen_ok,hb,hget,hck,f11,hsetr]
         ·refine setObj_turn hr hes rfl rfl hφ hbk (by simp) (by simp) rfl (.map (heap_set_same hbk) ?_)
          rw [e1,Array.toList_push]
          exact hmr.push hkv hxv hno
        ·simp at f3
     ·simp at h
    ·simp at h
   ·simp at h
  ·simp at h
 ·simp at h
theorem del_ok (hC:CtxOk P C) {hp:T Obj} {nx:Nat} {w:World} (hr:Rel φ hp.get nx w) {t:TypeId} {ti:TI} (hti:C.tt.get t=some ti) {kt et:Nat} (hkk:ti.k=.map kt et) {tk:TI} (htk:C.tt.get kt=some tk) {id:Nat} {es es':List (AV×AV)} {clk:Nat}
  (hes:hp.get id=some (.map es clk)) {mv:Value} (hmv:VRel φ (.map id) mv) {kv:AV} {k':Value} (hko:keyOk tk kv=true) (hkv:VRel φ kv k') (hd:delK kv es=some es') (ty:TypeId) (tys:Array TypeId) (h0:tys[0]?=some t) :
  ∃ w',(Builtin.delete_ tys ty #[mv,k']).run P w=.ok (.tuple #[]) w'∧Rel φ (hp.set id (.map es' clk)).get nx w'∧Step φ hp.get nx w φ (hp.set id (.map es' clk)).get nx w':=by
 obtain⟨b,rfl,hφ⟩:=hmv.inv_map
 obtain⟨l,h1,h2⟩:=hr.dom id _ hes
 rw [hφ] at h1;cases h1
 cases h2 with
 | @map _ _ _ ens hbk hmr =>
  have hck:=fun em=>checkKey_ok (P:=P) (htk:=hC kt tk htk) hko hkv em w
  have hget:(getObj b).run P w=.ok (.map ens clk) w:=by simp [getObj,Sem.run,hbk]
  have hsetr:∀ o':Go.Obj,(setObj b o').run P w=.ok () { w with heap:=w.heap.setIfInBounds b o' }:=fun o'=>by simp [setObj,Sem.run,hbk]
  rcases delK_some hd with⟨e1,e2⟩|⟨l1,e,l2,e1,e2,e3,e4,e5⟩
  ·rcases hmr.find (hC kt tk htk) hko hkv e2 w with⟨_,hno,f11⟩|⟨m1,e',m2,r1,mm,r2,i,f1,f2,f3,_⟩
   ·refine⟨{ w with heap:=w.heap.setIfInBounds b (.map ens clk) },?_,?_⟩
    ·simp only [Builtin.delete_,h0,List.getElem?_toArray,List.getElem?_cons_zero,List.getElem?_cons_succ,Sem.run_bind,run_underlying ((hC t ti hti).map hkk),Result.andThen_ok,hget,hck,f11,hsetr]
     rfl
    ·refine setObj_turn hr hes rfl rfl hφ hbk (by simp) (by simp) rfl (.map (heap_set_same hbk) ?_)
     rw [e1];exact hmr
   ·simp at f3
  ·rcases hmr.find (hC kt tk htk) hko hkv e5 w with⟨q,_⟩|⟨m1,e',m2,r1,mm,r2,i,f1,f2,f3,f4,f5,f6,f7,f8,f9,f10,f11⟩
   ·simp at q
   ·obtain⟨rfl,rfl,rfl⟩:=first_unique (e1.symm.trans f1) e3 f2.2.1 e4 f2.2.2
    refine⟨{ w with heap:=w.heap.setIfInBounds b (.map (ens.eraseIdxIfInBounds i) clk) },?_,?_⟩
    ·simp only [Builtin.delete_,h0,List.getElem?_toArray,List.getElem?_cons_zero,List.getElem?_cons_succ,Sem.run_bind,run_underlying ((hC t ti hti).map hkk),Result.andThen_ok,hget,hck,f11,hsetr]
     rfl
    ·refine setObj_turn hr hes rfl rfl hφ hbk (by simp) (by simp) rfl (.map (heap_set_same hbk) ?_)
     rw [e2]
     have hi:i<ens.size:=by have:=(List.getElem?_eq_some_iff.1 f9).1;simpa using this
     have hsub:(ens.eraseIdxIfInBounds i).toList=ens.toList.eraseIdx i:=by
      unfold Array.eraseIdxIfInBounds
      rw [dif_pos hi]
      simp
     rw [hsub]
     exact MRel.erase (e1▸hmr) f4 f5 f8 f9
theorem src_ok {hp:T Obj} {nx:Nat} {w:World} (hr:Rel φ hp.get nx w) {u:TypeId} {tu:TI} (hu:TIok P u tu) {xv:AV} (hk:srcKind tu.k xv=true) {x':Value} (hx:VRel φ xv x') {sz n:Nat} {new:List AV}
  (h:srcA hp sz xv=some (n,new)) (hok:allOk new=true∨n=0):∃ news,Src P sz u x' n news w∧VRels φ new news:=by
 unfold srcA at h
 split at h
 ·simp only [Option.some.injEq,Prod.mk.injEq] at h
  obtain⟨rfl,rfl⟩:=h
  rw [hx.inv_nsl]
  cases hku:tu.k<;>rw [hku] at hk<;>simp [srcKind] at hk
  exact⟨[],Src.ofNil w (hu.sl hku) 0,.nil⟩
 ·next id off m cap ex sz' =>
  cases hku:tu.k<;>rw [hku] at hk<;>simp [srcKind] at hk
  next e' =>
  have hu':=hu.sl hku
  split at h
  ·next hsz =>
   have hsz':=Nat.eq_of_beq_eq_true hsz
   subst hsz'
   split at h
   ·simp only [Option.some.injEq,Prod.mk.injEq] at h
    obtain⟨rfl,rfl⟩:=h
    refine⟨[],?_,.nil⟩
    cases hx<;>exact Src.ofSlice w hu' _ 0 _ [] (by simp) (by simp) (by simp)
   ·next m' =>
    split at h
    ·next l hl =>
     simp only [Option.some.injEq,Prod.mk.injEq] at h
     obtain⟨rfl,rfl⟩:=h
     obtain⟨b,o,N,cs,hφ,h1,h2,h3,h4,_⟩:=rd_ok hr hl
     cases hx with
     | sl h' _ _ _ _ =>
      rw [hφ] at h';cases h'
      refine⟨cs,Src.ofSlice w hu' _ _ _ cs h3 (fun j v hv=>by rw [Addr.add_mid];exact h2 j v hv) ?_,h1⟩
      intro v hv
      obtain⟨j,hj⟩:=List.mem_iff_getElem?.1 hv
      obtain⟨y,hy,hyr⟩:=h1.getV j v hj
      rcases hok with hok|e0
      ·exact hyr.oneCell (allOk_mem hok y (List.mem_of_getElem? hy))
      ·omega
    ·simp at h
  ·simp at h
 ·next s =>
  cases hku:tu.k<;>rw [hku] at hk<;>simp [srcKind] at hk
  split at h
  ·next hsz =>
   have hsz':=Nat.eq_of_beq_eq_true hsz
   subst hsz'
   simp only [Option.some.injEq,Prod.mk.injEq] at h
   obtain⟨rfl,rfl⟩:=h
   obtain⟨b,rfl,rfl⟩:=hx.inv_str
   rw [bytesOf_len]
   refine⟨byteCells b,Src.ofString w (hu.str hku) b,?_⟩
   unfold byteCells bytesOf
   generalize b.data.toList=l
   induction l with
   | nil=>exact .nil
   | cons y l ih=>exact .cons (.int _ _) ih
  ·simp at h
 ·simp at h
theorem nextslicecap_le {need old:Nat} (h:old<need):Builtin.nextslicecap need old≤2*need+1000:=by
 unfold Builtin.nextslicecap
 split
 ·omega
 ·split
  ·omega
  ·have hg:∀ r c:Nat,Builtin.growBy need r c≤max c (2*need+1000):=by
    intro r
    induction r with
    | zero=>intro c;simp [Builtin.growBy];omega
    | succ r ih =>
     intro c
     simp only [Builtin.growBy]
     split
     ·omega
     ·have:=ih (c+(c+768) / 4);omega
   have:=hg 4 old
   omega
theorem zeroCells_size (z:Array Value) (n:Nat):(Builtin.zeroCells z n).size=n*z.size:=by simp [Builtin.zeroCells]
structure ASrc (P:Program) (size:Nat) (t e u:TypeId) (x':Value) (n:Nat) (news:List Value) (w:World):Prop where
 newsLen:news.length=n*size
 one:∀ v∈news,v.oneCell'=true
 zero:n=0→∀ (ty:TypeId) (base:Option Addr) (l c:Nat),l≤c→(Builtin.append_ #[t,u] ty #[.slice base l c,x']).run P w=.ok (.slice base l c) w
 room:∀ (ty:TypeId) (b off sLen sCap:Nat),sLen+n≤sCap→(∀ j,j<news.length→(w.cell? ⟨b,off+sLen*size+j,none⟩).isSome=true)→(∀ j,j<news.length→w.frozen? ⟨b,off+sLen*size+j,none⟩=false) →
  (Builtin.append_ #[t,u] ty #[.slice (some ⟨b,off,none⟩) sLen sCap,x']).run P w=.ok (.slice (some ⟨b,off,none⟩) (sLen+n) sCap) (w.setCells b (off+sLen*size) news)
 grow:∀ (ty:TypeId) (i:TypeInfo) (z:Value),P.info? e=some i→i.zero=some z→∀ (base:Option Addr) (sLen sCap:Nat) (olds:List Value),(Builtin.firstCells size sLen (.slice base sLen sCap)).run P w.drew=.ok olds.toArray w.drew →
  sCap<sLen+n→((sLen+n:Nat):Int)≤9223372036854775807→Builtin.nextslicecap (sLen+n) sCap*i.bytes≤281474976710656 →
  (Builtin.append_ #[t,u] ty #[.slice base sLen sCap,x']).run P w=.ok (.slice (some ⟨w.heap.size,0,none⟩) (sLen+n) (grownCap w (sLen+n) sCap e))
    (w.drew.alloc (.cells ((olds++news).toArray++Builtin.zeroCells z.cells (grownCap w (sLen+n) sCap e - (sLen+n))) e))
theorem ASrc.of {size:Nat} {t e u:TypeId} {x':Value} {n:Nat} {news:List Value} {w:World} {i:TypeInfo} (ht:P.underlying t=some (.slice e)) (hi:P.info? e=some i) (hsz:i.size=size) (hs:Src P size u x' n news w):ASrc P size t e u x' n news w:=by
 subst hsz
 refine⟨hs.newsLen,hs.one,fun e0 ty base l c hle=>?_,fun ty b off l c h1 h2 h3=>run_append_room_src w t u ty e i ht hi b off l c x' n news hs h1 h2 h3,fun ty i' z hi' hz base l c olds h0 h1 h2 h3=>?_⟩
 ·subst e0
  have hnil:news=[]:=by have:=hs.newsLen;simp at this;exact this
  exact run_append_nothing w t u ty e i ht hi base l c hle x' (by rw [← hnil];exact hs)
 ·rw [hi] at hi';cases hi'
  exact run_append_grow_src w t u ty e i z ht hi hz base l c olds h0 x' n news hs h1 h2 h3
theorem append_grow {nx:Nat} {w:World} {H':Hp} (hr:Rel φ H' nx w) {e:TypeId} {te:TI} (hE:TIok P e te) {t u ty:TypeId} (ht:P.underlying t=some (.slice e))
  {base:Option Addr} {len c n:Nat} {olds news:List Value} {old new:List AV} (hold:(Builtin.firstCells te.size len (.slice base len c)).run P w.drew=.ok olds.toArray w.drew)
  (ho:VRels φ old olds) (holen:olds.length=len*te.size) (hn:VRels φ new news) {x':Value} (hs:ASrc P te.size t e u x' n news w) (hg:c<len+n) (hbig:len+n≤big) (hbytes:te.bytes≤1024) (bt:Bool) (fz:Nat) :
  ∃ φ' v' w',(Builtin.append_ #[t,u] ty #[.slice base len c,x']).run P w=.ok v' w'∧VRel φ' (.sl nx 0 (len+n) (len+n) false te.size) v' ∧
   Rel φ' (upd H' nx (mkO bt e (old++new) fz)) (nx+1) w'∧Step φ H' nx w φ' (upd H' nx (mkO bt e (old++new) fz)) (nx+1) w' ∧
   ∃ b' N',φ' nx=some (.cells b' 0 N')∧w'.shape? b'=some (e,N')∧∀ fz,FrOk w' b' fz:=by
 obtain⟨i,z,hi,hisz,hib,hiz,_⟩:=hE.info
 obtain⟨z',hz',hzr,_⟩:=hE.zeroValue w φ
 have hzz:z=z':=by simpa [zeroValue,typeInfo,hi,hiz] using hz'
 subst hzz
 have hzs:z.cells.size=te.size:=by rw [← Array.length_toList,← hzr.length,hE.zlen]
 unfold big at hbig
 have hcap:=nextslicecap_le hg
 have hfit:Builtin.nextslicecap (len+n) c*i.bytes≤281474976710656:=by
  rw [hib]
  have h5:Builtin.nextslicecap (len+n) c*te.bytes≤(2*1073741824+1000)*1024:=Nat.mul_le_mul (by omega) hbytes
  omega
 have hrun:=hs.grow ty i z hi hiz base len c olds hold hg (by omega) hfit
 have hge:len+n≤grownCap w (len+n) c e:=by unfold grownCap Question.cut;simp only;omega
 have hnl:=hs.newsLen
 have hsize:((olds++news).toArray++Builtin.zeroCells z.cells (grownCap w (len+n) c e - (len+n))).size=grownCap w (len+n) c e*te.size:=by
  rw [Array.size_append,zeroCells_size,hzs]
  simp only [List.size_toArray,List.length_append,holen,hnl]
  rw [← Nat.add_mul,← Nat.add_mul]
  congr 1;omega
 have hr':Rel φ H' nx w.drew:=hr.drew _
 have hlast:∀ o':Go.Obj,(w.drew.alloc o').heap[w.heap.size]?=some o':=fun o'=>by simp [World.alloc,World.drew,-World.alloc_eq,-World.drew_eq]
 have hcells:ORel (upd φ nx (.cells w.heap.size 0 (grownCap w (len+n) c e*te.size))) (w.drew.alloc (.cells ((olds++news).toArray++Builtin.zeroCells z.cells (grownCap w (len+n) c e - (len+n))) e)) (.cells (old++new) fz)
   (.cells w.heap.size 0 (grownCap w (len+n) c e*te.size)):=by
  refine .cells ?_ ?_ ?_
  ·rw [Nat.zero_add,List.length_append,ho.length,hn.length,holen,hnl,← Nat.add_mul]
   exact Nat.mul_le_mul_right _ hge
  ·intro j v hj
   obtain⟨v',h1,h2⟩:=(ho.append hn).get j v hj
   refine⟨v',?_,h2.mono (hr.le_upd (Nat.le_refl _) _)⟩
   have hjlt:j<(olds++news).length:=(List.getElem?_eq_some_iff.1 h1).1
   simp only [World.cell?,hlast,Nat.zero_add]
   simp only [Option.isSome_none,Bool.false_eq_true,if_false]
   rw [Array.getElem?_append_left (by simpa using hjlt)]
   simpa using h1
  ·intro j _ _
   simp only [World.frozen?,hlast];simp
 have hob:ORel (upd φ nx (.cells w.heap.size 0 (grownCap w (len+n) c e*te.size))) (w.drew.alloc (.cells ((olds++news).toArray++Builtin.zeroCells z.cells (grownCap w (len+n) c e - (len+n))) e)) (mkO bt e (old++new) fz)
   (.cells w.heap.size 0 (grownCap w (len+n) c e*te.size)):=by
  cases bt
  ·exact hcells
  ·cases hcells with
   | cells k1 k2 k3=>exact .tc (by simp only [World.shape?,hlast,hsize]) (by omega) k2 (.new (hlast _) _)
 obtain⟨h1,h2⟩:=hr'.new (Nat.le_refl nx) (Nat.lt_succ_self nx) (l:=.cells w.heap.size 0 (grownCap w (len+n) c e*te.size)) rfl
  (fun b o N hh=>by cases hh;exact⟨e,by simp only [World.shape?,hlast,hsize]⟩) hob
 refine⟨_,_,_,hrun,?_,h1,(Step.drew φ H' nx w _).trans h2,_,_,upd_same _ _ _,by simp only [World.shape?,hlast,hsize],fun fz=>.new (hlast _) fz⟩
 exact new_sl (w:=w) (Nat.le_refl _) hge (fun q=>by simp at q) (Nat.le_refl _)
theorem run_append_make {w:World} (t u ty e:TypeId) (i:TypeInfo) (z:Value) (ht:P.underlying t=some (.slice e)) (hu:P.underlying u=some (.int .i64)) (hi:P.info? e=some i) (hz:i.zero=some z) (hzs:i.size≠0)
  (n:Nat) (h0:0<n) (hn:n≤big) (hb:i.bytes≤1024) :
  (Builtin.append_ #[t,u] ty #[.slice none 0 0,.int .i64 (Int.ofNat n)]).run P w =
   .ok (.slice (some ⟨w.heap.size,0,none⟩) n (grownCap w n 0 e))
    (w.drew.alloc (.cells (Builtin.zeroCells z.cells n++Builtin.zeroCells z.cells (grownCap w n 0 e - n)) e)):=by
 unfold big at hn
 have h1:IntKind.i64.wrap (n:Int)=(n:Int):=by rw [IntKind.wrap_i64];omega
 have h2':¬ (281474976710656<(n:Int)*(i.bytes:Int)):=by
  have h3:n*i.bytes≤1073741824*1024:=Nat.mul_le_mul hn hb
  have h4:((n*i.bytes:Nat):Int)≤((1073741824*1024:Nat):Int):=Int.ofNat_le.2 h3
  rw [Int.natCast_mul] at h4
  have h5:((1073741824*1024:Nat):Int)=1099511627776:=rfl
  rw [h5] at h4
  intro q
  exact absurd (Int.lt_of_lt_of_le q h4) (by decide)
 have hcap:Builtin.nextslicecap n 0=n:=by unfold Builtin.nextslicecap;rw [if_pos (by omega)]
 have h4:¬ (281474976710656<n*i.bytes):=by
  have:n*i.bytes≤1073741824*1024:=Nat.mul_le_mul hn hb
  omega
 have h5:n*i.size≠0:=by
  intro q
  rcases Nat.mul_eq_zero.1 q with q|q
  ·omega
  ·exact hzs q
 have h6:¬ (9223372036854775807<(n:Int)):=by omega
 have h7:n≠0:=by omega
 simp [Builtin.append_,run_underlying ht,run_underlying hu,Go.sizeOf,asIntOf,typeInfo,zeroValue,hi,hz,h1,h2',asInt,Builtin.firstCells,hcap,h4,h6,h7,Question.forced,newRow,grownCap]
 rw [if_neg (by omega),if_neg h5]
theorem run_append_make0 {w:World} (t u ty e:TypeId) (i:TypeInfo) (ht:P.underlying t=some (.slice e)) (hu:P.underlying u=some (.int .i64)) (hi:P.info? e=some i) (base:Option Addr) (l c:Nat) (hle:l≤c) :
  (Builtin.append_ #[t,u] ty #[.slice base l c,.int .i64 (Int.ofNat 0)]).run P w=.ok (.slice base l c) w:=by
 have h1:IntKind.i64.wrap 0=0:=by rw [IntKind.wrap_i64];omega
 cases base<;>simp [Builtin.append_,run_underlying ht,run_underlying hu,Go.sizeOf,asIntOf,typeInfo,hi,h1,asInt,hle,storeCells]
theorem Rel.del {H:Hp} {nx nx':Nat} {w:World} {φ:Phi} (h:Rel φ H nx w) (id:Nat) (hn:nx≤nx'):Rel φ (fun i=>if id=i then none else H i) nx' w :=
 h.less (fun i ob hi=>by by_cases e:id=i<;>simp [e] at hi;exact hi) hn
theorem del_get (hp:T Obj) (id:Nat):(hp.del id).get=fun i=>if id=i then none else hp.get i:=funext fun i=>T.get_del hp id i
theorem Step.del {φ φ':Phi} {H H':Hp} {nx nx':Nat} {w w':World} {id:Nat} (h:Step φ (fun i=>if id=i then none else H i) nx w φ' H' nx' w'):Step φ H nx w φ' H' nx' w' where
 grow:=h.grow
 born:=h.born
 le:=h.le
 keeps:=⟨h.keeps.os,h.keeps.tape,h.keeps.output,h.keeps.size,h.keeps.shape,fun k hk hn=>h.keeps.block k hk fun⟨i,ob,l,h1,h2,h3,h4⟩=>hn ⟨i,ob,l,by by_cases e:id=i<;>simp [e] at h1;exact h1,h2,h3,h4⟩⟩
 own:=fun k hk ho=>by
  obtain⟨i,ob,l,h1,h2,h3,h4⟩:=h.own k hk ho
  exact⟨i,ob,l,by by_cases e:id=i<;>simp [e] at h1;exact h1,h2,h3,h4⟩
 live:=fun k hk ho=>by
  obtain⟨i,ob,l,h1,h3,h4⟩:=h.live k hk ho
  exact⟨i,ob,l,by by_cases e:id=i<;>simp [e] at h1;exact h1,h3,h4⟩
theorem append_over {hp:T Obj} {nx:Nat} {w:World} (hr:Rel φ hp.get nx w) {id off len sz:Nat} {c:List AV} {fz:Nat} (hob:hp.get id=some (.cells c fz)) {b o N:Nat} (hφ:φ id=some (.cells b o N))
  (Hn:c.length=off+len*sz) (hfz:fz≤c.length) {new:List AV} {news:List Value} (hn:VRels φ new news) (hN:o+off+len*sz+news.length≤N) :
  (∀ j,j<news.length→(w.cell? ⟨b,o+off+len*sz+j,none⟩).isSome=true)∧(∀ j,j<news.length→w.frozen? ⟨b,o+off+len*sz+j,none⟩=false) ∧
  Rel (upd φ nx (.cells b (o+off) N)) (upd (fun i=>if id=i then none else hp.get i) nx (.cells (c.drop off++new) (fz - off))) (nx+1) (w.setCells b (o+off+len*sz) news) ∧
  Step φ hp.get nx w (upd φ nx (.cells b (o+off) N)) (upd (fun i=>if id=i then none else hp.get i) nx (.cells (c.drop off++new) (fz - off))) (nx+1) (w.setCells b (o+off+len*sz) news):=by
 obtain⟨l,h1,h2⟩:=hr.dom id _ hob
 rw [hφ] at h1;cases h1
 cases h2 with
 | cells hcN hc hf =>
  obtain⟨e,hsh⟩:=hr.shp id b o N hφ
  have hidlt:=(hr.lt id _ hφ).1
  have hble:=(hr.lt id _ hφ).2
  have hle:=hr.le_upd (Nat.le_refl nx) (.cells b (o+off) N)
  have hcells:∀ j,j<news.length→(w.cell? ⟨b,o+off+len*sz+j,none⟩).isSome=true:=fun j hj=>by
   obtain⟨u,hu⟩:=shape_cell hsh (i:=o+off+len*sz+j) (by omega)
   simp [hu]
  have hfrz:∀ j,j<news.length→w.frozen? ⟨b,o+off+len*sz+j,none⟩=false:=fun j hj=>by
   have:=hf (off+len*sz+j) (by omega) (by omega)
   rwa [show o+(off+len*sz+j)=o+off+len*sz+j by omega] at this
  have Hx:∀ k,k≠b→(w.setCells b (o+off+len*sz) news).heap[k]?=w.heap[k]?:=fun k hk=>heap_setCells _ _ _ _ k hk
  refine⟨hcells,hfrz,⟨?_,?_,?_,?_⟩,⟨by omega,fun i m hi=>if e:nx=i then .inr (by omega) else .inl (by rw [upd_ne _ _ e] at hi;exact hi),hle,?_,?_,?_⟩⟩
  ·intro i l hi
   rw [size_setCells]
   by_cases e:nx=i
   ·subst e;rw [upd_same] at hi;simp at hi;subst hi;exact⟨by omega,hble⟩
   ·rw [upd_ne _ _ e] at hi;have:=hr.lt i l hi;exact⟨by omega,this.2⟩
  ·intro i b' o' N' hi
   simp only [shape_setCells]
   by_cases e:nx=i
   ·subst e;rw [upd_same] at hi;simp at hi;obtain⟨rfl,rfl,rfl⟩:=hi;exact⟨_,hsh⟩
   ·rw [upd_ne _ _ e] at hi;exact hr.shp i b' o' N' hi
  ·intro i ob hi
   by_cases e:nx=i
   ·subst e
    rw [upd_same] at hi;simp at hi;subst hi
    refine⟨_,upd_same _ _ _,.cells ?_ ?_ ?_⟩
    ·have:=hn.length;simp;omega
    ·intro j v hj
     by_cases hjl:j<len*sz
     ·rw [List.getElem?_append_left (by simp;omega),List.getElem?_drop] at hj
      obtain⟨v',h3,h4⟩:=hc (off+j) v hj
      refine⟨v',?_,h4.mono hle⟩
      rw [World.cell?_setCells_out b news _ w _ fun _ _=>by simp;omega]
      rwa [show o+(off+j)=o+off+j by omega] at h3
     ·rw [List.getElem?_append_right (by simp;omega)] at hj
      have e1:j - (c.drop off).length=j - len*sz:=by simp;omega
      rw [e1] at hj
      obtain⟨v',h3,h4⟩:=hn.get _ v hj
      refine⟨v',?_,h4.mono hle⟩
      obtain⟨hlt,h5⟩:=List.getElem?_eq_some_iff.1 h3
      have:=World.cell?_setCells_in b news (o+off+len*sz) w hcells (j - len*sz) hlt
      rw [show o+off+j=o+off+len*sz+(j - len*sz) by omega,this,h5]
    ·intro j h3 h4
     rw [World.frozen?_setCells]
     have:=hf (off+j) (by omega) (by omega)
     rwa [show o+(off+j)=o+off+j by omega] at this
   ·rw [upd_ne _ _ e] at hi
    by_cases e2:id=i
    ·simp [e2] at hi
    ·simp only [e2,if_false] at hi
     obtain⟨l,h3,h4⟩:=hr.dom i ob hi
     refine⟨l,hle _ _ h3,h4.mono hle (Hx _ fun e3=>?_)⟩
     exact hr.sep id i _ ob _ l hob hi e2 rfl hφ h3 e3.symm
  ·intro i j a a' l m hi hj hne hown hl hm
   by_cases e:nx=i
   ·subst e
    rw [upd_same] at hl;simp at hl;subst hl
    rw [upd_ne _ _ hne] at hj hm
    by_cases e2:id=j
    ·simp [e2] at hj
    ·simp only [e2,if_false] at hj
     exact(show b≠m.block from hr.sep id j _ a' (.cells b o N) m hob hj e2 rfl hφ hm)
   ·rw [upd_ne _ _ e] at hi hl
    by_cases e2:id=i
    ·simp [e2] at hi
    ·simp only [e2,if_false] at hi
     by_cases e3:nx=j
     ·subst e3
      rw [upd_same] at hm;simp at hm;subst hm
      exact(show l.block≠b from hr.sep i id a _ l (.cells b o N) hi hob (fun q=>e2 q.symm) hown hl hφ)
     ·rw [upd_ne _ _ e3] at hj hm
      by_cases e4:id=j
      ·simp [e4] at hj
      ·simp only [e4,if_false] at hj
       exact hr.sep i j a a' l m hi hj hne hown hl hm
  ·exact⟨World.os_setCells _ _ _ _,tape_setCells _ _ _ _,World.output_setCells _ _ _ _,by rw [size_setCells];exact Nat.le_refl _,fun r _=>shape_setCells _ _ _ _ r,
    fun k _ hn'=>Hx k fun e=>hn' ⟨id,_,_,hob,rfl,hφ,e.symm⟩⟩
  ·rintro k hk ⟨i,ob,l,h3,h4,h5,h6⟩
   by_cases e:nx=i
   ·subst e;rw [upd_same] at h5;simp at h5;subst h5;exact⟨id,_,_,hob,rfl,hφ,h6⟩
   ·rw [upd_ne _ _ e] at h3 h5
    by_cases e2:id=i
    ·simp [e2] at h3
    ·simp only [e2,if_false] at h3;exact⟨i,ob,l,h3,h4,h5,h6⟩
  ·rintro k hk ⟨i,ob,l,h3,h5,h6⟩
   by_cases e:nx=i
   ·subst e;rw [upd_same] at h5;simp at h5;subst h5;exact⟨id,_,_,hob,hφ,h6⟩
   ·rw [upd_ne _ _ e] at h3 h5
    by_cases e2:id=i
    ·simp [e2] at h3
    ·simp only [e2,if_false] at h3;exact⟨i,ob,l,h3,h5,h6⟩
set_option maxHeartbeats 600000 in
theorem append_amb {hp:T Obj} {nx:Nat} {w:World} (hr:Rel φ hp.get nx w) {e:TypeId} {te:TI} (hE:TIok P e te) {t u ty:TypeId} (ht:P.underlying t=some (.slice e))
  {id off len cap:Nat} {s':Value} (hsv:VRel φ (.sl id off len cap false te.size) s') {n:Nat} {new:List AV} {news:List Value} (hn:VRels φ new news) {x':Value} (hs:ASrc P te.size t e u x' n news w)
  {c:List AV} {fz:Nat} (hob:hp.get id=some (.cells c fz)) (Hn:c.length=off+len*te.size) (hfz:fz≤c.length) (hbig:len+n≤big) (hby:te.bytes≤1024) (hpos:0<n) :
  ∃ φ' v' w',(Builtin.append_ #[t,u] ty #[s',x']).run P w=.ok v' w'∧VRel φ' (.sl nx 0 (len+n) (len+n) false te.size) v' ∧
   Rel φ' (upd (fun i=>if id=i then none else hp.get i) nx (.cells (c.drop off++new) (fz - off))) (nx+1) w' ∧
   Step φ hp.get nx w φ' (upd (fun i=>if id=i then none else hp.get i) nx (.cells (c.drop off++new) (fz - off))) (nx+1) w' ∧
   (∀ b N,off=0→φ id=some (.cells b 0 N)→w.shape? b=some (e,N)→FrOk w b fz→∃ b' N',φ' nx=some (.cells b' 0 N')∧w'.shape? b'=some (e,N')∧FrOk w' b' fz):=by
 obtain⟨i,z,hi,hisz,hib,hiz,_⟩:=hE.info
 have hdr:=hr.del id (Nat.le_refl nx)
 obtain⟨lc,k1,k2⟩:=hr.dom id _ hob
 cases hsv with
 | @sl _ _ _ _ _ b o N cc _ g1 hc hx hl hN =>
  by_cases hroom:len+n≤cc
  ·have hmul:(len+n)*te.size≤cc*te.size:=Nat.mul_le_mul_right _ hroom
   have hnl:=hs.newsLen
   rw [Nat.add_mul] at hmul
   obtain⟨f1,f2,f3,f4⟩:=append_over hr hob g1 Hn hfz hn (by omega)
   refine⟨_,.slice (some ⟨b,o+off,none⟩) (len+n) cc,_,?_,?_,f3,f4,?_⟩
   rotate_left 2
   ·intro b0 N0 e0 e1 e2 e3
    rw [g1] at e1;cases e1;subst e0
    exact⟨_,_,by rw [upd_same],by rw [shape_setCells];exact e2,e3.setCells _ _⟩
   ·exact hs.room ty b (o+off) len cc hroom f1 f2
   ·have:=VRel.sl (φ:=upd φ nx (.cells b (o+off) N)) (id:=nx) (off:=0) (len:=len+n) (cap:=len+n) (sz:=te.size) (c:=cc) (ex:=false) (upd_same _ _ _) hroom (fun q=>by simp at q) (Nat.le_refl _) (by omega)
    simpa using this
  ·rw [g1] at k1;cases k1
   cases k2 with
   | cells k3 k4 k5 =>
    obtain⟨olds,q1,q2,q3⟩:=(k4.drop off).range
    have hol:olds.length=len*te.size:=by rw [q3];simp;omega
    obtain⟨φ',v',w',f1,f2,f3,f4,f5⟩:=append_grow (ty:=ty) hdr hE ht (base:=some ⟨b,o+off,none⟩) (len:=len) (c:=cc)
     (run_firstCells_some w.drew te.size _ _ _ _ olds hol (fun j v hv=>by rw [World.cell?_drew,Addr.add_mid];exact q2 j v hv)) q1 hol hn hs (by omega) hbig hby false (fz - off)
    exact⟨φ',v',w',f1,f2,f3,f4.del,fun _ _ _ _ _ _=>let ⟨b',N',m1,m2,m3⟩:=f5;⟨b',N',m1,m2,m3 fz⟩⟩
 | @sl0 _ _ _ _ a b o N g1 =>
   have hd:c.drop off=[]:=List.drop_of_length_le (by omega)
   obtain⟨φ',v',w',f1,f2,f3,f4,f5⟩:=append_grow (ty:=ty) hdr hE ht (base:=some a) (len:=0) (c:=0) (olds:=[]) (old:=[]) (by simp [Builtin.firstCells,loadCells,loadCellsFrom]) .nil (by simp) hn hs (by omega) hbig hby false (fz - off)
   rw [hd]
   exact⟨φ',v',w',f1,f2,f3,f4.del,fun _ _ _ _ _ _=>let ⟨b',N',m1,m2,m3⟩:=f5;⟨b',N',m1,m2,m3 fz⟩⟩
theorem append_def {hp:T Obj} {nx:Nat} {w:World} (hr:Rel φ hp.get nx w) {e:TypeId} {te:TI} (hE:TIok P e te) {t u ty:TypeId} (ht:P.underlying t=some (.slice e))
  {id off len cap:Nat} {s':Value} (hsv:VRel φ (.sl id off len cap true te.size) s') {n:Nat} {new:List AV} {news:List Value} (hn:VRels φ new news) {x':Value} (hs:ASrc P te.size t e u x' n news w)
  {old:List AV} (hold:(len=0∧old=[])∨rdH hp id off (len*te.size)=some old) (hfit:¬ len+n≤cap) (hbig:len+n≤big) (hby:te.bytes≤1024) (bt:Bool) :
  ∃ φ' v' w',(Builtin.append_ #[t,u] ty #[s',x']).run P w=.ok v' w'∧VRel φ' (.sl nx 0 (len+n) (len+n) false te.size) v' ∧
   Rel φ' (upd hp.get nx (mkO bt e (old++new) 0)) (nx+1) w'∧Step φ hp.get nx w φ' (upd hp.get nx (mkO bt e (old++new) 0)) (nx+1) w':=by
 have key:∀ (a:Addr) (c:Nat),c<len+n→(∃ olds,(Builtin.firstCells te.size len (.slice (some a) len c)).run P w.drew=.ok olds.toArray w.drew∧VRels φ old olds∧olds.length=len*te.size) →
   ∃ φ' v' w',(Builtin.append_ #[t,u] ty #[.slice (some a) len c,x']).run P w=.ok v' w'∧VRel φ' (.sl nx 0 (len+n) (len+n) false te.size) v' ∧
   Rel φ' (upd hp.get nx (mkO bt e (old++new) 0)) (nx+1) w'∧Step φ hp.get nx w φ' (upd hp.get nx (mkO bt e (old++new) 0)) (nx+1) w':=by
  rintro a c hlt ⟨olds,g1,g2,g3⟩
  obtain⟨φ',v',w',f1,f2,f3,f4,_⟩:=append_grow (ty:=ty) hr hE ht g1 g2 g3 hn hs hlt hbig hby bt 0
  exact⟨φ',v',w',f1,f2,f3,f4⟩
 have zero:∀ (a:Addr) (c:Nat),len=0→old=[]→∃ olds,(Builtin.firstCells te.size len (.slice (some a) len c)).run P w.drew=.ok olds.toArray w.drew∧VRels φ old olds∧olds.length=len*te.size:=by
  intro a c e0 e1
  subst e0 e1
  exact⟨[],by simp [Builtin.firstCells,loadCells,loadCellsFrom],.nil,by simp⟩
 cases hsv with
 | @sl _ _ _ _ _ b o N cc _ h5 hc hx hl hN =>
  have hcc:cc=cap:=hx rfl
  refine key _ _ (by omega) ?_
  rcases hold with⟨e0,e1⟩|hold
  ·exact zero _ _ e0 e1
  ·obtain⟨b',o',N',cs,hφ,g1,g2,g3,g4,_⟩:=rd_ok hr hold
   rw [h5] at hφ;cases hφ
   exact⟨cs,run_firstCells_some w.drew te.size _ _ _ _ cs g3 (fun j v hv=>by rw [World.cell?_drew,Addr.add_mid];exact g2 j v hv),g1,g3⟩
 | sl0 h5 =>
  refine key _ _ (by omega) ?_
  rcases hold with⟨e0,e1⟩|hold
  ·exact zero _ _ e0 e1
  ·obtain⟨b',o',N',cs,hφ,g1,g2,g3,g4,_⟩:=rd_ok hr hold
   have:old=[]:=List.eq_nil_of_length_eq_zero (by omega)
   exact zero _ _ rfl this
theorem appendA_okA {hp:T Obj} {nx:Nat} {w:World} (hr:Rel φ hp.get nx w) {e:TypeId} {te:TI} (hE:TIok P e te) {t u ty:TypeId} (ht:P.underlying t=some (.slice e))
  {sv:AV} {s':Value} (hsv:VRel φ sv s') {n:Nat} {new:List AV} {news:List Value} (hn:VRels φ new news) {x':Value} (hs:ASrc P te.size t e u x' n news w) {r:R3} {bt:Bool} (h:appendA e bt te hp nx sv n new=some r) :
  ∃ φ' v' w',(Builtin.append_ #[t,u] ty #[s',x']).run P w=.ok v' w'∧VRel φ' r.v v'∧Rel φ' r.hp.get r.nx w'∧Step φ hp.get nx w φ' r.hp.get r.nx w':=by
 obtain⟨i,z,hi,hisz,hib,hiz,_⟩:=hE.info
 have nothing:∀ (base:Option Addr) (l c:Nat),l≤c→n=0→(Builtin.append_ #[t,u] ty #[.slice base l c,x']).run P w=.ok (.slice base l c) w:=by
  intro base l c hle e0
  exact hs.zero e0 ty base l c hle
 unfold appendA at h
 split at h
 ·rw [hsv.inv_nsl]
  split at h
  ·simp only [Option.some.injEq] at h;subst h
   exact⟨φ,_,w,nothing none 0 0 (Nat.le_refl _) rfl,.nsl,hr,.refl _ _ _ _⟩
  ·next n' =>
   split at h
   ·next h1 h2 h3 =>
    simp only [Option.some.injEq] at h;subst h
    have:=append_grow (ty:=ty) hr hE ht (base:=none) (len:=0) (c:=0) (olds:=[]) (old:=[]) (by simp [Builtin.firstCells]) .nil (by simp) hn hs (by omega) (by have:=Nat.le_of_ble_eq_true h1;omega) (Nat.le_of_ble_eq_true h2) bt 0
    simp only [Nat.zero_add,List.nil_append] at this
    obtain⟨φ',v',w',g1,g2,g3,g4,_⟩:=this
    exact⟨φ',v',w',g1,g2,by rw [set_get];exact g3,by rw [set_get];exact g4⟩
   ·simp at h
 ·next id off len cap ex sz =>
  split at h
  ·simp only [Option.some.injEq] at h;subst h
   cases hsv with
   | sl h1 hc hx hl hN=>exact⟨φ,_,w,nothing _ _ _ (by omega) rfl,.sl h1 hc hx hl hN,hr,.refl _ _ _ _⟩
   | sl0 h1=>exact⟨φ,_,w,nothing _ _ _ (Nat.le_refl _) rfl,.sl0 h1,hr,.refl _ _ _ _⟩
  ·next n' =>
   split at h
   ·next h1 h2 h3 h4 =>
    have hsz:=Nat.eq_of_beq_eq_true h1
    have hbig:=Nat.le_of_ble_eq_true h2
    have hby:=Nat.le_of_ble_eq_true h3
    have hone:=hs.one
    subst hsz
    split at h
    ·next hfit =>
     have hfit':=Nat.le_of_ble_eq_true hfit
     split at h
     ·next hp' hw =>
      simp only [Option.some.injEq] at h;subst h
      obtain⟨b,o,N,hφ,_,hcf,_,hrel,hstep⟩:=wr_ok (P:=P) hr hn hw
      cases hsv with
      | @sl _ _ _ _ _ b' o' N' cc _ h5 hc hx hl hN =>
       rw [hφ] at h5;cases h5
       rw [← Nat.add_assoc] at hcf hrel hstep
       have hroom:len+(n'+1)≤cc:=Nat.le_trans hfit' hc
       refine⟨φ,.slice (some ⟨b,o+off,none⟩) (len+(n'+1)) cc,_,?_,.sl hφ hc hx hfit' hN,hrel,hstep⟩
       exact hs.room ty b (o+off) len cc hroom (fun j hj=>(hcf j hj).1) (fun j hj=>(hcf j hj).2)
      | sl0 h5=>omega
     ·simp at h
    ·next hfit =>
     have hfit':¬ (len+(n'+1)≤cap):=fun q=>by rw [Nat.ble_eq_true_of_le q] at hfit;simp at hfit
     split at h
     ·next _ =>
      split at h
      ·next old hold =>
       simp only [Option.some.injEq] at h;subst h
       have hold':(len=0∧old=[])∨rdH hp id off (len*te.size)=some old:=by
        split at hold
        ·simp only [Option.some.injEq] at hold;exact .inl ⟨rfl,hold.symm⟩
        ·exact .inr hold
       obtain⟨φ',v',w',f1,f2,f3,f4⟩:=append_def (ty:=ty) hr hE ht hsv hn hs hold' (by omega) hbig hby bt
       exact⟨φ',v',w',f1,f2,by rw [set_get];exact f3,by rw [set_get];exact f4⟩
      ·simp at h
     ·split at h
      ·next c fz hob =>
       split at h
       ·next h5 h6 =>
        simp only [Option.some.injEq] at h;subst h
        simp only [set_get,del_get]
        obtain⟨φ',v',w',f1,f2,f3,f4,_⟩:=append_amb (ty:=ty) hr hE ht hsv hn hs hob (Nat.eq_of_beq_eq_true h5) (Nat.le_of_ble_eq_true h6) hbig hby (Nat.succ_pos _)
        exact⟨φ',v',w',f1,f2,f3,f4⟩
       ·simp at h
      ·next t c fz hob =>
       split at h
       ·next h5 h6 h7 =>
        obtain rfl:t=e:=Nat.eq_of_beq_eq_true h5
        simp only [Option.some.injEq] at h;subst h
        simp only [set_get,del_get]
        obtain⟨lc,k1,k2⟩:=hr.dom id _ hob
        cases k2 with
        | @tc _ _ _ b N hs' hN hc hf =>
         obtain⟨t1,t2⟩:=hr.turn (ob':=.cells c fz) hob rfl rfl k1 (.cells (by omega) hc fun j h1 h2=>by rw [Nat.zero_add];exact hf.free j h1) rfl rfl rfl rfl (fun _=>rfl) (fun _ _=>rfl)
         rw [← set_get] at t1 t2
         obtain⟨φ',v',w',f1,f2,f3,f4,f5⟩:=append_amb (ty:=ty) t1 hE ht hsv hn hs (T.get_set_same _ _ _) (by rw [Nat.zero_add];exact Nat.eq_of_beq_eq_true h6) (Nat.le_of_ble_eq_true h7) hbig hby (Nat.succ_pos _)
         obtain⟨b',N',e1,e2,e3⟩:=f5 b N rfl k1 hs' hf
         have hfun:(fun i=>if id=i then none else(hp.set id (.cells c fz)).get i)=fun i=>if id=i then none else hp.get i:=by
          funext i
          by_cases q:id=i
          ·rw [if_pos q,if_pos q]
          ·rw [if_neg q,if_neg q,T.get_set_ne _ _ q]
         rw [hfun] at f3 f4
         simp only [List.drop_zero,Nat.sub_zero] at f3 f4
         have ho:ORel φ' w' (.tc t (c++new) fz) (.cells b' 0 N'):=by
          obtain⟨lc,m1,m2⟩:=f3.dom nx _ (upd_same _ _ _)
          rw [e1] at m1;cases m1
          cases m2 with
          | cells q1 q2 q3=>exact .tc e2 (by omega) q2 e3
         obtain⟨t3,t4⟩:=f3.turn (ob':=.tc t (c++new) fz) (upd_same _ _ _) rfl rfl e1 ho rfl rfl rfl rfl (fun _=>rfl) (fun _ _=>rfl)
         have hupd:upd (upd (fun i=>if id=i then none else hp.get i) nx (Obj.cells (c++new) fz)) nx (Obj.tc t (c++new) fz)=upd (fun i=>if id=i then none else hp.get i) nx (Obj.tc t (c++new) fz):=by
          funext i
          by_cases q:nx=i
          ·subst q;rw [upd_same,upd_same]
          ·rw [upd_ne _ _ q,upd_ne _ _ q,upd_ne _ _ q]
         rw [hupd] at t3 t4
         exact⟨φ',v',w',f1,f2,t3,t2.trans (f4.trans t4)⟩
       ·simp at h
      ·simp at h
   ·simp at h
 ·simp at h
theorem ASrc.make {w:World} {t e u:TypeId} {te:TI} (ht:P.underlying t=some (.slice e)) (hu:P.underlying u=some (.int .i64)) {i:TypeInfo} {z:Value} (hi:P.info? e=some i) (hiz:i.zero=some z) (hib:i.bytes=te.bytes) (hisz:i.size=te.size) (hzs:z.cells.size=te.size)
  {new:List AV} {n:Nat} (hzr:VRels φ new (Builtin.zeroCells z.cells n).toList) (hok:allOk new=true) (h0:0<n) (hn:n≤big) (hb:te.bytes≤1024) (hs0:te.size≠0):ASrc P te.size t e u (.int .i64 (Int.ofNat n)) n (Builtin.zeroCells z.cells n).toList w:=by
 unfold big at hn
 rw [← hib] at hb
 have h1:IntKind.i64.wrap (n:Int)=(n:Int):=by rw [IntKind.wrap_i64];omega
 have h2':¬ (281474976710656<(n:Int)*(i.bytes:Int)):=by
  have h3:n*i.bytes≤1073741824*1024:=Nat.mul_le_mul hn hb
  have h4:((n*i.bytes:Nat):Int)≤((1073741824*1024:Nat):Int):=Int.ofNat_le.2 h3
  rw [Int.natCast_mul] at h4
  have h5:((1073741824*1024:Nat):Int)=1099511627776:=rfl
  rw [h5] at h4
  intro q
  exact absurd (Int.lt_of_lt_of_le q h4) (by decide)
 have h5:n*i.size≠0:=by
  intro q
  rcases Nat.mul_eq_zero.1 q with q|q
  ·omega
  ·exact hs0 (by rw [← hisz];exact q)
 have h7:n≠0:=by omega
 have hone:∀ v∈(Builtin.zeroCells z.cells n).toList,v.oneCell'=true:=by
  intro v hv
  obtain⟨j,hj⟩:=List.mem_iff_getElem?.1 hv
  obtain⟨y,hy,hyr⟩:=hzr.getV j v hj
  exact hyr.oneCell (allOk_mem hok y (List.mem_of_getElem? hy))
 refine⟨by rw [Array.length_toList,zeroCells_size,hzs],hone,fun q=>(h7 q).elim,fun ty b off l c hle hc hf=>?_,fun ty i' z' hi' hz' base l c olds hold hg h63 hfit=>?_⟩
 ·have hst:=run_storeCells_cells (P:=P) b (off+l*te.size) (Builtin.zeroCells z.cells n).toList 0 w (by simpa using hc) (by simpa using hf) hone
  simp only [Nat.add_zero] at hst
  rw [← hisz] at hst ⊢
  simp [Builtin.append_,run_underlying ht,run_underlying hu,Go.sizeOf,asIntOf,typeInfo,zeroValue,hi,hiz,h1,h2',asInt,hle,h7,Addr.add_lit]
  rw [if_neg (by omega),if_neg h5]
  simp [hst]
 ·rw [hi] at hi';cases hi'
  rw [hiz] at hz';cases hz'
  have hn':¬ (l+n≤c):=by omega
  have h63':¬ (9223372036854775807<((l:Int)+(n:Int))):=by omega
  have h48':¬ (281474976710656<Builtin.nextslicecap (l+n) c*i.bytes):=by omega
  rw [← hisz] at hold
  simp [Builtin.append_,run_underlying ht,run_underlying hu,Go.sizeOf,asIntOf,typeInfo,zeroValue,hi,hiz,h1,h2',asInt,hn',h63',h48',h7,Question.forced,hold,newRow,grownCap]
  rw [if_neg (by omega),if_neg h5]
  simp
  congr 2
  apply Array.ext'
  simp
theorem appendA_ok {hp:T Obj} {nx:Nat} {w:World} (hr:Rel φ hp.get nx w) {e:TypeId} {te:TI} (hE:TIok P e te) {t u ty:TypeId} (ht:P.underlying t=some (.slice e))
  {sv:AV} {s':Value} (hsv:VRel φ sv s') {n:Nat} {new:List AV} {news:List Value} (hn:VRels φ new news) {x':Value} (hs:Src P te.size u x' n news w) {r:R3} {bt:Bool} (h:appendA e bt te hp nx sv n new=some r) :
  ∃ φ' v' w',(Builtin.append_ #[t,u] ty #[s',x']).run P w=.ok v' w'∧VRel φ' r.v v'∧Rel φ' r.hp.get r.nx w'∧Step φ hp.get nx w φ' r.hp.get r.nx w':=by
 obtain⟨i,z,hi,hisz,hib,hiz,_⟩:=hE.info
 exact appendA_okA hr hE ht hsv hn (ASrc.of ht hi hisz hs) h
theorem appendZ_ok {hp:T Obj} {nx:Nat} {w:World} (hr:Rel φ hp.get nx w) {e:TypeId} {te:TI} (hE:TIok P e te) {t u ty:TypeId} (ht:P.underlying t=some (.slice e)) (hu:P.underlying u=some (.int .i64))
  {sv xv:AV} {s' x':Value} (hsv:VRel φ sv s') (hxv:VRel φ xv x') {r:R3} {bt:Bool} (h:appendZ e bt te hp nx sv xv=some r) :
  ∃ φ' v' w',(Builtin.append_ #[t,u] ty #[s',x']).run P w=.ok v' w'∧VRel φ' r.v v'∧Rel φ' r.hp.get r.nx w'∧Step φ hp.get nx w φ' r.hp.get r.nx w':=by
 obtain⟨i,z,hi,hisz,hib,hiz,_⟩:=hE.info
 unfold appendZ at h
 split at h
 ·next n =>
  split at h
  ·next h1 h2 h3 =>
   simp only [Option.some.injEq] at h;subst h
   have hn:=Nat.le_of_ble_eq_true h1
   have hb:=Nat.le_of_ble_eq_true h2
   obtain⟨z',hz',hzr,_⟩:=hE.zeroValue w φ
   have hzz:z=z':=by simpa [zeroValue,typeInfo,hi,hiz] using hz'
   subst hzz
   have hzs:z.cells.size=te.size:=by rw [← Array.length_toList,← hzr.length,hE.zlen]
   cases hsv
   cases hxv
   have hs0:i.size≠0:=by have:=Nat.le_of_ble_eq_true h3;omega
   have hrun:=run_append_make (P:=P) (w:=w) t u ty e i z ht hu hi hiz hs0 (n+1) (by omega) hn (by rw [hib];exact hb)
   have hge:n+1≤grownCap w (n+1) 0 e:=by unfold grownCap Question.cut;simp only;omega
   have hr':Rel φ hp.get nx w.drew:=hr.drew _
   have hsize:(Builtin.zeroCells z.cells (n+1)++Builtin.zeroCells z.cells (grownCap w (n+1) 0 e - (n+1))).size=grownCap w (n+1) 0 e*te.size:=by
    rw [Array.size_append,zeroCells_size,zeroCells_size,hzs,← Nat.add_mul]
    congr 1;omega
   have hlast:∀ o':Go.Obj,(w.drew.alloc o').heap[w.heap.size]?=some o':=fun o'=>by simp [World.alloc,World.drew,-World.alloc_eq,-World.drew_eq]
   have hnew:VRels φ (reps (n+1) te.zero) (Builtin.zeroCells z.cells (n+1)).toList:=made_reps hzr (n+1)
   have hcells:ORel (upd φ nx (.cells w.heap.size 0 (grownCap w (n+1) 0 e*te.size))) (w.drew.alloc (.cells (Builtin.zeroCells z.cells (n+1)++Builtin.zeroCells z.cells (grownCap w (n+1) 0 e - (n+1))) e)) (.cells (reps (n+1) te.zero) 0)
     (.cells w.heap.size 0 (grownCap w (n+1) 0 e*te.size)):=by
    refine .cells ?_ ?_ ?_
    ·rw [Nat.zero_add,hnew.length,Array.length_toList,zeroCells_size,hzs]
     exact Nat.mul_le_mul_right _ hge
    ·intro j v hj
     obtain⟨v',h1,h2⟩:=hnew.get j v hj
     refine⟨v',?_,h2.mono (hr.le_upd (Nat.le_refl _) _)⟩
     have hjlt:j<(Builtin.zeroCells z.cells (n+1)).size:=by simpa using(List.getElem?_eq_some_iff.1 h1).1
     simp only [World.cell?,hlast,Nat.zero_add]
     simp only [Option.isSome_none,Bool.false_eq_true,if_false]
     rw [Array.getElem?_append_left hjlt]
     simpa using h1
    ·intro j _ _
     simp only [World.frozen?,hlast];simp
   obtain⟨h1,h2⟩:=hr'.new (Nat.le_refl nx) (Nat.lt_succ_self nx) (l:=.cells w.heap.size 0 (grownCap w (n+1) 0 e*te.size)) rfl
    (fun b o N hh=>by cases hh;exact⟨e,by simp only [World.shape?,hlast,hsize]⟩) hcells
   refine⟨_,_,_,hrun,?_,by rw [set_get];exact h1,by rw [set_get];exact(Step.drew φ hp.get nx w _).trans h2⟩
   exact new_sl (w:=w) (Nat.le_refl _) hge (fun q=>by simp at q) (Nat.le_refl _)
  ·simp at h
 ·simp only [Option.some.injEq] at h;subst h
  cases hsv
  cases hxv
  exact⟨φ,_,w,run_append_make0 t u ty e i ht hu hi none 0 0 (Nat.le_refl _),.nsl,hr,.refl _ _ _ _⟩
 ·next n =>
  cases hxv
  obtain⟨z',hz',hzr,_⟩:=hE.zeroValue w φ
  have hzz:z=z':=by simpa [zeroValue,typeInfo,hi,hiz] using hz'
  subst hzz
  split at h
  ·next h1 h2 h3 h4 =>
   exact appendA_okA (ty:=ty) hr hE ht hsv (made_reps hzr (n+1)) (ASrc.make ht hu hi hiz hib hisz (by rw [← Array.length_toList,← hzr.length,hE.zlen]) (made_reps hzr (n+1)) h4 (Nat.succ_pos _) (Nat.le_of_ble_eq_true h1) (Nat.le_of_ble_eq_true h2) (by have:=Nat.le_of_ble_eq_true h3;omega)) h
  ·simp at h
 ·simp only [Option.some.injEq] at h;subst h
  cases hxv
  cases hsv with
  | sl h1 hc hx hl hN=>exact⟨φ,_,w,run_append_make0 t u ty e i ht hu hi _ _ _ (by omega),.sl h1 hc hx hl hN,hr,.refl _ _ _ _⟩
  | sl0 h1=>exact⟨φ,_,w,run_append_make0 t u ty e i ht hu hi _ _ _ (Nat.le_refl _),.sl0 h1,hr,.refl _ _ _ _⟩
 ·simp at h
end
end Ev
namespace Ev
open Go Go.Lib
set_option linter.unusedSimpArgs false
set_option linter.unusedVariables false
section
variable {P:Program} {C:Ctx} {φ:Phi}
theorem ChgOk.same {hp:T Obj} {nx:Nat} {w:World} (hr:Rel φ hp.get nx w) {ρ:Operand→Value} {o:Oper} {v:AV} {v':Value} (hv:VRel φ v v') (hrun:(execOp ρ o).run P w=.ok (.value v') w):ChgOk P φ hp.get nx w ρ o ⟨v,hp,nx⟩ :=
 ⟨φ,v',w,.value v',hrun,.inl rfl,hv,hr,.refl _ _ _ _⟩
theorem copy_run (w:World) (dT sT ty elem:TypeId) {te:TI} (hE:TIok P elem te) (b o dLen dCap:Nat) (a:Addr) (sLen sCap n:Nat) (cs:List Value)
  (hu:P.underlying dT=some (.slice elem)) (hn:n=Nat.min sLen dLen) (Hn:cs.length=n*te.size)
  (hsrc:∀ j v,cs[j]?=some v→w.cell? (a.add j)=some v) (hst:(storeCells ⟨b,o,none⟩ cs).run P w=.ok () (w.setCells b o cs)) :
  (Builtin.copy_ #[dT,sT] ty #[.slice (some ⟨b,o,none⟩) dLen dCap,.slice (some a) sLen sCap]).run P w=.ok (goInt n) (w.setCells b o cs):=by
 have hl:=run_loadCells_list (P:=P) w a cs hsrc
 rw [Hn] at hl
 simp [Builtin.copy_,run_underlying hu,Builtin.lenOf,Builtin.firstCells,hE.sizeOf,← hn,hl,hst]
theorem copy_none (w:World) (dT sT ty elem:TypeId) {te:TI} (hE:TIok P elem te) (d a:Option Addr) (sLen sCap dLen dCap:Nat) (hu:P.underlying dT=some (.slice elem)) (hn:Nat.min sLen dLen=0) :
  (Builtin.copy_ #[dT,sT] ty #[.slice d dLen dCap,.slice a sLen sCap]).run P w=.ok (goInt 0) w:=by
 cases d<;>cases a<;>simp [Builtin.copy_,run_underlying hu,Builtin.lenOf,Builtin.firstCells,hE.sizeOf,hn,loadCells,loadCellsFrom,storeCells]
theorem bytes_rel (s:ByteArray):VRels φ ((bytesOf s).map fun(b:Nat)=>AV.int .u8 (Int.ofNat b)) (s.data.toList.map fun b=>Value.int .u8 b.toNat):=by
 unfold bytesOf
 generalize s.data.toList=l
 induction l with
 | nil=>exact .nil
 | cons y l ih=>exact .cons (.int _ _) ih
theorem appendA_allOk {E:Nat} {bt:Bool} {te:TI} {hp:T Obj} {nx:Nat} {s:AV} {n:Nat} {new:List AV} {r:R3} (h:appendA E bt te hp nx s n new=some r):allOk new=true∨n=0:=by
 unfold appendA at h
 split at h
 ·split at h
  ·exact .inr rfl
  ·split at h
   ·next h3=>exact .inl h3
   ·simp at h
 ·split at h
  ·exact .inr rfl
  ·split at h
   ·next h4=>exact .inl h4
   ·simp at h
 ·simp at h
theorem freeze_block {w:World} {b n:Nat} (hn:n≠0) {cs:Array Value} {ty:TypeId} {lo hi:Nat} (h:w.heap[b]?=some (.cells cs ty (lo,hi))) :
  (w.freeze ⟨b,0,none⟩ n).heap[b]?=some (.cells cs ty (if lo==hi then(0,0+n) else(min lo 0,max hi (0+n)))):=by
 unfold World.freeze
 rw [if_neg hn]
 simp only [Array.getElem?_modify,if_true,h,Option.map_some]
theorem freeze_other {w:World} {b n k:Nat} (h:k≠b):(w.freeze ⟨b,0,none⟩ n).heap[k]?=w.heap[k]?:=by
 unfold World.freeze
 split
 ·rfl
 ·simp only [Array.getElem?_modify]
  rw [if_neg (fun q=>h q.symm)]
theorem freeze_size {w:World} {b n:Nat}:(w.freeze ⟨b,0,none⟩ n).heap.size=w.heap.size:=by
 unfold World.freeze
 split
 ·rfl
 ·simp
theorem unsafeString_ok {hp:T Obj} {nx:Nat} {w:World} {pt it e:TypeId} {ti te:TI} (hti:TIok P pt ti) (hte:TIok P e te) (hk:ti.k=.ptr e) (hsz:te.size=1) (hr:Rel φ hp.get nx w) {id:Nat} {cc:List AV} {fz:Nat}
  (hob:hp.get id=some (.tc e cc fz)) {b N:Nat} (hφ:φ id=some (.cells b 0 N)) (hs:w.shape? b=some (e,N)) (hN:cc.length≤N) (hcr:CRel φ w b 0 cc) (hf:FrOk w b fz)
  {n:Nat} {r:List Nat} (hu8:valA.u8s (cc.take (n+1))=some r) (Hn:n+1≤cc.length) (hbig:n+1≤big) {ρ:Operand→Value} {o:Oper} {consts:Array Bool}
  (hrun:(execOp ρ o).run P w=(builtin .unsafeString #[pt,it] o.type consts #[.pointer (some ⟨b,0,none⟩),.int .i64 (Int.ofNat (n+1))]).run P w) :
  ChgOk P φ hp.get nx w ρ o ⟨.str r,hp.set id (.tc e cc (Nat.max fz (n+1))),nx⟩:=by
 obtain⟨ns,e1,e2,e3⟩:=u8s_ok hu8
 obtain⟨i,z,hi,hisz,_⟩:=hte.info
 unfold big at hbig
 have hnl:ns.length=n+1:=by
  have:=congrArg List.length e1
  simp at this;omega
 have hc1:P.cellsOf e=1:=by unfold Program.cellsOf;rw [hi];simp [hisz,hsz]
 have hcell:∀ j x,(ns.map fun x=>UInt8.ofNat x.toNat)[j]?=some x→w.cell? ((⟨b,0,none⟩:Addr).add j)=some (.int .u8 x.toNat):=by
  intro j x hx
  rw [List.getElem?_map] at hx
  cases hj:ns[j]? with
  | none=>rw [hj] at hx;simp at hx
  | some m =>
   rw [hj] at hx;simp at hx;subst hx
   have hm:=e3 m (List.mem_of_getElem? hj)
   have hjlt:j<ns.length:=(List.getElem?_eq_some_iff.1 hj).1
   have h1:cc[j]?=some (.int .u8 m):=by
    have:=congrArg (fun l:List AV=>l[j]?) e1
    simp only [List.getElem?_take,List.getElem?_map,hj,Option.map_some] at this
    rw [if_pos (by omega)] at this
    exact this
   obtain⟨v',h2,h3⟩:=hcr j _ h1
   rw [h3.inv_int,Nat.zero_add] at h2
   have hb:((UInt8.ofNat m.toNat).toNat:Int)=m:=by
    rw [UInt8.toNat_ofNat_of_lt' (by show m.toNat<256;omega)];omega
   rw [hb]
   have:(⟨b,0,none⟩:Addr).add j=⟨b,j,none⟩:=by unfold Addr.add;split<;>simp_all
   rw [this];exact h2
 have hl:(ns.map fun x=>UInt8.ofNat x.toNat).length=n+1:=by simp [hnl]
 have hrow:=Lib.run_unsafeString_row (P:=P) w pt it o.type e (hti.ptr hk) hc1 b N hs (ns.map fun x=>UInt8.ofNat x.toNat) (by intro q;rw [q] at hl;simp at hl) (by omega) (by omega) hcell
 rw [hl] at hrow
 have hbs:bytesOf ⟨(ns.map fun x=>UInt8.ofNat x.toNat).toArray⟩=r:=by
  rw [e2]
  unfold bytesOf
  simp only [List.map_map]
  apply List.map_congr_left
  intro m hm
  have:=e3 m hm
  simp only [Function.comp]
  rw [UInt8.toNat_ofNat_of_lt' (by show m.toNat<256;omega)]
 obtain⟨cs,lo,hi',hblk⟩:∃ cs lo hi,w.heap[b]?=some (.cells cs e (lo,hi)):=by
  unfold World.shape? at hs
  split at hs
  ·next c el fr hb=>simp at hs;obtain⟨rfl,_⟩:=hs;exact⟨c,fr.1,fr.2,hb⟩
  ·simp at hs
 have hblk':=freeze_block (n:=n+1) (by omega) hblk
 have hshape:∀ k,(w.freeze ⟨b,0,none⟩ (n+1)).shape? k=w.shape? k:=by
  intro k
  by_cases q:k=b
  ·subst q;simp only [World.shape?,hblk',hblk]
  ·simp only [World.shape?,freeze_other q]
 have hcellq:∀ j,(w.freeze ⟨b,0,none⟩ (n+1)).cell? ⟨b,j,none⟩=w.cell? ⟨b,j,none⟩:=by
  intro j;simp only [World.cell?,hblk',hblk]
 have ho:ORel φ (w.freeze ⟨b,0,none⟩ (n+1)) (.tc e cc (Nat.max fz (n+1))) (.cells b 0 N):=by
  refine .tc (by rw [hshape];exact hs) hN (fun j v hj=>?_) ?_
  ·obtain⟨v',h1,h2⟩:=hcr j v hj
   exact⟨v',by rw [hcellq];exact h1,h2⟩
  ·intro cs' ty' lo2 hi2 q
   rw [hblk'] at q
   simp only [Option.some.injEq,Go.Obj.cells.injEq] at q
   obtain⟨_,_,q⟩:=q
   have h1:=hf _ _ _ _ hblk
   have h2:Nat.max fz (n+1)=max fz (n+1):=rfl
   rw [h2]
   split at q
   ·simp only [Prod.mk.injEq] at q;right;omega
   ·next hne =>
    simp only [Prod.mk.injEq] at q
    have:¬ lo=hi':=fun e=>hne (by simp [e])
    right;omega
 obtain⟨t1,t2⟩:=hr.turn (w':=w.freeze ⟨b,0,none⟩ (n+1)) (ob':=.tc e cc (Nat.max fz (n+1))) hob rfl rfl hφ ho (by unfold World.freeze;split<;>rfl) (by unfold World.freeze;split<;>rfl) (by unfold World.freeze;split<;>rfl) freeze_size hshape fun k hk=>freeze_other hk
 have hv:VRel φ (.str r) (.string ⟨(ns.map fun x=>UInt8.ofNat x.toNat).toArray⟩):=by
  have:=VRel.str (φ:=φ) ⟨(ns.map fun x=>UInt8.ofNat x.toNat).toArray⟩
  rw [hbs] at this;exact this
 refine⟨φ,.string ⟨(ns.map fun x=>UInt8.ofNat x.toNat).toArray⟩,w.freeze ⟨b,0,none⟩ (n+1),.value (.string ⟨(ns.map fun x=>UInt8.ofNat x.toNat).toArray⟩),?_,.inl rfl,hv,by rw [set_get];exact t1,by rw [set_get];exact t2⟩
 rw [hrun]
 have h0:(Int.ofNat (n+1))=((n+1:Nat):Int):=rfl
 rw [h0]
 simp only [builtin,Sem.run_bind]
 rw [hrow];rfl
theorem bytesWorld_alloc (w:World) (e:TypeId) (s:ByteArray):bytesWorld w e s=w.drew.alloc (.cells (bytesCells w e s) e ((bytesCells w e s).size,(bytesCells w e s).size+1)):=by
 have hh:(bytesWorld w e s).heap=(w.drew.alloc (.cells (bytesCells w e s) e ((bytesCells w e s).size,(bytesCells w e s).size+1))).heap:=by
  apply Array.ext_getElem?
  intro i
  by_cases h1:i<w.heap.size
  ·rw [bytesWorld_at_old w e s i h1]
   simp [World.alloc,World.drew,-World.alloc_eq,-World.drew_eq,Array.getElem?_push]
   omega
  ·by_cases h2:i=w.heap.size
   ·subst h2
    rw [bytesWorld_at_new]
    simp [World.alloc,World.drew,-World.alloc_eq,-World.drew_eq]
   ·rw [Array.getElem?_eq_none (by rw [bytesWorld_size];omega),Array.getElem?_eq_none (by simp [World.drew,-World.drew_eq];omega)]
 have ext:∀ (x y:World),x.heap=y.heap→x.tape=y.tape→x.drawn=y.drawn→x.os=y.os→x.output=y.output→x=y:=by
  intro x y h1 h2 h3 h4 h5
  cases x;cases y;simp_all
 exact ext _ _ hh rfl rfl rfl rfl
theorem bytes_back (s0:ByteArray):(⟨((bytesOf s0).map UInt8.ofNat).toArray⟩:ByteArray)=s0:=by
 obtain⟨⟨l⟩⟩:=s0
 have:∀ l:List UInt8,l.map (UInt8.ofNat∘UInt8.toNat)=l:=by
  intro l
  induction l with
  | nil=>rfl
  | cons y l ih=>simp [ih]
 simp [bytesOf,this]
theorem bytes_new {hp:T Obj} {nx:Nat} {w:World} {e:TypeId} (hr:Rel φ hp.get nx w) (b:ByteArray) :
  ∃ φ',VRel φ' (.sl nx 0 b.size b.size false 1) (.slice (some ⟨w.heap.size,0,none⟩) b.size (grownCap w b.size 0 e)) ∧
   Rel φ' (upd hp.get nx (.cells ((bytesOf b).map fun(b:Nat)=>AV.int .u8 (Int.ofNat b)) 0)) (nx+1) (bytesWorld w e b) ∧
   Step φ hp.get nx w φ' (upd hp.get nx (.cells ((bytesOf b).map fun(b:Nat)=>AV.int .u8 (Int.ofNat b)) 0)) (nx+1) (bytesWorld w e b):=by
 have hr':Rel φ hp.get nx w.drew:=hr.drew _
 have hge:b.size≤grownCap w b.size 0 e:=by unfold grownCap Question.cut;simp only;omega
 have hsz:(bytesCells w e b).size=grownCap w b.size 0 e:=by
  unfold bytesCells
  rw [Array.size_append,Array.size_map,Array.size_replicate]
  show b.size+_=_
  omega
 have hlast:∀ o':Go.Obj,(w.drew.alloc o').heap[w.heap.size]?=some o':=fun o'=>by simp [World.alloc,World.drew,-World.alloc_eq,-World.drew_eq]
 rw [bytesWorld_alloc]
 have hor:ORel (upd φ nx (.cells w.heap.size 0 (bytesCells w e b).size)) (w.drew.alloc (.cells (bytesCells w e b) e ((bytesCells w e b).size,(bytesCells w e b).size+1)))
   (.cells ((bytesOf b).map fun(b:Nat)=>AV.int .u8 (Int.ofNat b)) 0) (.cells w.heap.size 0 (bytesCells w e b).size):=by
  refine .cells ?_ ?_ ?_
  ·rw [List.length_map,bytesOf_len];omega
  ·intro j v hj
   obtain⟨v',h1,h2⟩:=(bytes_rel (φ:=φ) b).get j v hj
   refine⟨v',?_,h2.mono (hr.le_upd (Nat.le_refl _) _)⟩
   have hjlt:=(List.getElem?_eq_some_iff.1 h1).1
   simp only [World.cell?,hlast,Nat.zero_add]
   simp only [Option.isSome_none,Bool.false_eq_true,if_false]
   unfold bytesCells
   rw [Array.getElem?_append_left (by simpa using hjlt)]
   simpa using h1
  ·intro j _ hj
   simp only [World.frozen?,hlast]
   simp;omega
 obtain⟨h1,h2⟩:=hr'.new (Nat.le_refl nx) (Nat.lt_succ_self nx) (l:=.cells w.heap.size 0 (bytesCells w e b).size) rfl
  (fun b' o N hh=>by cases hh;exact⟨e,by simp only [World.shape?,hlast]⟩) hor
 refine⟨_,?_,h1,(Step.drew φ hp.get nx w _).trans h2⟩
 exact new_sl (w:=w) (Nat.le_refl _) hge (fun q=>by simp at q) (by rw [hsz];omega)
set_option maxHeartbeats 1000000 in
theorem chgA_ok (hC:CtxOk P C) {hp:T Obj} {nx:Nat} {w:World} (hr:Rel φ hp.get nx w) (hg:GOk C φ) {tm:T AV} {a:Act} (ht:TRel φ tm a.tmps) {o:Oper} {r:R3} (h:chgA C tm hp nx o=some r) :
  ChgOk P φ hp.get nx w a.eval o r:=by
 unfold chgA at h
 split at h
 ·next t x y ho =>
  split at h
  ·next ti id off v hti hx hy =>
   split at h
   ·next Hn =>
    split at h
    ·next hp' hw =>
     simp only [Option.some.injEq] at h;subst h
     have hvy:=ev_rel hg ht hy
     obtain⟨b,o',N,hφ,hst,_,_,hrel,hstep⟩:=wr_ok (P:=P) hr hvy.cells hw
     have hbx:=ev_rel hg ht hx
     generalize hq:a.eval x=q at hbx
     cases hbx with
     | ptr h' =>
      rw [hφ] at h';cases h'
      refine⟨φ,undef,_,.skip,?_,.inr ⟨rfl,rfl⟩,undef_rel,hrel,hstep⟩
      have hl':=Nat.eq_of_beq_eq_true Hn
      have hsz:(a.eval y).cells.size=ti.size:=by rw [← Array.length_toList,← hvy.cells.length];exact hl'
      have hst':=hst ()
      simp only [execOp,ho,Sem.run_bind,hq,Instr.storeAt,Instr.sureAddr,storeVar,(hC t ti hti).sizeOf,Result.andThen_ok,Sem.run_pure]
      rw [if_neg (by rw [hsz];simp),hst']
      rfl
    ·simp at h
   ·simp at h
  ·simp at h
 ·next t m k x ho =>
  obtain⟨w',h1,h2,h3,h4⟩:=upd_ok hC hr hg ht h
  exact⟨φ,undef,w',.skip,by simp [execOp,ho,h1],.inr ⟨rfl,rfl⟩,by rw [h2];exact undef_rel,h3,h4⟩
 ·next t m k x ho =>
  obtain⟨w',h1,h2,h3,h4⟩:=upd_ok hC hr hg ht h
  exact⟨φ,undef,w',.skip,by simp [execOp,ho,h1],.inr ⟨rfl,rfl⟩,by rw [h2];exact undef_rel,h3,h4⟩
 ·next it isS ho =>
  split at h
  ·next id hit =>
   have hb:=ev_rel hg ht hit
   generalize hq:a.eval it=q at hb
   cases hb with
   | @it _ b hφ =>
   split at h
   ·next s pos hob =>
    obtain⟨l,h1,h2⟩:=hr.dom id _ hob
    rw [hφ] at h1;cases h1
    cases h2 with
    | @sIter s0 _ _ hbk =>
     split at h
     ·next hd =>
      simp only [Option.some.injEq] at h;subst h
      have hge:s0.size≤pos:=by rw [← bytesOf_len];exact List.drop_eq_nil_iff.1 hd
      refine .same hr (.tup (x':=#[.bool false]) (.cons (.bool false) .nil)) ?_
      have hn:¬ pos<s0.size:=by omega
      simp [execOp,ho,hq,Instr.next,getObj,Sem.run,hbk,hn]
     ·next c rest hd =>
      have hlt:pos<s0.size:=by
       have:pos<(bytesOf s0).length:=by
        have:=congrArg List.length hd;simp at this;omega
       rwa [bytesOf_len] at this
      have hset:∀ o':Go.Obj,(setObj b o').run P w=.ok () { w with heap:=w.heap.setIfInBounds b o' }:=fun o'=>by simp [setObj,Sem.run,hbk]
      have hrun:(execOp a.eval o).run P w=.ok (.value (.tuple #[.bool true,.int .i64 pos,.int .i32 (Utf8.decode s0 pos).1])) { w with heap:=w.heap.setIfInBounds b (.stringIter s0 (pos+(Utf8.decode s0 pos).2)) }:=by
       have hget:(getObj b).run P w=.ok (.stringIter s0 pos) w:=by simp [getObj,Sem.run,hbk]
       simp only [execOp,ho,Sem.run_bind,hq,Instr.next,hget,Result.andThen_ok,hlt,if_true,hset,goInt,Sem.run_pure]
      have fin:∀ (p:Nat×Nat),Utf8.decode s0 pos=p→ChgOk P φ hp.get nx w a.eval o ⟨.tup [.bool true,.int .i64 (Int.ofNat pos),.int .i32 p.1],hp.set id (.sIter (bytesOf s0) (pos+p.2)),nx⟩:=by
       intro p e
       rw [e] at hrun
       refine⟨φ,_,_,_,hrun,.inl rfl,.tup (.cons (.bool true) (.cons (.int _ _) (.cons (.int _ _) .nil))),?_⟩
       exact setObj_turn hr hob rfl rfl hφ hbk (by simp) (by simp) rfl (.sIter (heap_set_same hbk))
      split at h
      ·next hc =>
       simp only [Option.some.injEq] at h;subst h
       rw [Nat.blt_eq] at hc
       have hcs:(s0[pos]'hlt).toNat=c:=by
        have h6:(bytesOf s0)[pos]?=some c:=by
         have:=congrArg (fun l:List Nat=>l[0]?) hd
         simpa [List.getElem?_drop] using this
        simp only [bytesOf,List.getElem?_map] at h6
        have h7:s0.data.toList[pos]?=some (s0[pos]'hlt):=by
         rw [List.getElem?_eq_getElem (by rw [Array.length_toList];exact hlt)]
         rfl
        rw [h7] at h6;simpa using h6
       have:=fin (c,1) (by rw [decode_ascii s0 pos hlt (by omega),hcs])
       exact this
      ·next hc =>
       simp only [Option.some.injEq] at h;subst h
       have hs0:=bytes_back s0
       rw [hs0]
       exact fin _ rfl
   ·next m clk st hob =>
    split at h
    ·next es clk' hom =>
     obtain⟨l,h1,h2⟩:=hr.dom id _ hob
     rw [hφ] at h1;cases h1
     obtain⟨l',h3,h4⟩:=hr.dom m _ hom
     cases h2 with
     | @mIter _ _ _ _ bm hm hbk =>
      rw [hm] at h3;cases h3
      cases h4 with
      | @map _ _ _ ens hbm hmr =>
       split at h
       ·next _ hclk =>
        simp only [Option.some.injEq] at h;subst h
        have hclk':=Nat.eq_of_beq_eq_true hclk
        subst hclk'
        have hens:ens=#[]:=by
         obtain⟨r,e1,e2⟩:=hmr.perm
         cases e1
         exact Array.toList_inj.1 (by simpa using e2.symm.eq_nil)
        subst hens
        refine .same hr (.tup (x':=#[.bool false]) (.cons (.bool false) .nil)) ?_
        obtain⟨vis,hbk⟩:∃ vis,w.heap[b]?=some (.mapIter (some bm) clk vis clk):=⟨_,hbk⟩
        simp [execOp,ho,hq,Instr.next,getObj,Sem.run,hbk,hbm,choose,Question.forced]
       ·next e hclk hone =>
        simp only [Option.some.injEq] at h;subst h
        have hclk':=Nat.eq_of_beq_eq_true hclk
        have hone':=Nat.eq_of_beq_eq_true hone
        subst hclk' hone'
        obtain⟨m0,he0,hk0,hv0⟩:=hmr.single
        have hens:=Array.toList_inj.1 (he0:_=(#[m0]:Array MapEntry).toList)
        subst hens
        have hb0:m0.born=0:=by have:=hmr.born m0 (by simp);omega
        simp only at hbk
        have hset:∀ o':Go.Obj,(setObj b o').run P w=.ok () { w with heap:=w.heap.setIfInBounds b o' }:=fun o'=>by simp [setObj,Sem.run,hbk]
        have hg1:(getObj b).run P w=.ok (.mapIter (some bm) 1 #[] 1) w:=by simp [getObj,Sem.run,hbk]
        have hg2:(getObj bm).run P w=.ok (.map #[m0] 1) w:=by simp [getObj,Sem.run,hbm]
        refine⟨φ,.tuple #[.bool true,m0.key,m0.val],{ w with heap:=w.heap.setIfInBounds b (.mapIter (some bm) 1 #[0] 1) },_,?_,.inl rfl,.tup (.cons (.bool true) (.cons hk0 (.cons hv0 .nil))),?_⟩
        ·have f1:(#[m0]:Array MapEntry).filter (fun e=>!(#[]:Array Nat).contains e.born)=#[m0]:=by apply Array.toList_inj.1;simp
         have f2:(#[m0]:Array MapEntry).filter (fun e=>decide (e.born<1))=#[m0]:=by apply Array.toList_inj.1;simp [hb0]
         have f3:(#[m0]:Array MapEntry).filter (fun e=>decide (e.born≥1))=#[]:=by apply Array.toList_inj.1;simp [hb0]
         simp only [execOp,ho,Sem.run_bind,hq,Instr.next,hg1,Result.andThen_ok,hg2,f1,f2,f3]
         simp [hset,hb0,Question.forced]
        ·exact setObj_turn hr hob rfl rfl hφ hbk (by simp) (by simp) rfl (.mIter hm (heap_set_same hbk))
       ·next x st' hclk hone =>
        simp only [Option.some.injEq] at h;subst h
        have hclk':=Nat.eq_of_beq_eq_true hclk
        have hone':=Nat.eq_of_beq_eq_true hone
        subst hclk' hone'
        obtain⟨m0,he0,hk0,hv0⟩:=hmr.single
        have hens:=Array.toList_inj.1 (he0:_=(#[m0]:Array MapEntry).toList)
        subst hens
        have hb0:m0.born=0:=by have:=hmr.born m0 (by simp);omega
        simp only at hbk
        refine .same hr (.tup (x':=#[.bool false]) (.cons (.bool false) .nil)) ?_
        have hg1:(getObj b).run P w=.ok (.mapIter (some bm) 1 #[0] 1) w:=by simp [getObj,Sem.run,hbk]
        have hg2:(getObj bm).run P w=.ok (.map #[m0] 1) w:=by simp [getObj,Sem.run,hbm]
        have f1:(#[m0]:Array MapEntry).filter (fun e=>!(#[0]:Array Nat).contains e.born)=#[]:=by apply Array.toList_inj.1;simp [hb0]
        simp only [execOp,ho,Sem.run_bind,hq,Instr.next,hg1,Result.andThen_ok,hg2,f1]
        simp [Question.forced,hb0]
       ·simp at h
    ·simp at h
   ·simp at h
  ·simp at h
 ·next s d x ho =>
  split at h
  ·next ts td l hts htd hx =>
   split at h
   ·next e hk1 hk2 =>
    split at h
    ·next te hte =>
     split at h
     ·next hk3 =>
      simp only [Option.some.injEq] at h;subst h
      obtain⟨b,hb,rfl⟩:=(ev_rel hg ht hx).inv_str
      have hrun:=run_convert_string_bytes (P:=P) w s d e b ((hC s ts hts).str hk1) ((hC d td htd).sl hk2) ((hC e te hte).int hk3)
      obtain⟨φ',g1,g2,g3⟩:=bytes_new (e:=e) hr b
      rw [bytesOf_len]
      exact⟨φ',_,_,_,by simp only [execOp,ho,Sem.run_bind,hb,hrun];rfl,.inl rfl,g1,by rw [set_get];exact g2,by rw [set_get];exact g3⟩
     ·simp at h
    ·simp at h
   ·simp at h
  ·simp at h
 ·next c ho =>
  split at h
  ·next hc =>
   split at h
   ·next x y t u hargs htys =>
    split at h
    ·next ti tu sv xv hti htu hs hx =>
     split at h
     ·next e hk =>
      split at h
      ·next te hte =>
       obtain⟨cs,hcs⟩:=run_builtin (P:=P) (ρ:=a.eval) ho hc w
       have hat:c.argTypes=#[t,u]:=Array.toList_inj.1 htys
       have hag:c.args.map a.eval=#[a.eval x,a.eval y]:=by
        apply Array.toList_inj.1;rw [Array.toList_map,hargs];rfl
       have hsv:=ev_rel hg ht hs
       have hxv:=ev_rel hg ht hx
       split at h
       ·next hku =>
        obtain⟨φ',v',w',f1,f2,f3,f4⟩:=appendZ_ok (ty:=o.type) hr (hC e te hte) ((hC t ti hti).sl hk) ((hC u tu htu).int hku) hsv hxv h
        exact⟨φ',v',w',.value v',by rw [hcs,hat,hag];simp only [builtin,Sem.run_bind,f1];rfl,.inl rfl,f2,f3,f4⟩
       ·split at h
        ·next nl hsk hsrc =>
         have hokn:=appendA_allOk h
         obtain⟨news,g1,g2⟩:=src_ok (P:=P) hr (hC u tu htu) hsk hxv (by rw [hsrc]) hokn
         obtain⟨φ',v',w',f1,f2,f3,f4⟩:=appendA_ok (ty:=o.type) hr (hC e te hte) ((hC t ti hti).sl hk) hsv g2 g1 h
         exact⟨φ',v',w',.value v',by rw [hcs,hat,hag];simp only [builtin,Sem.run_bind,f1];rfl,.inl rfl,f2,f3,f4⟩
        ·simp at h
      ·simp at h
     ·simp at h
    ·simp at h
   ·simp at h
  ·next hc =>
   obtain⟨cs,hcs⟩:=run_builtin (P:=P) (ρ:=a.eval) ho hc w
   split at h
   ·next pt it hargs htys =>
    have hat:c.argTypes=#[pt,it]:=Array.toList_inj.1 htys
    simp only [Option.some.injEq] at h;subst h
    have hl:=evs_rel hg ht hargs
    have hl':(c.args.map a.eval)=#[.pointer none,.int .i64 0]:=by
     apply Array.toList_inj.1
     rw [Array.toList_map]
     generalize List.map a.eval c.args.toList=q at hl
     cases hl with
     | cons h1 h2=>cases h2 with
      | cons h3 h4=>cases h4;rw [h3.inv_int];cases h1;rfl
    refine .same hr (.str .empty) ?_
    rw [hcs,hl',hat]
    simp only [builtin,Sem.run_bind,Lib.run_unsafeString_none,Result.andThen_ok,Sem.run_pure]
   ·next id n pt it hargs htys =>
    have hat:c.argTypes=#[pt,it]:=Array.toList_inj.1 htys
    split at h
    ·next ti t cc fz hti hob =>
     split at h
     ·next e r hk hu8 Hn hbig =>
      split at h
      ·next te het hte =>
       split at h
       ·next hsz =>
        obtain rfl:e=t:=Nat.eq_of_beq_eq_true het
        simp only [Option.some.injEq] at h;subst h
        have hl:=evs_rel hg ht hargs
        obtain⟨lc,k1,k2⟩:=hr.dom id _ hob
        cases k2 with
        | @tc _ _ _ b N hs hN hcr hf =>
         have hl':(c.args.map a.eval)=#[.pointer (some ⟨b,0,none⟩),.int .i64 (Int.ofNat (n+1))]:=by
          apply Array.toList_inj.1
          rw [Array.toList_map]
          generalize List.map a.eval c.args.toList=q at hl
          cases hl with
          | cons h1 h2=>cases h2 with
           | cons h3 h4 =>
            cases h4;rw [h3.inv_int]
            cases h1 with
            | ptr hp=>rw [k1] at hp;cases hp;rfl
         exact unsafeString_ok (hC pt ti hti) (hC e te hte) hk hsz hr hob k1 hs hN hcr hf hu8 (Nat.le_of_ble_eq_true Hn) (Nat.le_of_ble_eq_true hbig) (by rw [hcs,hl',hat])
       ·simp at h
      ·simp at h
     ·simp at h
    ·simp at h
   ·simp at h
  ·next hc =>
   obtain⟨cs,hcs⟩:=run_builtin (P:=P) (ρ:=a.eval) ho hc w
   split at h
   ·next x y t u hargs htys =>
    have hat:c.argTypes=#[t,u]:=Array.toList_inj.1 htys
    have hag:c.args.map a.eval=#[a.eval x,a.eval y]:=by
     apply Array.toList_inj.1;rw [Array.toList_map,hargs];rfl
    have fin:∀ w',(Builtin.copy_ #[t,u] o.type #[a.eval x,a.eval y]).run P w=.ok (goInt 0) w'→w'=w→ChgOk P φ hp.get nx w a.eval o ⟨.int .i64 0,hp,nx⟩:=by
     intro w' hw e
     subst e
     refine .same hr (.int .i64 0) ?_
     rw [hcs,hat,hag];simp only [builtin,Sem.run_bind,hw];rfl
    split at h
    ·next ti id off len cap ex sz id' off' len' cap' ex' sz' hti hx hy =>
     have hbx:=ev_rel hg ht hx
     have hby:=ev_rel hg ht hy
     split at h
     ·next e hk =>
      split at h
      ·next te hte =>
       split at h
       ·next hs1 hs2 hmin =>
        simp only [Option.some.injEq] at h;subst h
        refine fin w ?_ rfl
        generalize a.eval x=q1 at hbx
        generalize a.eval y=q2 at hby
        cases hbx<;>cases hby<;>exact copy_none w t u _ e (hC e te hte) _ _ _ _ _ _ ((hC t ti hti).sl hk) hmin
       ·next n hs1 hs2 hmin =>
        split at h
        ·next l hl =>
         split at h
         ·next hp' hw =>
          simp only [Option.some.injEq] at h;subst h
          have e1:=Nat.eq_of_beq_eq_true hs1
          have e2:=Nat.eq_of_beq_eq_true hs2
          obtain⟨b1,o1,N1,vs,hφ1,g1,g2,g3,g4,_⟩:=rd_ok hr hl
          obtain⟨b2,o2,N2,hφ2,hst,_,_,hrel,hstep⟩:=wr_ok (P:=P) hr g1 hw
          generalize hq1:a.eval x=q1 at hbx
          generalize hq2:a.eval y=q2 at hby
          cases hbx with
          | @sl _ _ _ _ _ _ _ _ cc1 _ k1 _ _ _ _ =>
           rw [hφ2] at k1;cases k1
           cases hby with
           | @sl _ _ _ _ _ _ _ _ cc2 _ k2 _ _ _ _ =>
            rw [hφ1] at k2;cases k2
            have:=copy_run w t u o.type e (hC e te hte) b2 (o2+off) len cc1 ⟨b1,o1+off',none⟩ len' cc2 (n+1) vs ((hC t ti hti).sl hk) hmin.symm (by rw [g3,e1])
             (fun j v hv=>by rw [Addr.add_mid];exact g2 j v hv) (hst ())
            refine⟨φ,goInt ((n+1:Nat):Int),_,_,?_,.inl rfl,.int .i64 _,hrel,hstep⟩
            rw [hcs,hat,hag,hq1,hq2];simp only [builtin,Sem.run_bind,this];rfl
           | sl0 _=>simp at hmin
          | sl0 _=>simp at hmin
         ·simp at h
        ·simp at h
       ·simp at h
      ·simp at h
     ·simp at h
    ·next ti id off len cap ex sz hti hx hy =>
     have hbx:=ev_rel hg ht hx
     have hby:=(ev_rel hg ht hy).inv_nsl
     split at h
     ·next e hk =>
      split at h
      ·next te hte =>
       simp only [Option.some.injEq] at h;subst h
       refine fin w ?_ rfl
       rw [hby]
       generalize a.eval x=q1 at hbx
       cases hbx<;>exact copy_none w t u _ e (hC e te hte) _ _ _ _ _ _ ((hC t ti hti).sl hk) (Nat.zero_min _)
      ·simp at h
     ·simp at h
    ·next ti id off len cap ex sz hti hx hy =>
     have hbx:=(ev_rel hg ht hx).inv_nsl
     have hby:=ev_rel hg ht hy
     split at h
     ·next e hk =>
      split at h
      ·next te hte =>
       simp only [Option.some.injEq] at h;subst h
       refine fin w ?_ rfl
       rw [hbx]
       generalize a.eval y=q1 at hby
       cases hby<;>exact copy_none w t u _ e (hC e te hte) _ _ _ _ _ _ ((hC t ti hti).sl hk) (Nat.min_zero _)
      ·simp at h
     ·simp at h
    ·next ti hti hx hy =>
     have hbx:=(ev_rel hg ht hx).inv_nsl
     have hby:=(ev_rel hg ht hy).inv_nsl
     split at h
     ·next e hk =>
      split at h
      ·next te hte =>
       simp only [Option.some.injEq] at h;subst h
       refine fin w ?_ rfl
       rw [hbx,hby]
       exact copy_none w t u _ e (hC e te hte) _ _ _ _ _ _ ((hC t ti hti).sl hk) rfl
      ·simp at h
     ·simp at h
    ·simp at h
   ·simp at h
  ·next hc =>
   obtain⟨cs,hcs⟩:=run_builtin (P:=P) (ρ:=a.eval) ho hc w
   split at h
   ·next m k t tl hargs htys =>
    have hat:=types_get htys
    split at h
    ·next ti id kv hti hm hk =>
     split at h
     ·next kt et hkk =>
      split at h
      ·next tk es clk htk hes =>
       split at h
       ·next hko =>
        split at h
        ·next es' hd =>
         simp only [Option.some.injEq] at h;subst h
         have hargs':c.args.map a.eval=#[a.eval m,a.eval k]:=by
          have:c.args=#[m,k]:=by rw [← Array.toArray_toList (xs:=c.args),hargs]
          rw [this];simp
         obtain⟨w',h1,h2,h3⟩:=del_ok (P:=P) hC hr hti hkk htk hes (ev_rel hg ht hm) hko (ev_rel hg ht hk) hd o.type c.argTypes hat
         refine⟨φ,.tuple #[],w',_,?_,.inl rfl,undef_rel,h2,h3⟩
         rw [hcs,hargs']
         simp only [builtin,Sem.run_bind,h1]
         rfl
        ·simp at h
       ·simp at h
      ·simp at h
     ·simp at h
    ·simp at h
   ·simp at h
  ·next hc =>
   obtain⟨cs,hcs⟩:=run_builtin (P:=P) (ρ:=a.eval) ho hc w
   split at h
   ·next x t tl hargs htys =>
    have hat:=types_get htys
    have hag:(c.args.map a.eval)[0]?=some (a.eval x):=args_get hargs
    split at h
    ·next ti v hti hx =>
     have hb:=ev_rel hg ht hx
     have fin:(Builtin.clear_ c.argTypes o.type (c.args.map a.eval)).run P w=.ok (.tuple #[]) w→ChgOk P φ hp.get nx w a.eval o ⟨undefA,hp,nx⟩:=by
      intro hw
      refine .same hr (v':=.tuple #[]) undef_rel ?_
      rw [hcs];simp only [builtin,Sem.run_bind,hw];rfl
     split at h
     ·next e hk =>
      simp only [Option.some.injEq] at h;subst h
      refine fin ?_
      simp only [Builtin.clear_,hat,hag,Sem.run_bind,run_underlying ((hC t ti hti).sl hk),Result.andThen_ok,hb.inv_nsl]
      rfl
     ·next e id off cap ex sz hk =>
      simp only [Option.some.injEq] at h;subst h
      refine fin ?_
      generalize a.eval x=q at hb hag
      cases hb <;>
      ·simp only [Builtin.clear_,hat,hag,Sem.run_bind,run_underlying ((hC t ti hti).sl hk),Result.andThen_ok]
       rfl
     ·next e id off n cap ex sz hk =>
      split at h
      ·next te hte =>
       split at h
       ·next hp' h1 h2 hw =>
        simp only [Option.some.injEq] at h;subst h
        obtain⟨z,hz,hzr,_⟩:=(hC e te hte).zeroValue w φ
        have hzc:(Builtin.zeroCells z.cells (n+1))=(Array.range ((n+1)*z.cells.size)).map (fun i=>z.cells[i%z.cells.size]!):=rfl
        obtain⟨b,o',N,hφ,hst,_,_,hrel,hstep⟩:=wr_ok (P:=P) hr (made_reps hzr (n+1)) hw
        generalize hq:a.eval x=q at hb hag
        cases hb with
        | sl k1 _ _ _ _ =>
         rw [hφ] at k1;cases k1
         refine⟨φ,.tuple #[],_,_,?_,.inl rfl,undef_rel,hrel,hstep⟩
         rw [hcs]
         simp only [builtin,Sem.run_bind,Builtin.clear_,hat,hag,run_underlying ((hC t ti hti).sl hk),Result.andThen_ok,hz,hzc,hst ()]
         rfl
       ·simp at h
      ·simp at h
     ·simp at h
    ·simp at h
   ·simp at h
  ·simp at h
 ·simp at h
end
end Ev
namespace Ev
open Go
set_option linter.unusedSimpArgs false
set_option linter.unusedVariables false
def CallOK (P:Program) (C:Ctx) (f:FuncId) (args:List AV) (H:Hp) (nx:Nat) (v:AV) (H':Hp) (nx':Nat):Prop :=
 ∀ (φ:Phi) (w:World) (args':Array Value),Rel φ H nx w→BOk C φ H w→VRels φ args args'.toList →
  Calls P f args' w fun e w'=>∃ v' φ',e=.returned v'∧VRel φ' v v'∧Rel φ' H' nx' w'∧Step φ H nx w φ' H' nx' w'
def Fw (r:Option Nat):Fence:={ Fence.wide with round:=r }
theorem callsIn_fw {r:Option Nat} {n:Nat} {P:Program} {f:FuncId} {args:Array Value} {w:World} {R:Ending→World→Prop} (h:Calls P f args w R):CallsIn (Fw r) n P f args w R :=
 (callsIn_wide (n:=n)).2 h
theorem calls_fw {r:Option Nat} {n:Nat} {P:Program} {f:FuncId} {args:Array Value} {w:World} {R:Ending→World→Prop} (h:CallsIn (Fw r) n P f args w R):Calls P f args w R :=
 (callsIn_wide (n:=n)).1 h
def OpOK (P:Program) (C:Ctx) (o:Oper) (tm:T AV) (H:Hp) (nx:Nat) (v:AV) (H':Hp) (nx':Nat):Prop :=
 ∀ (φ:Phi) (w:World) (a:Act),Rel φ H nx w→BOk C φ H w→TRel φ tm a.tmps→∀ (r:Option Nat) (n:Nat) (K:Act→World→Prop) (Q:Exit→Act→World→Prop),
  (∀ φ' v' w',VRel φ' v v'→Rel φ' H' nx' w'→Step φ H nx w φ' H' nx' w'→K (a.put o.dst v') w')→o.wpIn (Fw r) n P a w K Q
def YieldOK (P:Program) (C:Ctx) (id:Nat) (args:List AV) (H:Hp) (nx:Nat) (v:AV) (H':Hp) (nx':Nat):Prop :=
 ∀ (φ:Phi) (w:World) (args':Array Value) (b:Nat),Rel φ H nx w→BOk C φ H w→VRels φ args args'.toList→φ id=some (.obj b) →
  ∃ f tmps assign body,(Instr.yield b args').run P w=.ok (.round b f tmps assign body) w∧∀ r n,RoundIn (Fw r) n P b f tmps assign body w fun e w' =>
   ∃ v' φ',e=.returned v'∧VRel φ' v v'∧Rel φ' H' nx' w'∧Step φ H nx w φ' H' nx' w'
section
variable {P:Program} {C:Ctx}
theorem wpIn_fw {r:Option Nat} {n:Nat} {o:Oper} {a:Act} {w:World} {K:Act→World→Prop} {Q:Exit→Act→World→Prop} (hd:∀ c,o.op≠.defer c) (h:o.uponIn (Fw r) n P a K Q ((execOp a.eval o).run P w)):o.wpIn (Fw r) n P a w K Q :=
 ⟨fun _ _=>trivial,by rw [Oper.semAt_eq _ _ _ hd];exact h⟩
theorem OpOK.val (hC:CtxOk P C) {o:Oper} {tm:T AV} {hp:T Obj} {v:AV} (h:valA C tm hp o=some v) (nx:Nat):OpOK P C o tm hp.get nx v hp.get nx:=by
 intro φ w a hr hg ht r n K Q hK
 obtain⟨v',h1,h2⟩:=valA_ok hC hr hg.gl ht h
 refine wpIn_fw (fun c hc=>by unfold valA at h;rw [hc] at h;simp at h) ?_
 rw [h2,Oper.uponIn_value]
 exact hK φ v' w h1 hr (.refl _ _ _ _)
theorem OpOK.new (hC:CtxOk P C) {o:Oper} {tm:T AV} {hp:T Obj} {nx id nx':Nat} (hid:nx≤id) (hnx:id<nx') {ob:Obj} {v:AV} (h:newA C tm hp id o=some (ob,v)) :
  OpOK P C o tm hp.get nx v (upd hp.get id ob) nx':=by
 intro φ w a hr hg ht r n K Q hK
 obtain⟨v',o',l,h1,h2,h3,h4,h5⟩:=newA_ok hC hr hg.gl ht (hr.fresh hid).1 h
 refine wpIn_fw (fun c hc=>by unfold newA at h;rw [hc] at h;simp at h) ?_
 rw [h1,Oper.uponIn_value]
 obtain⟨h6,h7⟩:=hr.new hid hnx h2 h3 h4
 exact hK _ v' _ h5 h6 h7
theorem OpOK.chg (hC:CtxOk P C) {o:Oper} {tm:T AV} {hp:T Obj} {nx:Nat} {r:R3} (h:chgA C tm hp nx o=some r):OpOK P C o tm hp.get nx r.v r.hp.get r.nx:=by
 intro φ w a hr hg ht r0 n K Q hK
 obtain⟨φ',v',w',nn,h1,h2,h3,h4,h5⟩:=chgA_ok hC hr hg.gl ht h
 refine wpIn_fw (fun c hc=>by unfold chgA at h;rw [hc] at h;simp at h) ?_
 rw [h1]
 rcases h2 with rfl|⟨rfl,rfl⟩
 ·rw [Oper.uponIn_value];exact hK φ' v' w' h3 h4 h5
 ·rw [Oper.uponIn_skip];exact hK φ' undef w' h3 h4 h5
def Enters (P:Program) (f:FuncId):Prop:=∀ (args:Array Value) (w:World),(callFunc f args).run P w=.ok (.enter f args) w
theorem OpOK.call {o:Oper} {c:Call} {x:Operand} {f:FuncId} {first cap args:List AV} {tm:T AV} {H H':Hp} {nx nx':Nat} {v:AV} (ho:o.op=.call c) (hc:c.callee=.value x)
  (hx:ev C tm x=some (.fn (.func f) first cap)) (hargs:evs C tm c.args.toList=some args) (hf:Enters P f) (h:CallOK P C f (first++args++cap) H nx v H' nx') :
  OpOK P C o tm H nx v H' nx':=by
 intro φ w a hr hg ht r n K Q hK
 have hb:=ev_rel hg.gl ht hx
 have hl:=evs_rel hg.gl ht hargs
 refine wpIn_fw (fun c hc=>by rw [ho] at hc;cases hc) ?_
 generalize hq:a.eval x=q at hb
 cases hb with
 | @fn _ _ _ x' y' hx' hy' =>
  have hrun:(execOp a.eval o).run P w=.ok (.enter f (x'++c.args.map a.eval++y')) w:=by
   simp only [execOp,ho,Sem.run_bind,resolve,hc,Deferred.ofValue,hq,Sem.run_pure,Result.andThen_ok,invoke]
   exact hf _ _
  rw [hrun,Oper.uponIn_enter]
  refine⟨fun q=>by simp [Fw,Fence.wide] at q,callsIn_fw ((h φ w (x'++c.args.map a.eval++y') hr hg ?_).mono ?_)⟩
  ·simp only [Array.toList_append,Array.toList_map]
   exact(hx'.append hl).append hy'
  ·rintro e w' ⟨v',φ',rfl,h1,h2,h3⟩
   exact hK φ' v' w' h1 h2 h3
theorem OpOK.yield {o:Oper} {c:Call} {x:Operand} {id:Nat} {args:List AV} {tm:T AV} {H H':Hp} {nx nx':Nat} {v:AV} (ho:o.op=.call c) (hc:c.callee=.value x)
  (hx:ev C tm x=some (.yld id)) (hargs:evs C tm c.args.toList=some args) (h:YieldOK P C id args H nx v H' nx'):OpOK P C o tm H nx v H' nx':=by
 intro φ w a hr hg ht r n K Q hK
 have hb:=ev_rel hg.gl ht hx
 have hl:=evs_rel hg.gl ht hargs
 refine wpIn_fw (fun c hc=>by rw [ho] at hc;cases hc) ?_
 generalize hq:a.eval x=q at hb
 cases hb with
 | @yld _ b hφ =>
  obtain⟨f,tmps,assign,body,h1,h2⟩:=h φ w (c.args.map a.eval) b hr hg (by simpa using hl) hφ
  have hrun:(execOp a.eval o).run P w=.ok (.round b f tmps assign body) w:=by
   simp only [execOp,ho,Sem.run_bind,resolve,hc,Deferred.ofValue,hq,Sem.run_pure,Result.andThen_ok,invoke]
   simpa using h1
  rw [hrun,Oper.uponIn_round]
  refine⟨fun q=>by simp [Fw,Fence.wide] at q,(h2 r (n - 1)).mono ?_⟩
  rintro e w' ⟨v',φ',rfl,h3,h4,h5⟩
  exact hK φ' v' w' h3 h4 h5
def un (E H:Hp):Hp:=fun i=>match E i with|some x=>some x|none=>H i
theorem un_some {E H:Hp} {i:Nat} {x:Obj} (h:E i=some x):un E H i=some x:=by simp [un,h]
theorem un_none {E H:Hp} {i:Nat} (h:E i=none):un E H i=H i:=by simp [un,h]
theorem Step.frame {φ φ':Phi} {E H H':Hp} {nx nx':Nat} {w w':World} (hr:Rel φ (un E H) nx w) (hd:∀ i x,E i=some x→H i=none) (hr':Rel φ' H' nx' w') (hs:Step φ H nx w φ' H' nx' w') :
  Rel φ' (un E H') nx' w'∧Step φ (un E H) nx w φ' (un E H') nx' w':=by
 have hsub:∀ i x,H i=some x→un E H i=some x:=by
  intro i x hi
  cases he:E i with
  | none=>rw [un_none he];exact hi
  | some y=>rw [hd i y he] at hi;simp at hi
 have hblk:∀ i x l,E i=some x→φ i=some l→w'.heap[l.block]?=w.heap[l.block]?:=by
  intro i x l he hl
  refine hs.keeps.block l.block (hr.lt i l hl).2 ?_
  rintro⟨j,y,m,h1,h2,h3,h4⟩
  have hne:j≠i:=fun e=>by subst e;rw [hd _ _ he] at h1;simp at h1
  exact hr.sep j i y x m l (hsub j y h1) (un_some he) hne h2 h3 hl h4
 have hE:∀ i x,E i=some x→∃ l,φ i=some l∧φ' i=some l∧ORel φ w x l:=by
  intro i x he
  obtain⟨l,h1,h2⟩:=hr.dom i x (un_some he)
  exact⟨l,h1,hs.le _ _ h1,h2⟩
 refine⟨⟨hr'.lt,hr'.shp,?_,?_⟩,⟨hs.grow,hs.born,hs.le,⟨hs.keeps.os,hs.keeps.tape,hs.keeps.output,hs.keeps.size,hs.keeps.shape,?_⟩,?_,?_⟩⟩
 ·intro i ob hi
  cases he:E i with
  | some x =>
   rw [un_some he] at hi;simp at hi;subst hi
   obtain⟨l,h1,h2,h3⟩:=hE i x he
   exact⟨l,h2,h3.mono hs.le (hblk i x l he h1)⟩
  | none=>rw [un_none he] at hi;exact hr'.dom i ob hi
 ·intro i j a b l m hi hj hne hown hl hm
  cases hei:E i with
  | some x =>
   rw [un_some hei] at hi;simp at hi;subst hi
   obtain⟨li,h1,h2,h3⟩:=hE i x hei
   rw [h2] at hl;cases hl
   cases hej:E j with
   | some y =>
    rw [un_some hej] at hj;simp at hj;subst hj
    obtain⟨lj,h4,h5,h6⟩:=hE j y hej
    rw [h5] at hm;cases hm
    exact hr.sep i j x y l m (un_some hei) (un_some hej) hne hown h1 h4
   | none =>
    rw [un_none hej] at hj
    intro e
    have hlt:m.block<w.heap.size:=by rw [← e];exact(hr.lt i l h1).2
    obtain⟨j0,y,lj,h4,h5,h6⟩:=hs.live m.block hlt ⟨j,b,m,hj,hm,rfl⟩
    have hne0:i≠j0:=fun q=>by subst q;rw [hd _ _ hei] at h4;simp at h4
    exact hr.sep i j0 x y l lj (un_some hei) (hsub j0 y h4) hne0 hown h1 h5 (e.trans h6.symm)
  | none =>
   rw [un_none hei] at hi
   cases hej:E j with
   | some y =>
    rw [un_some hej] at hj;simp at hj;subst hj
    obtain⟨lj,h4,h5,h6⟩:=hE j y hej
    rw [h5] at hm;cases hm
    intro e
    have hlt:l.block<w.heap.size:=by rw [e];exact(hr.lt j m h4).2
    obtain⟨i0,x,li,h7,h8,h9,h10⟩:=hs.own l.block hlt ⟨i,a,l,hi,hown,hl,rfl⟩
    have hne0:i0≠j:=fun q=>by subst q;rw [hd _ _ hej] at h7;simp at h7
    exact hr.sep i0 j x y li m (hsub i0 x h7) (un_some hej) hne0 h8 h9 h4 (h10.trans e)
   | none =>
    rw [un_none hej] at hj
    exact hr'.sep i j a b l m hi hj hne hown hl hm
 ·intro k hk hn
  exact hs.keeps.block k hk fun⟨i,x,l,h1,h2,h3,h4⟩=>hn ⟨i,x,l,hsub i x h1,h2,h3,h4⟩
 ·rintro k hk ⟨i,x,l,h1,h2,h3,h4⟩
  cases he:E i with
  | some y =>
   rw [un_some he] at h1;simp at h1;subst h1
   obtain⟨li,h5,h6,h7⟩:=hE i y he
   rw [h6] at h3;cases h3
   exact⟨i,y,l,un_some he,h2,h5,h4⟩
  | none =>
   rw [un_none he] at h1
   obtain⟨i0,y,li,h5,h6,h7,h8⟩:=hs.own k hk ⟨i,x,l,h1,h2,h3,h4⟩
   exact⟨i0,y,li,hsub i0 y h5,h6,h7,h8⟩
 ·rintro k hk ⟨i,x,l,h1,h3,h4⟩
  cases he:E i with
  | some y =>
   rw [un_some he] at h1;simp at h1;subst h1
   obtain⟨li,h5,h6,h7⟩:=hE i y he
   rw [h6] at h3;cases h3
   exact⟨i,y,l,un_some he,h5,h4⟩
  | none =>
   rw [un_none he] at h1
   obtain⟨i0,y,li,h5,h7,h8⟩:=hs.live k hk ⟨i,x,l,h1,h3,h4⟩
   exact⟨i0,y,li,hsub i0 y h5,h7,h8⟩
theorem OpOK.frame {o:Oper} {tm:T AV} {E H H':Hp} {nx nx':Nat} {v:AV} (h:OpOK P C o tm H nx v H' nx') (hd:∀ i x,E i=some x→H i=none):OpOK P C o tm (un E H) nx v (un E H') nx':=by
 intro φ w a hr hg ht r n K Q hK
 have hsub:∀ i x,H i=some x→un E H i=some x:=by
  intro i x hi
  cases he:E i with
  | none=>rw [un_none he];exact hi
  | some y=>rw [hd i y he] at hi;simp at hi
 refine h φ w a (hr.less hsub (Nat.le_refl _)) (hg.less hsub) ht r n K Q ?_
 intro φ' v' w' h1 h2 h3
 obtain⟨h4,h5⟩:=Step.frame hr hd h2 h3
 exact hK φ' v' w' h1 h4 h5
theorem CallOK.frame {f:FuncId} {args:List AV} {E H H':Hp} {nx nx':Nat} {v:AV} (h:CallOK P C f args H nx v H' nx') (hd:∀ i x,E i=some x→H i=none):CallOK P C f args (un E H) nx v (un E H') nx':=by
 intro φ w args' hr hg ha
 have hsub:∀ i x,H i=some x→un E H i=some x:=by
  intro i x hi
  cases he:E i with
  | none=>rw [un_none he];exact hi
  | some y=>rw [hd i y he] at hi;simp at hi
 refine(h φ w args' (hr.less hsub (Nat.le_refl _)) (hg.less hsub) ha).mono ?_
 rintro e w' ⟨v',φ',rfl,h1,h2,h3⟩
 obtain⟨h4,h5⟩:=Step.frame hr hd h2 h3
 exact⟨v',φ',rfl,h1,h4,h5⟩
theorem CallOK.less {f:FuncId} {args:List AV} {H H' H'':Hp} {nx nx' nx'':Nat} {v:AV} (h:CallOK P C f args H nx v H' nx') (hs:∀ i ob,H'' i=some ob→H' i=some ob) (hn:nx'≤nx'') :
  CallOK P C f args H nx v H'' nx'':=by
 intro φ w args' hr hg ha
 refine(h φ w args' hr hg ha).mono ?_
 rintro e w' ⟨v',φ',rfl,h1,h2,h3⟩
 exact⟨v',φ',rfl,h1,h2.less hs hn,⟨Nat.le_trans h3.grow hn,h3.born,h3.le,h3.keeps,fun k hk ⟨i,x,l,a,b,c,d⟩=>h3.own k hk ⟨i,x,l,hs i x a,b,c,d⟩,fun k hk ⟨i,x,l,a,c,d⟩=>h3.live k hk ⟨i,x,l,hs i x a,c,d⟩⟩⟩
end
inductive DA where
 | mark (id:Nat)
 | call (f:FuncId) (args cap:List AV)
structure St where
 tm:T AV
 hp:T Obj
 nx:Nat
 df:List DA
noncomputable def putT (tm:T AV) (d:Option Tmp) (v:AV):T AV:=match d with|some d=>tm.set d v|none=>tm
def dstOk (nt:Nat) (d:Option Tmp):Prop:=∀ t,d=some t→t<nt
noncomputable def wantedA (ops:List Oper) (tm:T AV) (o:Oper):Option Bool :=
 match o.guard with
 | none=>some true
 | some g=>match nth ops g.1 with
  | none=>some false
  | some og=>match og.dst with
   | none=>some false
   | some d=>match tm.get d with
    | none=>none
    | some (.bool b)=>some (match b,g.2 with|true,true|false,false=>true|_,_=>false)
    | some (.val _)=>none
    | some _=>some false
section
variable {P:Program} {C:Ctx} {φ:Phi}
theorem TRel.put {tm:T AV} {a:Act} (h:TRel φ tm a.tmps) {d:Option Tmp} {nt:Nat} (hn:a.tmps.size=nt) (hd:dstOk nt d) {v:AV} {v':Value} (hv:VRel φ v v'):TRel φ (putT tm d v) (a.put d v').tmps:=by
 cases d with
 | none=>exact h
 | some d =>
  intro t u hu
  change (tm.set d v).get t=some u at hu
  rw [T.get_set] at hu
  show ∃ v',(a.tmps.setIfInBounds d _)[t]?=_∧_
  by_cases e:d=t
  ·subst e
   rw [if_pos rfl] at hu
   cases hu
   exact⟨v',by
    have:=hd d rfl
    show(a.tmps.setIfInBounds d v')[d]?=some v'
    simp only [Array.getElem?_setIfInBounds]
    rw [if_pos trivial,if_pos (by rw [hn];exact this)],hv⟩
  ·rw [if_neg e] at hu
   obtain⟨u',h1,h2⟩:=h t u hu
   exact⟨u',by rw [Array.getElem?_setIfInBounds_ne e];exact h1,h2⟩
theorem put_size (a:Act) (d:Option Tmp) (v:Value):(a.put d v).tmps.size=a.tmps.size:=by cases d<;>simp [Act.put]
theorem put_defers (a:Act) (d:Option Tmp) (v:Value):(a.put d v).defers=a.defers:=by cases d<;>rfl
theorem yielded_bool {ops:Array Oper} {tmps:Array Value} {j:Nat} {oj:Oper} {d:Nat} (hj:ops[j]?=some oj) (hd:oj.dst=some d) {v:AV} {v':Value} (ht:tmps[d]?=some v') (hv:VRel φ v v') (hn:∀ u,v≠.val u) :
  yielded ops tmps j=match v with|.bool b=>some b|_=>none:=by
 unfold yielded
 simp only [hj,Option.bind_some,hd,ht]
 cases hv<;>first|rfl|exact(hn _ rfl).elim
theorem wanted_ok {ops:Array Oper} {tm:T AV} {tmps:Array Value} (ht:TRel φ tm tmps) {o:Oper} {b:Bool} (h:wantedA ops.toList tm o=some b):Region.wanted o (yielded ops tmps)=b:=by
 unfold wantedA at h
 unfold Region.wanted
 cases hg:o.guard with
 | none=>rw [hg] at h;simp at h;simp [h]
 | some g =>
  rw [hg] at h
  obtain⟨j,want⟩:=g
  simp only at h ⊢
  rw [nth_eq,Array.getElem?_toList] at h
  cases hj:ops[j]? with
  | none =>
   rw [hj] at h
   simp at h;subst h
   unfold yielded;simp [hj]
  | some oj =>
   rw [hj] at h
   simp only at h
   cases hd:oj.dst with
   | none =>
    rw [hd] at h
    simp at h;subst h
    unfold yielded;simp [hj,hd]
   | some d =>
    rw [hd] at h
    simp only at h
    cases hv:tm.get d with
    | none=>rw [hv] at h;simp at h
    | some v =>
     rw [hv] at h
     obtain⟨v',h1,h2⟩:=ht d v hv
     rw [yielded_bool hj hd h1 h2 (fun u q=>by subst q;simp at h)]
     cases v<;>simp only [Option.some.injEq,reduceCtorEq] at h<;>subst h<;>try rfl
     next b0=>cases b0<;>cases want<;>rfl
inductive DRel (φ:Phi):DA→Deferred→Prop
 | mark {id b:Nat} (h:φ id=some (.obj b)):DRel φ (.mark id) { target:=.collected b,args:=#[] }
 | call {f:FuncId} {args cap:List AV} {args' cap':Array Value} (ha:VRels φ args args'.toList) (hc:VRels φ cap cap'.toList):DRel φ (.call f args cap) { target:=.fn (.func f) cap',args:=args' }
inductive DRels (φ:Phi):List DA→List Deferred→Prop
 | nil:DRels φ [] []
 | cons {d:DA} {d':Deferred} {l:List DA} {l':List Deferred} (h:DRel φ d d') (t:DRels φ l l'):DRels φ (d::l) (d'::l')
theorem DRel.mono {φ ψ:Phi} (hle:Le φ ψ) {d:DA} {d':Deferred} (h:DRel φ d d'):DRel ψ d d':=by
 cases h with
 | mark h=>exact .mark (hle _ _ h)
 | call ha hc=>exact .call (ha.mono hle) (hc.mono hle)
theorem DRels.mono {φ ψ:Phi} (hle:Le φ ψ) {d:List DA} {d':List Deferred} (h:DRels φ d d'):DRels ψ d d':=by
 induction h with
 | nil=>exact .nil
 | cons h _ ih=>exact .cons (h.mono hle) ih
inductive OpsR (P:Program) (C:Ctx) (nt:Nat) (rd:Bool) (ops:List Oper):List Oper→St→St→Prop
 | nil (st:St):OpsR P C nt rd ops [] st st
 | skip {o:Oper} {l:List Oper} {st st':St} (hw:wantedA ops st.tm o=some false) (hd:dstOk nt o.dst) (h:OpsR P C nt rd ops l { st with tm:=putT st.tm o.dst undefA } st'):OpsR P C nt rd ops (o::l) st st'
 | step {o:Oper} {l:List Oper} {st st':St} {v:AV} {hp':T Obj} {nx':Nat} (hw:wantedA ops st.tm o=some true) (hd:dstOk nt o.dst) (ho:OpOK P C o st.tm st.hp.get st.nx v hp'.get nx')
   (h:OpsR P C nt rd ops l { tm:=putT st.tm o.dst v,hp:=hp',nx:=nx',df:=st.df } st'):OpsR P C nt rd ops (o::l) st st'
 | off {o:Oper} {l:List Oper} {st st':St} {c:Call} {x:Operand} {f:FuncId} {first cap args:List AV} (hrd:rd=false) (hw:wantedA ops st.tm o=some true) (hd:dstOk nt o.dst) (ho:o.op=.defer c) (hc:c.callee=.value x)
   (hx:ev C st.tm x=some (.fn (.func f) first cap)) (ha:evs C st.tm c.args.toList=some args)
   (h:OpsR P C nt rd ops l { st with tm:=putT st.tm o.dst undefA,df:=.call f (first++args) cap::st.df } st'):OpsR P C nt rd ops (o::l) st st'
theorem defer_ok {o:Oper} {c:Call} {x:Operand} {f:FuncId} {first cap args:List AV} {tm:T AV} {a:Act} {w:World} (ho:o.op=.defer c) (hc:c.callee=.value x) (hg:GOk C φ) (ht:TRel φ tm a.tmps)
  (hx:ev C tm x=some (.fn (.func f) first cap)) (hargs:evs C tm c.args.toList=some args):∃ d,(execOp a.eval o).run P w=.ok (.defer d) w∧DRel φ (.call f (first++args) cap) d:=by
 have hb:=ev_rel hg ht hx
 have hl:=evs_rel hg ht hargs
 generalize hq:a.eval x=q at hb
 cases hb with
 | @fn _ _ _ x' y' hx' hy' =>
  refine⟨{ target:=.fn (.func f) y',args:=x'++c.args.map a.eval },?_,.call ?_ hy'⟩
  ·simp only [execOp,ho,Sem.run_bind,resolve,hc,Deferred.ofValue,hq,Sem.run_pure,Result.andThen_ok]
  ·simp only [Array.toList_append,Array.toList_map]
   exact hx'.append hl
structure Lies (C:Ctx) (nt:Nat) (φ:Phi) (st:St) (a:Act) (w:World):Prop where
 rel:Rel φ st.hp.get st.nx w
 glob:BOk C φ st.hp.get w
 tmps:TRel φ st.tm a.tmps
 size:a.tmps.size=nt
 defers:DRels φ st.df a.defers
theorem ops_sound {nt:Nat} {rd:Bool} {ops:Array Oper} {l:List Oper} {st st':St} (h:OpsR P C nt rd ops.toList l st st'):∀ (i:Nat),ops.toList.drop i=l→∀ (φ:Phi) (a:Act) (w:World),Lies C nt φ st a w →
  ∀ (r:Option Nat) (n:Nat),(rd=false→r=none)→∀ Q:Exit→Act→World→Prop,(∀ φ' a' w',Lies C nt φ' st' a' w'→Step φ st.hp.get st.nx w φ' st'.hp.get st'.nx w'→Q .normal a' w')→wpOpsIn (Fw r) n P ops Q (List.range' i l.length) a w:=by
 induction h with
 | nil st =>
  intro i hi φ a w hl r n hr Q hQ
  exact hQ φ a w hl (.refl _ _ _ _)
 | @skip o l st st' hw hd h ih =>
  intro i hi φ a w hl r n hr Q hQ
  have ho:ops[i]?=some o:=by
   rw [← Array.getElem?_toList]
   have:=congrArg (fun l:List Oper=>l[0]?) hi
   simpa [List.getElem?_drop] using this
  have hi':ops.toList.drop (i+1)=l:=by
   have:=congrArg (fun l:List Oper=>l.drop 1) hi
   simpa [List.drop_drop,Nat.add_comm] using this
  rw [List.length_cons,List.range'_succ,wpOpsIn_cons]
  simp only [wpOpIn,ho,wanted_ok hl.tmps hw,Bool.false_eq_true,if_false]
  refine⟨fun _ _=>trivial,ih (i+1) hi' φ (a.put o.dst undef) w ⟨hl.rel,hl.glob,hl.tmps.put hl.size hd undef_rel,by rw [put_size];exact hl.size,by rw [put_defers];exact hl.defers⟩ r n hr Q ?_⟩
  intro φ' a' w' h1 h3
  exact hQ φ' a' w' h1 h3
 | @step o l st st' v hp' nx' hw hd ho' h ih =>
  intro i hi φ a w hl r n hr Q hQ
  have ho:ops[i]?=some o:=by
   rw [← Array.getElem?_toList]
   have:=congrArg (fun l:List Oper=>l[0]?) hi
   simpa [List.getElem?_drop] using this
  have hi':ops.toList.drop (i+1)=l:=by
   have:=congrArg (fun l:List Oper=>l.drop 1) hi
   simpa [List.drop_drop,Nat.add_comm] using this
  rw [List.length_cons,List.range'_succ,wpOpsIn_cons]
  simp only [wpOpIn,ho,wanted_ok hl.tmps hw,if_true]
  refine ho' φ w a hl.rel hl.glob hl.tmps r n _ _ ?_
  intro φ' v' w' h1 h2 h3
  refine ih (i+1) hi' φ' (a.put o.dst v') w' ⟨h2,hl.glob.step h3,(hl.tmps.mono h3.le).put hl.size hd h1,by rw [put_size];exact hl.size,by rw [put_defers];exact hl.defers.mono h3.le⟩ r n hr Q ?_
  intro φ'' a'' w'' h4 h6
  exact hQ φ'' a'' w'' h4 (h3.trans h6)
 | @off o l st st' c x f first cap args hrd hw hd ho' hc hx ha h ih =>
  intro i hi φ a w hl r n hr Q hQ
  have ho:ops[i]?=some o:=by
   rw [← Array.getElem?_toList]
   have:=congrArg (fun l:List Oper=>l[0]?) hi
   simpa [List.getElem?_drop] using this
  have hi':ops.toList.drop (i+1)=l:=by
   have:=congrArg (fun l:List Oper=>l.drop 1) hi
   simpa [List.drop_drop,Nat.add_comm] using this
  rw [List.length_cons,List.range'_succ,wpOpsIn_cons]
  simp only [wpOpIn,ho,wanted_ok hl.tmps hw,if_true]
  obtain⟨d,h1,h2⟩:=defer_ok (P:=P) (w:=w) ho' hc hl.glob.gl hl.tmps hx ha
  have hrn:=hr hrd
  subst hrn
  refine⟨fun _ _=>trivial,?_⟩
  have hsem:(o.semAt (Fw none).round a.eval).run P w=.ok (.defer d) w:=h1
  rw [hsem,Oper.uponIn_defer]
  refine ih (i+1) hi' φ _ w ⟨hl.rel,hl.glob,?_,by rw [put_size];exact hl.size,by rw [put_defers];exact .cons h2 hl.defers⟩ none n (fun _=>rfl) Q hQ
  exact TRel.put (a:={ a with defers:=d::a.defers }) hl.tmps hl.size hd undef_rel
theorem region_sound {nt:Nat} {rd:Bool} {id:Nat} {ops:Array Oper} {st st':St} (h:OpsR P C nt rd ops.toList ops.toList st st') {φ:Phi} {a:Act} {w:World} (hl:Lies C nt φ st a w) {r:Option Nat} {n:Nat} (hr:rd=false→r=none)
  {Q:Exit→Act→World→Prop} (hQ:∀ φ' a' w',Lies C nt φ' st' a' w'→Step φ st.hp.get st.nx w φ' st'.hp.get st'.nx w'→Q .normal a' w'):(Code.region id ops false).wpIn (Fw r) n P Q a w:=by
 refine wpIn_region ?_
 have:=ops_sound h 0 rfl φ a w hl r n hr Q hQ
 rw [Array.length_toList] at this
 rwa [List.range_eq_range']
end
end Ev
