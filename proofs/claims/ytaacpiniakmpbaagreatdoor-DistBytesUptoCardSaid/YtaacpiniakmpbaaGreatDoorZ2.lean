/- The statement's message, read as data: what it is in memory. -/
import Derived.Test.YtaacpiniakmpbaaGreatDoorL
import Derived.Test.YtaacpiniakmpbaaGreatDoorRows
import Derived.Deep.Slices
import Derived.Lib.SmallJoins
import Derived.OpenShut
import Derived.Test.YtaacpiniakmpbaaGreatDoorCards
import Derived.Test.YtaacpiniakmpbaaGreatDoorTie
import Derived.ProofKit
import Derived.Carry
import Derived.Lay
import Derived.Lib.LaidU8
import Derived.Deep.DeepHandedRow
namespace Go.Proofs.YtaacpiniakmpbaaGreatDoor
open Go Ev
set_option linter.unusedSimpArgs false
set_option linter.unusedVariables false
set_option maxRecDepth 10000
theorem bulk_one {H:Type} (d:DataW H):1≤Rows.uptoBulk d:=by
 cases d with
 | lit l=>cases l<;>simp [Rows.uptoBulk]
 | _=>simp [Rows.uptoBulk]
theorem bulk_mem {H:Type} {d:DataW H}:∀ {l:List (DataW H)},d∈l→Rows.uptoBulk d≤Rows.uptoBulkAll l
 | x::r,h=>by
  simp only [Rows.uptoBulkAll]
  rcases List.mem_cons.1 h with e|e
  ·subst e;omega
  ·have:=bulk_mem e;omega
theorem bulk_len {H:Type}:∀ l:List (DataW H),l.length≤Rows.uptoBulkAll l
 | []=>by simp
 | x::r=>by have:=bulk_one x;have:=bulk_len r;simp only [Rows.uptoBulkAll,List.length_cons];omega
theorem cellsB_of {W:World} {base:Nat} {a:Addr} {n:Nat} {cs:List Value} (hn:0<n) (h:W.cells? base a n=some cs):a.spot=none∧cs.length=n∧CellsB (hb W) ⟨a.block,a.off,none⟩ cs:=by
 obtain⟨_,hl,hc⟩:=World.cells?_some h
 have ha0:a.add 0=a:=by simp [Addr.add]
 have h0:=hc 0 hn
 rw [ha0,List.getElem?_eq_getElem (by omega)] at h0
 unfold World.cell? at h0
 split at h0
 ·next c e fz hw =>
  split at h0
  ·cases h0
  ·next hsp =>
   have hs:a.spot=none:=by cases h:a.spot with|none=>rfl|some x=>rw [h] at hsp;simp at hsp
   refine⟨hs,hl,rfl,c,e,fz,hw,fun j v hj=>?_⟩
   have hjn:j<n:=by have:=(List.getElem?_eq_some_iff.1 hj).1;omega
   have h1:=hc j hjn
   rw [hj] at h1
   have hblk:(a.add j).block=a.block∧(a.add j).off=a.off+j∧(a.add j).spot=none:=by
    unfold Addr.add
    split
    ·next q=>subst q;exact⟨rfl,rfl,hs⟩
    ·exact⟨rfl,rfl,rfl⟩
   unfold World.cell? at h1
   rw [hblk.1,hw,hblk.2.1,hblk.2.2] at h1
   simpa using h1
 ·cases h0
theorem add_bo (a:Addr) (n:Nat):(a.add n).block=a.block∧(a.add n).off=a.off+n:=by
 unfold Addr.add
 split
 ·next q=>subst q;exact⟨rfl,rfl⟩
 ·exact⟨rfl,rfl⟩
theorem elAt_of {B:Nat→Option Go.Obj} {b:Nat}:∀ {l:List Tm} {off:Nat},(∀ i t,l[i]?=some t→∃ cs,CellsB B ⟨b,off+i*4,none⟩ cs∧TmAt B t cs)→ElAt B b off l
 | [],_,_=>by unfold ElAt;trivial
 | x::l,off,h=>by
  unfold ElAt
  refine⟨by simpa using h 0 x rfl,elAt_of fun i t ht=>?_⟩
  have:=h (i+1) t (by simpa using ht)
  rwa [show off+(i+1)*4=off+4+i*4 by omega] at this
theorem list_of {P:Nat→Tm→Prop}:∀ {n:Nat},(∀ i,i<n→∃ t,P i t)→∃ l:List Tm,l.length=n∧∀ i t,l[i]?=some t→P i t
 | 0,_=>⟨[],rfl,fun i t h=>by simp at h⟩
 | n+1,h=>by
  obtain⟨l,hl,hp⟩:=list_of (n:=n) fun i hi=>h i (by omega)
  obtain⟨t,ht⟩:=h n (by omega)
  refine⟨l++[t],by simp [hl],fun i u hu=>?_⟩
  rcases Nat.lt_trichotomy i n with q|q|q
  ·rw [List.getElem?_append_left (by omega)] at hu;exact hp i u hu
  ·subst q
   rw [List.getElem?_append_right (by omega),hl] at hu
   simp at hu;subst hu;exact ht
  ·rw [List.getElem?_append_right (by omega)] at hu
   have:i - l.length≠0:=by omega
   simp [List.getElem?_singleton,this] at hu
theorem c3:Tryz.prog.cellsOf 3=1:=by kernel_rfl
theorem c9:Tryz.prog.cellsOf 9=1:=by kernel_rfl
theorem c22:Tryz.prog.cellsOf 22=1:=by kernel_rfl
theorem c24:Tryz.prog.cellsOf 24=4:=by kernel_rfl
theorem c26:Tryz.prog.cellsOf 26=8:=by kernel_rfl
theorem open_tm {H:Type} {enc:TypeId×Value→H} {W:World} {base:Nat} (N:Nat) (hN:N≤1048576):∀ {fuel:Nat} {cs:List Value} {x:DataW H×List MemPlace},DataW.trod enc Tryz.prog W base (fun _=>true) true fuel 24 cs=some x→Rows.uptoBulk x.1≤N →
  ∃ k n s l a m c,cs=[.int .i64 k,.int .i64 n,.string s,.slice a m c]∧TmAt (hb W) (.mk k n s l) cs:=by
 induction N with
 | zero=>intro _ _ x _ h;have:=bulk_one x.1;omega
 | succ N ih =>
  intro fuel cs x h hx
  obtain⟨y0,y1,y2,y3,n0,rfl,hl,h0,h1,h2,h3⟩:=Go.Joins.trod_struct4 Tryz.underlying24 h
  rw [c24] at hl
  match cs,hl with
  | [v0,v1,v2,v3],_ =>
   simp only [c3,c9,c22,List.drop,List.take] at h0 h1 h2 h3
   obtain⟨k,e0,rfl,_⟩:=DataW.trod_int Tryz.underlying3 h0
   obtain⟨n,e1,rfl,_⟩:=DataW.trod_int Tryz.underlying3 h1
   obtain⟨s,e2,rfl,_⟩:=DataW.trod_string Tryz.underlying9 h2
   cases e0;cases e1;cases e2
   simp only [Rows.uptoBulk,Rows.uptoBulkAll] at hx
   have hsz:s.size=s.data.toList.length:=by rw [Array.length_toList];rfl
   rcases DataW.trod_slice Tryz.underlying22 h3 with⟨e3,_⟩|⟨a,len,cap,elems,rest,n1,_,e3,rfl,_,hlc,_,Hn,hel,_⟩
   ·cases e3
    exact⟨k,n,s,[],none,0,0,rfl,TmAt.mk' ⟨rfl,by decide,.inl rfl⟩ (by omega)⟩
   ·cases e3
    simp only [Rows.uptoBulk] at hx
    have hb1:=bulk_len (elems.map (·.1))
    rw [List.length_map,Hn] at hb1
    obtain⟨l,hll,hlp⟩:=list_of (n:=len) (P:=fun i t=>(i=0→a.spot=none)∧∃ cs,CellsB (hb W) ⟨a.block,a.off+i*4,none⟩ cs∧TmAt (hb W) t cs) fun i hi=>by
     have hi2:=hel i hi
     rw [List.getElem?_eq_getElem (by omega),c24,Option.bind_eq_some_iff] at hi2
     obtain⟨cs',g1,g2⟩:=hi2
     have hm:=bulk_mem (List.mem_map_of_mem (f:=(·.1)) (List.getElem_mem (by omega:i<elems.length)))
     obtain⟨k',n',s',l',a',m',c',rfl,ht⟩:=ih (by omega) g2 (by omega)
     obtain⟨hsp,_,hcb⟩:=cellsB_of (by decide) g1
     rw [(add_bo a _).1,(add_bo a _).2] at hcb
     exact⟨.mk k' n' s' l',fun q=>by subst q;simpa [Addr.add] using hsp,_,hcb,ht⟩
    refine⟨k,n,s,l,some a,len,cap,rfl,TmAt.mk' ⟨hll.symm,by omega,?_⟩ (by omega)⟩
    cases l with
    | nil=>exact .inl rfl
    | cons y l =>
     have hsp:=(hlp 0 y rfl).1 rfl
     refine .inr ⟨a.block,a.off,?_,elAt_of fun i t hg=>(hlp i t hg).2⟩
     obtain⟨b,off,sp⟩:=a
     simp only at hsp;subst hsp;rfl
theorem open_mail {H:Type} {enc:TypeId×Value→H} {W:World} {base:Nat} {fuel:Nat} {cs:List Value} {x:DataW H×List MemPlace} (h:DataW.trod enc Tryz.prog W base (fun _=>true) true fuel 26 cs=some x) (hx:Rows.uptoBulk x.1≤1048576) :
  ∃ K o f p k n s l a m c,cs=[.int .i64 K,.int .i64 o,.int .i64 f,.int .i64 p,.int .i64 k,.int .i64 n,.string s,.slice a m c]∧TmAt (hb W) (.mk k n s l) [.int .i64 k,.int .i64 n,.string s,.slice a m c]:=by
 obtain⟨xs,n0,_,rfl,hl,Hn,hf⟩:=DataW.trod_struct Tryz.underlying26 h
 rw [c26] at hl
 match cs,hl,xs,Hn with
 | [v0,v1,v2,v3,v4,v5,v6,v7],_,[y0,y1,y2,y3,y4],_ =>
  have h0:=hf 0 _ rfl
  have h1:=hf 1 _ rfl
  have h2:=hf 2 _ rfl
  have h3:=hf 3 _ rfl
  have h4:=hf 4 _ rfl
  simp only [c3,c24,List.drop,List.take,List.getElem?_cons_zero,List.getElem?_cons_succ] at h0 h1 h2 h3 h4
  obtain⟨K,e0,_,_⟩:=DataW.trod_int Tryz.underlying3 h0
  obtain⟨o,e1,_,_⟩:=DataW.trod_int Tryz.underlying3 h1
  obtain⟨f,e2,_,_⟩:=DataW.trod_int Tryz.underlying3 h2
  obtain⟨p,e3,_,_⟩:=DataW.trod_int Tryz.underlying3 h3
  cases e0;cases e1;cases e2;cases e3
  simp only [List.map_cons,List.map_nil,Rows.uptoBulk,Rows.uptoBulkAll] at hx
  obtain⟨k,n,s,l,a,m,c,e4,ht⟩:=open_tm 1048576 (Nat.le_refl _) h4 (by omega)
  cases e4
  exact⟨K,o,f,p,k,n,s,l,a,m,c,rfl,ht⟩
end Go.Proofs.YtaacpiniakmpbaaGreatDoor
namespace Go.Proofs.YtaacpiniakmpbaaGreatDoor
open Go Ev Go.ChangeShapes Go.WideShapes Go.ChangeAt Go.RowKit
set_option linter.unusedSimpArgs false
set_option linter.unusedVariables false
set_option maxRecDepth 100000
theorem own:ownKnob Tryz.prog.godebug=none:=by kernel_rfl
theorem laidOut:laidOutB Tryz.prog=true:=by kernel_rfl
theorem gCalc:Tryz.prog.globalNamed "riparian/prog.calculations"=some 1:=by kernel_rfl
theorem gCalcType:(Tryz.prog.globals[1]?).map (·.type)=some 628:=by kernel_rfl
theorem gCalcRow:(((begin Tryz.prog (fun _ _=>0) default).world.heap[1]?).bind Go.Obj.row?).isSome=true:=by kernel_rfl
theorem gSize:1<Tryz.prog.globals.size:=of_decide_eq_true (by kernel_rfl)
theorem c628:Tryz.prog.cellsOf 628=6:=by kernel_rfl
theorem str_of {s:ByteArray} {l:List UInt8} (h:s.data.toList=l):s=⟨l.toArray⟩:=by
 subst h;cases s;simp
theorem env_of {W:World} (h:laidMetH Tryz.prog Rows.distBytesUptoRow.laid W) (hs:W.ShapedOpen Tryz.prog):Env W:=by
 rw [MakeChecks.laidMetH_plain _ _ _ (by kernel_rfl)] at h
 obtain⟨g,t,cs,fuel,p,h1,h2,h3,h4⟩:=Lib.laidMet.reads h (n:= "riparian/prog.calculations") (d:=Rows.laid_riparian_prog_calculations) (.tail _ (.tail _ (.tail _ (.tail _ (.head _)))))
 obtain rfl:g=1:=Option.some.inj (h1.symm.trans gCalc)
 obtain rfl:t=628:=Option.some.inj (h2.symm.trans gCalcType)
 obtain⟨⟨z,t0⟩,hz⟩:=Option.isSome_iff_exists.1 gCalcRow
 obtain⟨cs',hw,_⟩:=hs.1 1 z t0 gSize hz
 obtain rfl:cs'=cs:=by
  unfold World.var? at h3
  rw [gCalc] at h3
  simp only [Option.bind_some,hw] at h3
  exact Option.some.inj h3
 obtain⟨xs,m,_,hx,hl,Hn,hel⟩:=DataW.trod_array Tryz.underlying628 h4
 rw [c628] at hl
 have hx1:xs.map (·.1)=[.lit (.string [43]),.lit (.string [45]),.lit (.string [42]),.lit (.string [47]),.lit (.string [109,111,100]),.lit (.string [45])]:=(DataW.agg.inj (Prod.mk.inj hx).1).symm
 have hcs:cs'.toList=[.string ⟨#[43]⟩,.string ⟨#[45]⟩,.string ⟨#[42]⟩,.string ⟨#[47]⟩,.string ⟨#[109,111,100]⟩,.string ⟨#[45]⟩]:=by
  generalize cs'.toList=q at *
  match q,hl,xs,Hn,hx1,hel with
  | [v0,v1,v2,v3,v4,v5],_,[y0,y1,y2,y3,y4,y5],_,hx1,hel =>
   have h0:=hel 0 (by decide)
   have h1:=hel 1 (by decide)
   have h2:=hel 2 (by decide)
   have h3:=hel 3 (by decide)
   have h4:=hel 4 (by decide)
   have h5:=hel 5 (by decide)
   simp only [c9,Nat.zero_mul,Nat.one_mul,Nat.mul_one,List.drop,List.take,List.getElem?_cons_zero,List.getElem?_cons_succ] at h0 h1 h2 h3 h4 h5
   simp only [List.map_cons,List.map_nil,List.cons.injEq,and_true] at hx1
   obtain⟨s0,e0,g0,_⟩:=DataW.trod_string Tryz.underlying9 h0
   obtain⟨s1,e1,g1,_⟩:=DataW.trod_string Tryz.underlying9 h1
   obtain⟨s2,e2,g2,_⟩:=DataW.trod_string Tryz.underlying9 h2
   obtain⟨s3,e3,g3,_⟩:=DataW.trod_string Tryz.underlying9 h3
   obtain⟨s4,e4,g4,_⟩:=DataW.trod_string Tryz.underlying9 h4
   obtain⟨s5,e5,g5,_⟩:=DataW.trod_string Tryz.underlying9 h5
   subst g0 g1 g2 g3 g4 g5
   simp only [DataW.lit.injEq,Lit.string.injEq] at hx1
   obtain⟨a0,a1,a2,a3,a4,a5⟩:=hx1
   cases e0;cases e1;cases e2;cases e3;cases e4;cases e5
   rw [str_of a0,str_of a1,str_of a2,str_of a3,str_of a4,str_of a5]
 refine⟨t0,?_⟩
 rw [hw]
 have:cs'=calcVals:=by
  apply Array.ext'
  rw [hcs];rfl
 rw [this]
def wArgs:Array Value:=#[.agg #[.int .i64 0,.int .i64 0,.int .i64 0,.int .i64 0,.int .i64 0,.int .i64 0,.string ⟨#[]⟩,.slice none 0 0],.string ⟨#[]⟩]
theorem laid_met (os:Os):laidMetH Tryz.prog Rows.distBytesUptoRow.laid ((World.laidAll Tryz.prog os Rows.distBytesUptoRow.laid).forCall (fun _ _=>0) ⟨#[],wArgs,[]⟩).memory:=by
 rw [MakeChecks.laidMetH_plain _ _ _ (by kernel_rfl)]
 exact laidMet_laidAll _ (by kernel_rfl) (by kernel_rfl)
end Go.Proofs.YtaacpiniakmpbaaGreatDoor
