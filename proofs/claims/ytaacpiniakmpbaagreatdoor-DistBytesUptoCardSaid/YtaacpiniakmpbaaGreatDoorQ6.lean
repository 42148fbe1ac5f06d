/- Runs. (Printed by wip/gen/mkruns.py.) -/
import Derived.Test.YtaacpiniakmpbaaGreatDoorP
import Derived.Test.YtaacpiniakmpbaaGreatDoorQ1
import Derived.Test.YtaacpiniakmpbaaGreatDoorQ5
import Derived.Test.YtaacpiniakmpbaaGreatDoorQ2
import Derived.Test.YtaacpiniakmpbaaGreatDoorQ3
import Derived.Test.YtaacpiniakmpbaaGreatDoorK
namespace Go.Proofs.YtaacpiniakmpbaaGreatDoor
open Go Ev Tryz
set_option linter.unusedSimpArgs false
set_option linter.unusedVariables false
noncomputable def p5_t:Pcs:=(.node (.node .leaf none (.node (.node (.node .leaf none (.node .leaf (some [p4]) .leaf)) none .leaf) none .leaf)) none (.node (.node .leaf none (.node .leaf none (.node (.node .leaf (some [p3]) .leaf) none .leaf))) none .leaf))
theorem p5_runs:Piece.runs (callX ctx prims p5_t 1000000 400) p5=true:=by kernel_rfl
theorem p5_ok:p5.Ok Tryz.prog ctx:=Piece.runs_ok (callX_ok prog_ok prims_ok (.of (show AllAt _ p5_t _ from(.none (.none .nil (.none (.none (.none .nil (.one 49 rfl (allP_cons rfl p4_ok allP_nil) .nil .nil)) .nil) .nil)) (.none (.none .nil (.none .nil (.none (.one 44 rfl (allP_cons rfl p3_ok allP_nil) .nil .nil) .nil))) .nil)))) 1000000 400) p5_runs
noncomputable def psane:Piece:=⟨4,[],[calcs],[],[],1,.bool true,134217⟩
noncomputable def psane_t:Pcs:=(.node (.node (.node (.node .leaf none (.node .leaf (some [p6]) .leaf)) none (.node (.node .leaf (some [p5]) .leaf) none .leaf)) none (.node (.node (.node (.node (.node .leaf (some [p28]) .leaf) none .leaf) none .leaf) none .leaf) none .leaf)) none (.node (.node (.node (.node .leaf (some [p0]) .leaf) none .leaf) none (.node .leaf none (.node .leaf (some [p13]) .leaf))) none .leaf))
theorem psane_runs:Piece.runs (callX ctx prims psane_t 1000000 400) psane=true:=by kernel_rfl
theorem psane_ok:psane.Ok Tryz.prog ctx:=Piece.runs_ok (callX_ok prog_ok prims_ok (.of (show AllAt _ psane_t _ from(.none (.none (.none (.none .nil (.one 23 rfl (allP_cons rfl p6_ok allP_nil) .nil .nil)) (.none (.one 19 rfl (allP_cons rfl p5_ok allP_nil) .nil .nil) .nil)) (.none (.none (.none (.none (.one 65 rfl (allP_cons rfl p28_ok allP_nil) .nil .nil) .nil) .nil) .nil) .nil)) (.none (.none (.none (.one 16 rfl (allP_cons rfl p0_ok allP_nil) .nil .nil) .nil) (.none .nil (.one 28 rfl (allP_cons rfl p13_ok allP_nil) .nil .nil))) .nil)))) 1000000 400) psane_runs
theorem sane_calls {n:Nat} (hok:Piece.Ok Tryz.prog ctx ⟨4,[],[calcs],[],[],1,.bool true,n⟩) {w:World} {e:TypeId} (h:w.heap[1]?=some (.cells calcVals e)) :
  Calls Tryz.prog 4 #[] w fun en w'=>en=.returned (.bool true)∧Ev.Kept w w':=by
 obtain⟨_,_,h3⟩:=hok
 let φ:Phi:=fun i=>if i=0 then some (.cells 1 0 6) else none
 have hH:(layT [] (layT [calcs] .leaf)).get=fun i=>if 0=i then some (.ro [.str [43],.str [45],.str [42],.str [47],.str [109,111,100],.str [45]]) else none:=by
  funext i
  show(T.set .leaf 0 _).get i=_
  rw [T.get_set];rfl
 have hlt:1<w.heap.size:=(Array.getElem?_eq_some_iff.1 h).1
 have hφ:∀ i l,φ i=some l→i=0∧l=.cells 1 0 6:=by
  intro i l hi
  simp only [φ] at hi
  split at hi
  ·next e0=>cases hi;exact⟨e0,rfl⟩
  ·cases hi
 have hown:∀ k,¬ OwnB φ (layT [] (layT [calcs] .leaf)).get k:=by
  rintro k ⟨i,ob,l,h1,h2,_,_⟩
  rw [hH] at h1
  simp only at h1
  split at h1
  ·cases h1;cases h2
  ·cases h1
 have hcell:∀ (j:Nat) (v:AV),[AV.str [43],.str [45],.str [42],.str [47],.str [109,111,100],.str [45]][j]?=some v→∃ v',w.cell? ⟨1,0+j,none⟩=some v'∧VRel φ v v':=by
  intro j v hj
  have hc:∀ (x:Value),calcVals[j]?=some x→w.cell? ⟨1,0+j,none⟩=some x:=fun x hx=>by
   simp only [World.cell?,h,Nat.zero_add]
   simpa using hx
  match j,hj with
  | 0,hj=>cases hj;exact⟨_,hc _ rfl,.str ⟨#[43]⟩⟩
  | 1,hj=>cases hj;exact⟨_,hc _ rfl,.str ⟨#[45]⟩⟩
  | 2,hj=>cases hj;exact⟨_,hc _ rfl,.str ⟨#[42]⟩⟩
  | 3,hj=>cases hj;exact⟨_,hc _ rfl,.str ⟨#[47]⟩⟩
  | 4,hj=>cases hj;exact⟨_,hc _ rfl,.str ⟨#[109,111,100]⟩⟩
  | 5,hj=>cases hj;exact⟨_,hc _ rfl,.str ⟨#[45]⟩⟩
  | j+6,hj=>simp at hj
 have hrel:Rel φ (layT [] (layT [calcs] .leaf)).get 1 w:=by
  refine⟨fun i l hi=>?_,fun i b o N hi=>?_,fun i ob hi=>?_,fun i j a b l m hi hj hne ho hl hm=>?_⟩
  ·obtain⟨rfl,rfl⟩:=hφ i l hi;exact⟨Nat.zero_lt_one,hlt⟩
  ·obtain⟨rfl,h1⟩:=hφ i _ hi
   cases h1
   exact⟨e,by simp only [World.shape?,h];rfl⟩
  ·rw [hH] at hi
   simp only at hi
   split at hi
   ·next e0 =>
    subst e0;cases hi
    exact⟨_,rfl,.ro (by decide) hcell⟩
   ·cases hi
  ·rw [hH] at hi
   simp only at hi
   split at hi
   ·cases hi;cases ho
   ·cases hi
 have hg:GOk ctx φ:=fun g hgs=>by
  have hq:false=true:=hgs
  cases hq
 refine(h3 φ w #[] hrel ⟨hg,fun _ _ q=>by cases q⟩ .nil).mono ?_
 rintro en w' ⟨v',φ',rfl,h4,h5,h6⟩
 cases h4
 exact⟨rfl,h6.keeps.os,h6.keeps.tape,h6.keeps.output,h6.keeps.size,fun k hk=>h6.keeps.block k hk (hown k)⟩
theorem sane_ret {w:World} (hE:Env w):Ret Tryz.prog 4 #[] w (.bool true):=let ⟨_,h⟩:=hE;sane_calls psane_ok h
end Go.Proofs.YtaacpiniakmpbaaGreatDoor
