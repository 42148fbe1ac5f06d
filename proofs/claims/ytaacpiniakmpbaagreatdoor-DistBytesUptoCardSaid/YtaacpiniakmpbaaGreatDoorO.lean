/- The seat's functions that the evaluator does not run by itself: strings.Builder's look at itself. -/
import Derived.Test.YtaacpiniakmpbaaGreatDoorJ
import Derived.Test.YtaacpiniakmpbaaGreatDoorG
import Derived.Lib.Builder
import Derived.WalkKit
import Derived.Laws.Externs
import Derived.Lib.Hide
import Derived.Test.YtaacpiniakmpbaaGreatDoorE
set_option linter.unusedVariables false
set_option linter.unusedSimpArgs false
namespace Ev
open Go
theorem liesAt_head {P:Program} {e:TypeId} {count:Nat} (hc:P.cellsOf e≠0) (hn:1≤count):liesAt P P.depth e count 0 e 1=true:=by
 have hd:P.depth=(2*(P.types.size+Made.depth)+1)+1:=rfl
 rw [hd]
 simp only [liesAt,Bool.or_eq_true]
 left
 rw [hd]
 simp [rowAt,hc,hn,sameLayout]
noncomputable def pCopyCheck (tb:Nat) (args:List AV) (hp:T Obj) (nx:Nat):Option R3 :=
 match args with
 | [.ptr id 0]=>match hp.get id with
  | some (.tc t [x,_] _)=>match Nat.beq t tb,x with
   | true,.nptr=>match wrH hp id 0 [.ptr id 0] with
    | some hp'=>T.touchK hp' id fun hp'=>some ⟨.tup [],hp',nx⟩
    | none=>none
   | true,.ptr id' 0=>match Nat.beq id id' with
    | true=>some ⟨.tup [],hp,nx⟩
    | false=>none
   | _,_=>none
  | _=>none
 | _=>none
end Ev
namespace Go.Proofs.YtaacpiniakmpbaaGreatDoor
open Go Ev Go.RowKit Tryz
set_option maxHeartbeats 1000000 in
set_option maxRecDepth 100000 in
theorem cc_used (b:Nat) (w:World) (h0:w.cell? ⟨b,0,none⟩=some (.pointer (some ⟨b,0,none⟩))) :
  Calls Tryz.prog 343 #[.pointer (some ⟨b,0,none⟩)] w fun e w'=>e=.returned (.tuple #[])∧w'=w:=by
 go_enter func343,Tryz.ntmps343
 go_wp2
 rw [Lib.run_neq_ptr_same w _ underlying398 (info?_at type400)]
 go_wp2
 go_end0
 exact⟨rfl,rfl⟩
set_option maxHeartbeats 1000000 in
set_option maxRecDepth 100000 in
theorem cc_fresh (b N:Nat) (w:World) (h0:w.cell? ⟨b,0,none⟩=some (.pointer none)) (hsh:w.shape? b=some (400,N)) (hN:2≤N) (hfz:w.frozen? ⟨b,0,none⟩=false) :
  Calls Tryz.prog 343 #[.pointer (some ⟨b,0,none⟩)] w fun e w'=>e=.returned (.tuple #[])∧w'=w.setCell ⟨b,0,none⟩ (.pointer (some ⟨b,0,none⟩)):=by
 have hcells:Tryz.prog.cellsOf 400=2:=by unfold Program.cellsOf;rw [info?_at type400];rfl
 have hlies:liesAt Tryz.prog Tryz.prog.depth 400 (N / Tryz.prog.cellsOf 400) 0 400 1=true:=liesAt_head (by rw [hcells];decide) (by rw [hcells];omega)
 clear hcells
 have hL:=Lib.hid hlies
 clear hlies
 go_enter func343,Tryz.ntmps343
 go_wp2
 rw [Lib.run_to_unsafe w ⟨b,0,none⟩ underlying398 underlying560 (info?_at type400) (by decide) hsh (by show 0<N;omega)]
 simp only [Result.andThen]
 rw [Oper.upon_value]
 go_wp2
 rw [run_callFunc_extern func416 (by kernel_rfl) (by kernel_rfl) (by kernel_rfl) (e:=Extern.AbiNoEscape.same) (by kernel_rfl)]
 rw [Lib.run_noEscape]
 simp only [Result.andThen]
 rw [Oper.upon_value]
 go_wp2
 rw [Lib.run_from_unsafe w ⟨b,0,none⟩ underlying560 underlying398 (info?_at type400) hsh hL.out]
 simp only [Result.andThen]
 rw [Oper.upon_value]
 go_wp2
 go_end0
 exact⟨rfl,rfl⟩
theorem copyCheck_ok {args:List AV} {hp:T Ev.Obj} {nx:Nat} {r:R3} (h:pCopyCheck 400 args hp nx=some r):nx≤r.nx∧CallOK Tryz.prog ctx 343 args hp.get nx r.v r.hp.get r.nx:=by
 unfold pCopyCheck at h
 split at h
 ·next id =>
  split at h
  ·next t x y fz hob =>
   split at h
   ·next ht =>
    obtain rfl:t=400:=Nat.eq_of_beq_eq_true ht
    split at h
    ·next hp' hw =>
     rw [T.touchK_eq] at h
     simp only [Option.some.injEq] at h;subst h
     refine⟨Nat.le_refl _,fun φ w args' hr hg ha=>?_⟩
     obtain⟨l,k1,k2⟩:=hr.dom id _ hob
     cases k2 with
     | @tc _ _ _ b N hs hN hc hf =>
      have hargs:args'=#[.pointer (some ⟨b,0,none⟩)]:=by
       apply Array.toList_inj.1
       generalize args'.toList=q at ha
       cases ha with
       | cons h1 h2=>cases h2;cases h1 with|ptr h3=>rw [k1] at h3;cases h3;rfl
      subst hargs
      obtain⟨v0,c1,c2⟩:=hc 0 .nptr rfl
      cases c2
      have hv:VRels φ [AV.ptr id 0] [.pointer (some ⟨b,0,none⟩)]:=.cons (by have:=VRel.ptr (φ:=φ) (off:=0) k1;simpa using this) .nil
      obtain⟨b',o',N',m1,m2,m3,m4,m5,m6⟩:=wr_ok (P:=Tryz.prog) hr hv hw
      rw [k1] at m1;cases m1
      refine(cc_fresh b N w (by simpa using c1) hs (by simpa using hN) ?_).mono ?_
      ·have:=(m3 0 (by simp)).2;simpa using this
      ·rintro e w' ⟨rfl,rfl⟩
       exact⟨_,φ,rfl,.tup (x':=#[]) .nil,by simpa [World.setCells] using m5,by simpa [World.setCells] using m6⟩
    ·simp at h
   ·next id' ht =>
    obtain rfl:t=400:=Nat.eq_of_beq_eq_true ht
    split at h
    ·next he =>
     obtain rfl:id=id':=Nat.eq_of_beq_eq_true he
     simp only [Option.some.injEq] at h;subst h
     refine⟨Nat.le_refl _,fun φ w args' hr hg ha=>?_⟩
     obtain⟨l,k1,k2⟩:=hr.dom id _ hob
     cases k2 with
     | @tc _ _ _ b N hs hN hc hf =>
      have hargs:args'=#[.pointer (some ⟨b,0,none⟩)]:=by
       apply Array.toList_inj.1
       generalize args'.toList=q at ha
       cases ha with
       | cons h1 h2=>cases h2;cases h1 with|ptr h3=>rw [k1] at h3;cases h3;rfl
      subst hargs
      obtain⟨v0,c1,c2⟩:=hc 0 (.ptr id 0) rfl
      cases c2 with
      | ptr h3 =>
       rw [k1] at h3;cases h3
       refine(cc_used b w (by simpa using c1)).mono ?_
       rintro e w' ⟨rfl,rfl⟩
       exact⟨_,φ,rfl,.tup (x':=#[]) .nil,hr,.refl _ _ _ _⟩
    ·simp at h
   ·simp at h
  ·simp at h
 ·simp at h
end Go.Proofs.YtaacpiniakmpbaaGreatDoor
namespace Go.Proofs.YtaacpiniakmpbaaGreatDoor
open Go Ev Tryz
set_option linter.unusedSimpArgs false
set_option linter.unusedVariables false
noncomputable def fixedOps:Array Oper:=match Tryz.f327.body with
 | some (.seq _ (.seq (.region _ ops _) _))=>ops
 | _=>#[]
def fixedKeys:List AV:=[.agg [.str [116,114,117,101],.int .i64 0],.agg [.str [61],.int .i64 2],.agg [.str [58,61],.int .i64 2],.agg [.str [64],.int .i64 2],.agg [.str [58,45],.int .i64 2],.agg [.str [58,45],.int .i64 1],.agg [.str [44],.int .i64 2],.agg [.str [124],.int .i64 2],.agg [.str [111,116,104,101,114,119,105,115,101],.int .i64 0],.agg [.str [97,108,116,101,114,110,97,116,105,118,101,108,121],.int .i64 0]]
def fixedK (i:Nat):AV:=fixedKeys.getD i .nif
def fixedV (_:Nat):AV:=.bool true
def fixedEs:List (AV×AV):=fixedKeys.map fun k=>(k,.bool true)
noncomputable def fixedOp0:Array Oper:=match Tryz.f327.body with
 | some (.seq (.region _ ops _) _)=>ops
 | _=>#[]
theorem fixed_lit:LitOk ctx Tryz.f327.ntmps fixedOps 176 263 ti263 1 12 0 10 (fun i=>i+2) fixedK fixedV where
 ti:=⟨_,_,rfl,rfl⟩
 htk:=rfl
 kok:=by intro i hi;rcases i with _|_|_|_|_|_|_|_|_|_|i<;>first|rfl|omega
 keys:=by
  intro i j hi hj h
  rcases i with _|_|_|_|_|_|_|_|_|_|i<;>(try omega)<;>rcases j with _|_|_|_|_|_|_|_|_|_|j<;>first|omega|rfl
 size:=rfl
 ord:=by
  intro i o ho e he hb
  have hs:i<23:=(Array.getElem?_eq_some_iff.1 ho).1
  have hall:∀ i:Fin 23,∀ e∈(fixedOps[i.val]?.map (·.after)).getD #[],e.on<i.val:=by decide
  have:=hall ⟨i,hs⟩
  rw [ho] at this
  exact this e he
 made:=⟨_,rfl,rfl,rfl,rfl⟩
 bld:=by intro i hi;rcases i with _|_|_|_|_|_|_|_|_|_|i<;>first|exact⟨_,rfl,rfl,rfl,fun hp=>rfl⟩|omega
 ins:=by
  intro i hi
  rcases i with _|_|_|_|_|_|_|_|_|_|i<;>first|exact⟨_,_,rfl,rfl,rfl,rfl,fun tm=>rfl,⟨_,List.mem_toArray.2 (List.mem_cons_self ..),rfl,rfl⟩,⟨_,List.mem_toArray.2 (List.mem_cons_of_mem _ (List.mem_cons_self ..)),rfl,rfl⟩⟩|omega
 mv:=⟨_,rfl,rfl,rfl,rfl,_,List.mem_toArray.2 (List.mem_cons_self ..),rfl,rfl⟩
 asg:=⟨_,rfl,rfl,rfl,rfl,_,List.mem_toArray.2 (List.mem_cons_self ..),rfl,rfl⟩
 d0lt:=by decide
 dmlt:=by decide
 dalt:=by decide
 dklt:=by intro i hi;show i+2<Tryz.f327.ntmps;rw [Tryz.ntmps327];omega
 k0:=by intro i hi;omega
 kk:=by intro i j hi hj h;omega
 m0:=by decide
 km:=by intro i hi;omega
 a0:=by decide
 am:=by decide
 ak:=by intro i hi;omega
noncomputable def pFixed (args:List AV) (hp:T Ev.Obj) (nx:Nat):Option R3 :=
 match args with
 | []=>T.setK hp nx (.map fixedEs 10) fun hp'=>fNat (fun nx'=>some ⟨.map nx,hp',nx'⟩) (nx+1)
 | _=>none
theorem fixed_ok {args:List AV} {hp:T Ev.Obj} {nx:Nat} {r:R3} (h:pFixed args hp nx=some r):nx≤r.nx∧CallOK Tryz.prog ctx 327 args hp.get nx r.v r.hp.get r.nx:=by
 unfold pFixed at h
 split at h
 ·rw [T.setK_eq,fNat_eq] at h
  simp only [Option.some.injEq] at h;subst h
  refine⟨Nat.le_succ _,?_⟩
  have hb:Tryz.f327.body=some (.seq (.region 0 fixedOp0 false) (.seq (.region 1 fixedOps true) .ret)):=rfl
  have hc:CallSound Tryz.prog ctx (fun _ _ _ _=>none):=fun _ _ _ _ _ q=>by cases q
  have h0:opsA ctx (fun _ _ _ _=>none) Tryz.f327.ntmps false fixedOp0.toList fixedOp0.toList ⟨.leaf,hp,nx,[]⟩=some ⟨T.set .leaf 0 .nmap,hp,nx,[]⟩:=rfl
  have h1:CodeOK Tryz.prog ctx Tryz.f327.ntmps none (.region 0 fixedOp0 false) ⟨.leaf,hp,nx,[]⟩ .normal ⟨T.set .leaf 0 .nmap,hp,nx,[]⟩:=.region (opsA_ok prog_ok.ctx hc h0).2
  have h2:=CodeOK.lit (rd:=none) prog_ok.ctx prog_ok.mixed (id:=1) fixed_lit ⟨T.set .leaf 0 .nmap,hp,nx,[]⟩
  have hes:((List.range 10).map fun i=>(fixedK i,fixedV i))=fixedEs:=rfl
  rw [hes] at h2
  have h3:=h1.seq (h2.seq (.ret _))
  exact CallOK.body (args:=[]) (H:=hp) (nx:=nx) (st':=⟨T.set .leaf 0 (.map nx),hp.set nx (.map fixedEs 10),nx+1,[]⟩) (e:=.ret) (hp2:=hp.set nx (.map fixedEs 10)) (nx2:=nx+1) (vs:=[.map nx]) func327 hb (.inr rfl) prog_ok.ctx (.nil _ _) rfl h3
 ·simp at h
end Go.Proofs.YtaacpiniakmpbaaGreatDoor
