/- The proof, part Y38: 7n. -/
import Derived.Test.YtbdoipfmafbhoaaGreatDoorY37
namespace Go.Hp.T
open Go Go.RowKit Go.Slot Go.Hp Go.Slot.T
open Go.Proofs.Tryz (prog)
attribute [local irreducible] hide RH
set_option maxRecDepth 10000
set_option maxHeartbeats 8000000
variable {Γ:List (Nat×List Cell)}
def whI (x:Rcp) (y:Inp):Bool:=bif seq y.kind x.kind then decide (xwf x.steps 0 y.name=1) else decide (xwf x.steps 0 y.name=0)
def whM (x:Rcp) (y:Imp):Bool:=decide (xwf x.steps 1 y.name=1)
def whP (x:Rcp) (y:Por):Bool:=decide (xwf x.steps 5 y.name=1)
def v40 (s:Sht) (y:Stp):Bool:=bif decide (y.kind=0) then s.inputs.any (fun z=>seq z.name y.name) else bif decide (y.kind=1) then s.imports.any (fun z=>seq z.name y.name) else
 bif decide (y.kind=2)||decide (y.kind=6) then s.stores.any (fun z=>seq z.name y.name) else bif decide (y.kind=5) then s.ports.any (fun z=>seq z.name y.name) else true
def whS (s:Sht) (y:Stp):Bool:=v40 s y&&y.cells.all (v8h s)
def y1v (s:Sht) (x:Rcp):Bool:=x.steps.all (whS s)&&(x.steps.all (fun _=>true)&&(s.inputs.all (whI x)&&(s.imports.all (whM x)&&s.ports.all (whP x))))
theorem wfq {α:Type} [Inhabited α] {p:α->Bool} {l:List α} {i:Nat} (h:i<l.length):(l.take (i+1)).all p=((l.take i).all p&&p (l.getD i default)):=by
 rw [List.take_succ_eq_append_getElem h,List.all_append,List.getD_eq_getElem?_getD,List.getElem?_eq_getElem h];simp
theorem y0f (s:Sht) (x:Rcp) (hs:s.Sm) (hxl:x.steps.length<=1073741824) (hx:∀ y∈x.steps,y.Sm):CallsD Γ prog 17 [.agg (shtC s),.agg (rcpC x)] (.one (cB (y1v s x))):=by
 have h1:=hs.nl;have h2:=hs.il;have h3:=hs.pl;have h4:=hs.sl
 have cb:=fun w=>yzo (Γ:=Γ) s w hs
 have ct:=fun k w=>zpr (Γ:=Γ) x.steps k w hxl
 have r1:=fun w=>ybv (Γ:=Γ) s w h1
 have r2:=fun w=>zp8 (Γ:=Γ) s w h2
 have r3:=fun w=>xg2 (Γ:=Γ) s w h4
 have r4:=fun w=>ydq (Γ:=Γ) s w h3
 clear hs;refine CallsD.run [] Go.Proofs.Tryz.func17 rfl rfl rfl ?_;simp only [Go.Proofs.Tryz.f17];refine hgR ?_
 repeat' ((first | refine hfk ?_ ?_<;>intros | refine hik ?_)<;>refine hgS ?_)
 refine wwt [2,3,5] (fun i:Nat=>[(6,.one (.dat (cI i)))]) (fun _=>[.box ((shtC s).map .dat) (some 31),.box ((rcpC x).map .dat) (some 43)]) (fun i=>i<=s.inputs.length/\∀ j,j<i->whI x (s.inputs.getD j default)=true) (fun i=>s.inputs.length-i) 0 ⟨Nat.zero_le _,fun j hj=>by omega⟩ ?_ ?_
 . refine hg ?_;exact StH.same svl rfl
 rintro i ⟨hi,hj⟩;refine hg ?_;refine zcl (fun hlt _=>?_) (fun hlt _=>?_)
 . have hlt':i<s.inputs.length:=by omega
   have hbad:whI x (s.inputs.getD i default)=false->y1v s x=false:=fun h=>by unfold y1v;rw [zo4 hlt' h];simp
   have c1:=ct 0 (s.inputs.getD i default).name
   have hg:∀ n,xwf x.steps 0 (s.inputs.getD i default).name=n->xwf x.steps 0 (s.inputs.getD i default).name=n:=fun _ e=>e
   unfold whI at hbad;generalize hn:xwf x.steps 0 (s.inputs.getD i default).name=n at *;clear ct cb r1 r2 r3 r4 hg
   cases hq:seq (s.inputs.getD i default).kind x.kind with
   | true=>
    rw [hq,cond_true] at hbad
    have hok:n=1->whI x (s.inputs.getD i default)=true:=fun e=>by unfold whI;rw [hq,hn,e];rfl
    clear hn;refine hg1 @hq ?_
    repeat' ((first | refine hfk ?_ ?_<;>intros | refine hik ?_ | with_reducible first | refine y5k (c1) ?_ | refine x4p (c1) ?_)<;>refine hgS ?_)
    all_goals first
     | exact ⟨i+1,⟨by omega,zbh hj (hok (by omega))⟩,by omega,StH.same svl rfl⟩
     | exact RLe.ofEq (by rw [hbad (by rw [decide_eq_false_iff_not];omega)])
   | false=>
    rw [hq,cond_false] at hbad
    have hok:n=0->whI x (s.inputs.getD i default)=true:=fun e=>by unfold whI;rw [hq,hn,e];rfl
    clear hn;refine hg1 @hq ?_
    repeat' ((first | refine hfk ?_ ?_<;>intros | refine hik ?_ | with_reducible first | refine y5k (c1) ?_ | refine x4p (c1) ?_)<;>refine hgS ?_)
    all_goals first
     | exact ⟨i+1,⟨by omega,zbh hj (hok (by omega))⟩,by omega,StH.same svl rfl⟩
     | exact RLe.ofEq (by rw [hbad (by rw [decide_eq_false_iff_not];omega)])
 have g0:s.inputs.all (whI x)=true:=xyf (fun j hjl=>hj j (by omega));clear hj;refine hg ?_;refine wwt [2,3,5] (fun i:Nat=>[(8,.one (.dat (cI i)))]) (fun _=>[.box ((shtC s).map .dat) (some 31),.box ((rcpC x).map .dat) (some 43)]) (fun i=>i<=s.imports.length/\∀ j,j<i->whM x (s.imports.getD j default)=true) (fun i=>s.imports.length-i) 0 ⟨Nat.zero_le _,fun j hj=>by omega⟩ ?_ ?_
 . refine hg ?_;exact StH.same svl rfl
 rintro i ⟨hi,hj⟩;refine hg ?_;refine zcl (fun hlt _=>?_) (fun hlt _=>?_)
 . have hlt':i<s.imports.length:=by omega
   have hbad:whM x (s.imports.getD i default)=false->y1v s x=false:=fun h=>by unfold y1v;rw [zo4 hlt' h];simp
   have c1:=ct 1 (s.imports.getD i default).name
   have hg:∀ n,xwf x.steps 1 (s.imports.getD i default).name=n->xwf x.steps 1 (s.imports.getD i default).name=n:=fun _ e=>e
   unfold whM at hbad;generalize hn:xwf x.steps 1 (s.imports.getD i default).name=n at *;clear ct cb r1 r2 r3 r4 hg
   have hok:n=1->whM x (s.imports.getD i default)=true:=fun e=>by unfold whM;rw [hn,e];rfl
   clear hn;refine hg ?_
   repeat' ((first | refine hfk ?_ ?_<;>intros | refine hik ?_ | with_reducible first | refine y5k (c1) ?_ | refine x4p (c1) ?_)<;>refine hgS ?_)
   all_goals first
    | exact ⟨i+1,⟨by omega,zbh hj (hok (by omega))⟩,by omega,StH.same svl rfl⟩
    | exact RLe.ofEq (by rw [hbad (by rw [decide_eq_false_iff_not];omega)])
 have g1:s.imports.all (whM x)=true:=xyf (fun j hjl=>hj j (by omega));clear hj;refine hg ?_;refine wwt [2,3,5] (fun i:Nat=>[(9,.one (.dat (cI i)))]) (fun _=>[.box ((shtC s).map .dat) (some 31),.box ((rcpC x).map .dat) (some 43)]) (fun i=>i<=s.ports.length/\∀ j,j<i->whP x (s.ports.getD j default)=true) (fun i=>s.ports.length-i) 0 ⟨Nat.zero_le _,fun j hj=>by omega⟩ ?_ ?_
 . refine hg ?_;exact StH.same svl rfl
 rintro i ⟨hi,hj⟩;refine hg ?_;refine zcl (fun hlt _=>?_) (fun hlt _=>?_)
 . have hlt':i<s.ports.length:=by omega
   have hbad:whP x (s.ports.getD i default)=false->y1v s x=false:=fun h=>by unfold y1v;rw [zo4 hlt' h];simp
   have c1:=ct 5 (s.ports.getD i default).name
   have hg:∀ n,xwf x.steps 5 (s.ports.getD i default).name=n->xwf x.steps 5 (s.ports.getD i default).name=n:=fun _ e=>e
   unfold whP at hbad;generalize hn:xwf x.steps 5 (s.ports.getD i default).name=n at *;clear ct cb r1 r2 r3 r4 hg
   have hok:n=1->whP x (s.ports.getD i default)=true:=fun e=>by unfold whP;rw [hn,e];rfl
   clear hn;refine hg ?_
   repeat' ((first | refine hfk ?_ ?_<;>intros | refine hik ?_ | with_reducible first | refine y5k (c1) ?_ | refine x4p (c1) ?_)<;>refine hgS ?_)
   all_goals first
    | exact ⟨i+1,⟨by omega,zbh hj (hok (by omega))⟩,by omega,StH.same svl rfl⟩
    | exact RLe.ofEq (by rw [hbad (by rw [decide_eq_false_iff_not];omega)])
 have g2:s.ports.all (whP x)=true:=xyf (fun j hjl=>hj j (by omega));clear hj;refine hg ?_;refine wwt [2,3,5] (fun i:Nat=>[(10,.one (.dat (cI i)))]) (fun _=>[.box ((shtC s).map .dat) (some 31),.box ((rcpC x).map .dat) (some 43)]) (fun i=>i<=x.steps.length/\∀ j,j<i->whS s (x.steps.getD j default)=true) (fun i=>x.steps.length-i) 0 ⟨Nat.zero_le _,fun j hj=>by omega⟩ ?_ ?_
 . refine hg ?_;exact StH.same svl rfl
 rintro i ⟨hi,hj⟩;refine hg ?_;refine zcl (fun hlt _=>?_) (fun hlt _=>?_)
 . have hlt':i<x.steps.length:=by omega
   have hcl:=(hx _ (wax hlt')).cl
   have hbad:whS s (x.steps.getD i default)=false->y1v s x=false:=fun h=>by unfold y1v;rw [zo4 hlt' h];simp
   clear g0 g1 g2 ct hx;have e1:=vb3 (fun z:Inp=>seq z.name (x.steps.getD i default).name) s.inputs;have e2:=vb3 (fun z:Imp=>seq z.name (x.steps.getD i default).name) s.imports;have e3:=vb3 (fun z:Sto=>seq z.name (x.steps.getD i default).name) s.stores;have e4:=vb3 (fun z:Por=>seq z.name (x.steps.getD i default).name) s.ports;have r1:=r1 (x.steps.getD i default).name;have r2:=r2 (x.steps.getD i default).name;have r3:=r3 (x.steps.getD i default).name;have r4:=r4 (x.steps.getD i default).name;have hS:whS s (x.steps.getD i default)=(v40 s (x.steps.getD i default)&&(x.steps.getD i default).cells.all (v8h s)):=rfl;generalize hy:x.steps.getD i default=y at *
   obtain ⟨b,hT,hG⟩:∃ b,v40 s y=b/\(((y.kind<=0/\0<=y.kind)/\decide (0<=idxF (fun z:Inp=>seq z.name y.name) s.inputs)=b)\/((y.kind<=1/\1<=y.kind)/\decide (0<=idxF (fun z:Imp=>seq z.name y.name) s.imports)=b)\/((y.kind<=2/\2<=y.kind)/\decide (0<=idxF (fun z:Sto=>seq z.name y.name) s.stores)=b)\/((y.kind<=6/\6<=y.kind)/\decide (0<=idxF (fun z:Sto=>seq z.name y.name) s.stores)=b)\/((y.kind<=5/\5<=y.kind)/\decide (0<=idxF (fun z:Por=>seq z.name y.name) s.ports)=b)\/((¬y.kind=0/\¬y.kind=1/\¬y.kind=2/\¬y.kind=6/\¬y.kind=5)/\b=true)):=by
    refine ⟨_,rfl,?_⟩;unfold v40;rw [e1,e2,e3,e4];by_cases k0:y.kind=0
    . exact .inl ⟨⟨by omega,by omega⟩,by rw [k0];rfl⟩
    . by_cases k1:y.kind=1
      . exact .inr (.inl ⟨⟨by omega,by omega⟩,by rw [k1];rfl⟩)
      . by_cases k2:y.kind=2
        . exact .inr (.inr (.inl ⟨⟨by omega,by omega⟩,by rw [k2];rfl⟩))
        . by_cases k6:y.kind=6
          . exact .inr (.inr (.inr (.inl ⟨⟨by omega,by omega⟩,by rw [k6];rfl⟩)))
          . by_cases k5:y.kind=5
            . exact .inr (.inr (.inr (.inr (.inl ⟨⟨by omega,by omega⟩,by rw [k5];rfl⟩))))
            . exact .inr (.inr (.inr (.inr (.inr ⟨⟨k0,k1,k2,k6,k5⟩,by rw [decide_eq_false k0,decide_eq_false k1,decide_eq_false k2,decide_eq_false k6,decide_eq_false k5];rfl⟩))))
   rw [hT] at hS;clear hT e1 e2 e3 e4;generalize idxF (fun z:Inp=>seq z.name y.name) s.inputs=n1 at *;generalize idxF (fun z:Imp=>seq z.name y.name) s.imports=n2 at *;generalize idxF (fun z:Sto=>seq z.name y.name) s.stores=n3 at *;generalize idxF (fun z:Por=>seq z.name y.name) s.ports=n4 at *
   rcases hG with ⟨hk,he⟩ | ⟨hk,he⟩ | ⟨hk,he⟩ | ⟨hk,he⟩ | ⟨hk,he⟩ | ⟨⟨k0,k1,k2,k6,k5⟩,he⟩
   . have d0:decide (y.kind=0)=true:=decide_eq_true (by omega);have d1:decide (y.kind=1)=false:=decide_eq_false (by omega);have d2:decide (y.kind=2)=false:=decide_eq_false (by omega);have d6:decide (y.kind=6)=false:=decide_eq_false (by omega);have d5:decide (y.kind=5)=false:=decide_eq_false (by omega)
     conv=>simp (maxSteps:=2000000) (disch:=omega) only [go_sem,Nat.reduceAdd,Nat.reduceSub,Nat.reduceMul,Int.reduceToNat,Nat.reduceEqDiff,Nat.reduceBEq,Nat.reduceBneDiff,Nat.reduceLT,Int.reduceEq,Int.reduceLT,Int.reduceLE,Int.reduceNeg,Int.reduceAdd,Int.reduceSub,Int.reduceMul,hy,d0,d1,d2,d6,d5]
     repeat' ((first | refine hfk ?_ ?_<;>intros | refine hik ?_ | with_reducible first | refine y5k (r1) ?_ | refine x4p (r1) ?_ | refine y5k (r2) ?_ | refine x4p (r2) ?_ | refine y5k (r3) ?_ | refine x4p (r3) ?_ | refine y5k (r4) ?_ | refine x4p (r4) ?_)<;>refine hgS ?_)
     all_goals try (exfalso;omega)
     refine wwt [2,3,5,10,11] (fun z:Nat×Bool=>[(12,.one (.dat (cB z.2))),(13,.one (.dat (cI z.1)))]) (fun _=>[.box ((shtC s).map .dat) (some 31),.box ((rcpC x).map .dat) (some 43)]++[.box ((stpC y).map .dat) (some 50)]) (fun z=>z.1<=y.cells.length/\(b&&(y.cells.take z.1).all (v8h s))=z.2) (fun z=>y.cells.length-z.1) (0,b) ⟨Nat.zero_le _,by rw [List.take_zero];exact Bool.and_true _⟩ ?_ ?_
     . refine hg ?_;exact StH.same svl rfl
     rintro ⟨k,z⟩ ⟨hk1,hk2⟩;dsimp only at hk1 hk2;refine hg ?_;refine zcl (fun hlt2 _=>?_) (fun hlt2 _=>?_)
     . have hlt2':k<y.cells.length:=by omega
       have hn:(b&&(y.cells.take (k+1)).all (v8h s))=(z&&v8h s (y.cells.getD k default)):=by rw [wfq hlt2',<-Bool.and_assoc,hk2]
       have cb:=cb (y.cells.getD k default);generalize v8h s (y.cells.getD k default)=q at *;clear hS hbad hk2
       cases z with
       | true=>
        rw [Bool.true_and] at hn;refine hg ?_
        repeat' ((first | refine hfk ?_ ?_<;>intros | refine hik ?_ | with_reducible first | refine y5k (cb) ?_ | refine x4p (cb) ?_)<;>refine hgS ?_)
        all_goals exact ⟨(k+1,q),⟨by dsimp only;omega,hn⟩,by dsimp only;omega,StH.same svl rfl⟩
       | false=>
        rw [Bool.false_and] at hn;clear cb;refine hg ?_
        repeat' ((first | refine hfk ?_ ?_<;>intros | refine hik ?_)<;>refine hgS ?_)
        all_goals exact ⟨(k+1,false),⟨by dsimp only;omega,hn⟩,by dsimp only;omega,StH.same svl rfl⟩
     rw [List.take_of_length_le (show y.cells.length<=k by omega),<-hS] at hk2;clear hS
     cases z with
     | true=>
      refine hg ?_
      repeat' ((first | refine hfk ?_ ?_<;>intros | refine hik ?_)<;>refine hgS ?_)
      refine ⟨i+1,⟨by omega,zbh hj (by rw [hy];exact hk2)⟩,by omega,?_⟩;refine StH.cutN [2,3,5,10] 2 rfl ?_ ?_
      . refine hg ?_
        first | exact trivial | rfl
      exact StH.same svl rfl
     | false=>
      have hbad:=hbad hk2;clear hk2;refine hg ?_
      repeat' ((first | refine hfk ?_ ?_<;>intros | refine hik ?_)<;>refine hgS ?_)
      exact RLe.ofEq (by rw [hbad])
   . have d0:decide (y.kind=0)=false:=decide_eq_false (by omega);have d1:decide (y.kind=1)=true:=decide_eq_true (by omega);have d2:decide (y.kind=2)=false:=decide_eq_false (by omega);have d6:decide (y.kind=6)=false:=decide_eq_false (by omega);have d5:decide (y.kind=5)=false:=decide_eq_false (by omega)
     conv=>simp (maxSteps:=2000000) (disch:=omega) only [go_sem,Nat.reduceAdd,Nat.reduceSub,Nat.reduceMul,Int.reduceToNat,Nat.reduceEqDiff,Nat.reduceBEq,Nat.reduceBneDiff,Nat.reduceLT,Int.reduceEq,Int.reduceLT,Int.reduceLE,Int.reduceNeg,Int.reduceAdd,Int.reduceSub,Int.reduceMul,hy,d0,d1,d2,d6,d5]
     repeat' ((first | refine hfk ?_ ?_<;>intros | refine hik ?_ | with_reducible first | refine y5k (r1) ?_ | refine x4p (r1) ?_ | refine y5k (r2) ?_ | refine x4p (r2) ?_ | refine y5k (r3) ?_ | refine x4p (r3) ?_ | refine y5k (r4) ?_ | refine x4p (r4) ?_)<;>refine hgS ?_)
     all_goals try (exfalso;omega)
     refine wwt [2,3,5,10,11] (fun z:Nat×Bool=>[(12,.one (.dat (cB z.2))),(13,.one (.dat (cI z.1)))]) (fun _=>[.box ((shtC s).map .dat) (some 31),.box ((rcpC x).map .dat) (some 43)]++[.box ((stpC y).map .dat) (some 50)]) (fun z=>z.1<=y.cells.length/\(b&&(y.cells.take z.1).all (v8h s))=z.2) (fun z=>y.cells.length-z.1) (0,b) ⟨Nat.zero_le _,by rw [List.take_zero];exact Bool.and_true _⟩ ?_ ?_
     . refine hg ?_;exact StH.same svl rfl
     rintro ⟨k,z⟩ ⟨hk1,hk2⟩;dsimp only at hk1 hk2;refine hg ?_;refine zcl (fun hlt2 _=>?_) (fun hlt2 _=>?_)
     . have hlt2':k<y.cells.length:=by omega
       have hn:(b&&(y.cells.take (k+1)).all (v8h s))=(z&&v8h s (y.cells.getD k default)):=by rw [wfq hlt2',<-Bool.and_assoc,hk2]
       have cb:=cb (y.cells.getD k default);generalize v8h s (y.cells.getD k default)=q at *;clear hS hbad hk2
       cases z with
       | true=>
        rw [Bool.true_and] at hn;refine hg ?_
        repeat' ((first | refine hfk ?_ ?_<;>intros | refine hik ?_ | with_reducible first | refine y5k (cb) ?_ | refine x4p (cb) ?_)<;>refine hgS ?_)
        all_goals exact ⟨(k+1,q),⟨by dsimp only;omega,hn⟩,by dsimp only;omega,StH.same svl rfl⟩
       | false=>
        rw [Bool.false_and] at hn;clear cb;refine hg ?_
        repeat' ((first | refine hfk ?_ ?_<;>intros | refine hik ?_)<;>refine hgS ?_)
        all_goals exact ⟨(k+1,false),⟨by dsimp only;omega,hn⟩,by dsimp only;omega,StH.same svl rfl⟩
     rw [List.take_of_length_le (show y.cells.length<=k by omega),<-hS] at hk2;clear hS
     cases z with
     | true=>
      refine hg ?_
      repeat' ((first | refine hfk ?_ ?_<;>intros | refine hik ?_)<;>refine hgS ?_)
      refine ⟨i+1,⟨by omega,zbh hj (by rw [hy];exact hk2)⟩,by omega,?_⟩;refine StH.cutN [2,3,5,10] 2 rfl ?_ ?_
      . refine hg ?_
        first | exact trivial | rfl
      exact StH.same svl rfl
     | false=>
      have hbad:=hbad hk2;clear hk2;refine hg ?_
      repeat' ((first | refine hfk ?_ ?_<;>intros | refine hik ?_)<;>refine hgS ?_)
      exact RLe.ofEq (by rw [hbad])
   . have d0:decide (y.kind=0)=false:=decide_eq_false (by omega);have d1:decide (y.kind=1)=false:=decide_eq_false (by omega);have d2:decide (y.kind=2)=true:=decide_eq_true (by omega);have d6:decide (y.kind=6)=false:=decide_eq_false (by omega);have d5:decide (y.kind=5)=false:=decide_eq_false (by omega)
     conv=>simp (maxSteps:=2000000) (disch:=omega) only [go_sem,Nat.reduceAdd,Nat.reduceSub,Nat.reduceMul,Int.reduceToNat,Nat.reduceEqDiff,Nat.reduceBEq,Nat.reduceBneDiff,Nat.reduceLT,Int.reduceEq,Int.reduceLT,Int.reduceLE,Int.reduceNeg,Int.reduceAdd,Int.reduceSub,Int.reduceMul,hy,d0,d1,d2,d6,d5]
     repeat' ((first | refine hfk ?_ ?_<;>intros | refine hik ?_ | with_reducible first | refine y5k (r1) ?_ | refine x4p (r1) ?_ | refine y5k (r2) ?_ | refine x4p (r2) ?_ | refine y5k (r3) ?_ | refine x4p (r3) ?_ | refine y5k (r4) ?_ | refine x4p (r4) ?_)<;>refine hgS ?_)
     all_goals try (exfalso;omega)
     refine wwt [2,3,5,10,11] (fun z:Nat×Bool=>[(12,.one (.dat (cB z.2))),(13,.one (.dat (cI z.1)))]) (fun _=>[.box ((shtC s).map .dat) (some 31),.box ((rcpC x).map .dat) (some 43)]++[.box ((stpC y).map .dat) (some 50)]) (fun z=>z.1<=y.cells.length/\(b&&(y.cells.take z.1).all (v8h s))=z.2) (fun z=>y.cells.length-z.1) (0,b) ⟨Nat.zero_le _,by rw [List.take_zero];exact Bool.and_true _⟩ ?_ ?_
     . refine hg ?_;exact StH.same svl rfl
     rintro ⟨k,z⟩ ⟨hk1,hk2⟩;dsimp only at hk1 hk2;refine hg ?_;refine zcl (fun hlt2 _=>?_) (fun hlt2 _=>?_)
     . have hlt2':k<y.cells.length:=by omega
       have hn:(b&&(y.cells.take (k+1)).all (v8h s))=(z&&v8h s (y.cells.getD k default)):=by rw [wfq hlt2',<-Bool.and_assoc,hk2]
       have cb:=cb (y.cells.getD k default);generalize v8h s (y.cells.getD k default)=q at *;clear hS hbad hk2
       cases z with
       | true=>
        rw [Bool.true_and] at hn;refine hg ?_
        repeat' ((first | refine hfk ?_ ?_<;>intros | refine hik ?_ | with_reducible first | refine y5k (cb) ?_ | refine x4p (cb) ?_)<;>refine hgS ?_)
        all_goals exact ⟨(k+1,q),⟨by dsimp only;omega,hn⟩,by dsimp only;omega,StH.same svl rfl⟩
       | false=>
        rw [Bool.false_and] at hn;clear cb;refine hg ?_
        repeat' ((first | refine hfk ?_ ?_<;>intros | refine hik ?_)<;>refine hgS ?_)
        all_goals exact ⟨(k+1,false),⟨by dsimp only;omega,hn⟩,by dsimp only;omega,StH.same svl rfl⟩
     rw [List.take_of_length_le (show y.cells.length<=k by omega),<-hS] at hk2;clear hS
     cases z with
     | true=>
      refine hg ?_
      repeat' ((first | refine hfk ?_ ?_<;>intros | refine hik ?_)<;>refine hgS ?_)
      refine ⟨i+1,⟨by omega,zbh hj (by rw [hy];exact hk2)⟩,by omega,?_⟩;refine StH.cutN [2,3,5,10] 2 rfl ?_ ?_
      . refine hg ?_
        first | exact trivial | rfl
      exact StH.same svl rfl
     | false=>
      have hbad:=hbad hk2;clear hk2;refine hg ?_
      repeat' ((first | refine hfk ?_ ?_<;>intros | refine hik ?_)<;>refine hgS ?_)
      exact RLe.ofEq (by rw [hbad])
   . have d0:decide (y.kind=0)=false:=decide_eq_false (by omega);have d1:decide (y.kind=1)=false:=decide_eq_false (by omega);have d2:decide (y.kind=2)=false:=decide_eq_false (by omega);have d6:decide (y.kind=6)=true:=decide_eq_true (by omega);have d5:decide (y.kind=5)=false:=decide_eq_false (by omega)
     conv=>simp (maxSteps:=2000000) (disch:=omega) only [go_sem,Nat.reduceAdd,Nat.reduceSub,Nat.reduceMul,Int.reduceToNat,Nat.reduceEqDiff,Nat.reduceBEq,Nat.reduceBneDiff,Nat.reduceLT,Int.reduceEq,Int.reduceLT,Int.reduceLE,Int.reduceNeg,Int.reduceAdd,Int.reduceSub,Int.reduceMul,hy,d0,d1,d2,d6,d5]
     repeat' ((first | refine hfk ?_ ?_<;>intros | refine hik ?_ | with_reducible first | refine y5k (r1) ?_ | refine x4p (r1) ?_ | refine y5k (r2) ?_ | refine x4p (r2) ?_ | refine y5k (r3) ?_ | refine x4p (r3) ?_ | refine y5k (r4) ?_ | refine x4p (r4) ?_)<;>refine hgS ?_)
     all_goals try (exfalso;omega)
     refine wwt [2,3,5,10,11] (fun z:Nat×Bool=>[(12,.one (.dat (cB z.2))),(13,.one (.dat (cI z.1)))]) (fun _=>[.box ((shtC s).map .dat) (some 31),.box ((rcpC x).map .dat) (some 43)]++[.box ((stpC y).map .dat) (some 50)]) (fun z=>z.1<=y.cells.length/\(b&&(y.cells.take z.1).all (v8h s))=z.2) (fun z=>y.cells.length-z.1) (0,b) ⟨Nat.zero_le _,by rw [List.take_zero];exact Bool.and_true _⟩ ?_ ?_
     . refine hg ?_;exact StH.same svl rfl
     rintro ⟨k,z⟩ ⟨hk1,hk2⟩;dsimp only at hk1 hk2;refine hg ?_;refine zcl (fun hlt2 _=>?_) (fun hlt2 _=>?_)
     . have hlt2':k<y.cells.length:=by omega
       have hn:(b&&(y.cells.take (k+1)).all (v8h s))=(z&&v8h s (y.cells.getD k default)):=by rw [wfq hlt2',<-Bool.and_assoc,hk2]
       have cb:=cb (y.cells.getD k default);generalize v8h s (y.cells.getD k default)=q at *;clear hS hbad hk2
       cases z with
       | true=>
        rw [Bool.true_and] at hn;refine hg ?_
        repeat' ((first | refine hfk ?_ ?_<;>intros | refine hik ?_ | with_reducible first | refine y5k (cb) ?_ | refine x4p (cb) ?_)<;>refine hgS ?_)
        all_goals exact ⟨(k+1,q),⟨by dsimp only;omega,hn⟩,by dsimp only;omega,StH.same svl rfl⟩
       | false=>
        rw [Bool.false_and] at hn;clear cb;refine hg ?_
        repeat' ((first | refine hfk ?_ ?_<;>intros | refine hik ?_)<;>refine hgS ?_)
        all_goals exact ⟨(k+1,false),⟨by dsimp only;omega,hn⟩,by dsimp only;omega,StH.same svl rfl⟩
     rw [List.take_of_length_le (show y.cells.length<=k by omega),<-hS] at hk2;clear hS
     cases z with
     | true=>
      refine hg ?_
      repeat' ((first | refine hfk ?_ ?_<;>intros | refine hik ?_)<;>refine hgS ?_)
      refine ⟨i+1,⟨by omega,zbh hj (by rw [hy];exact hk2)⟩,by omega,?_⟩;refine StH.cutN [2,3,5,10] 2 rfl ?_ ?_
      . refine hg ?_
        first | exact trivial | rfl
      exact StH.same svl rfl
     | false=>
      have hbad:=hbad hk2;clear hk2;refine hg ?_
      repeat' ((first | refine hfk ?_ ?_<;>intros | refine hik ?_)<;>refine hgS ?_)
      exact RLe.ofEq (by rw [hbad])
   . have d0:decide (y.kind=0)=false:=decide_eq_false (by omega);have d1:decide (y.kind=1)=false:=decide_eq_false (by omega);have d2:decide (y.kind=2)=false:=decide_eq_false (by omega);have d6:decide (y.kind=6)=false:=decide_eq_false (by omega);have d5:decide (y.kind=5)=true:=decide_eq_true (by omega)
     conv=>simp (maxSteps:=2000000) (disch:=omega) only [go_sem,Nat.reduceAdd,Nat.reduceSub,Nat.reduceMul,Int.reduceToNat,Nat.reduceEqDiff,Nat.reduceBEq,Nat.reduceBneDiff,Nat.reduceLT,Int.reduceEq,Int.reduceLT,Int.reduceLE,Int.reduceNeg,Int.reduceAdd,Int.reduceSub,Int.reduceMul,hy,d0,d1,d2,d6,d5]
     repeat' ((first | refine hfk ?_ ?_<;>intros | refine hik ?_ | with_reducible first | refine y5k (r1) ?_ | refine x4p (r1) ?_ | refine y5k (r2) ?_ | refine x4p (r2) ?_ | refine y5k (r3) ?_ | refine x4p (r3) ?_ | refine y5k (r4) ?_ | refine x4p (r4) ?_)<;>refine hgS ?_)
     all_goals try (exfalso;omega)
     refine wwt [2,3,5,10,11] (fun z:Nat×Bool=>[(12,.one (.dat (cB z.2))),(13,.one (.dat (cI z.1)))]) (fun _=>[.box ((shtC s).map .dat) (some 31),.box ((rcpC x).map .dat) (some 43)]++[.box ((stpC y).map .dat) (some 50)]) (fun z=>z.1<=y.cells.length/\(b&&(y.cells.take z.1).all (v8h s))=z.2) (fun z=>y.cells.length-z.1) (0,b) ⟨Nat.zero_le _,by rw [List.take_zero];exact Bool.and_true _⟩ ?_ ?_
     . refine hg ?_;exact StH.same svl rfl
     rintro ⟨k,z⟩ ⟨hk1,hk2⟩;dsimp only at hk1 hk2;refine hg ?_;refine zcl (fun hlt2 _=>?_) (fun hlt2 _=>?_)
     . have hlt2':k<y.cells.length:=by omega
       have hn:(b&&(y.cells.take (k+1)).all (v8h s))=(z&&v8h s (y.cells.getD k default)):=by rw [wfq hlt2',<-Bool.and_assoc,hk2]
       have cb:=cb (y.cells.getD k default);generalize v8h s (y.cells.getD k default)=q at *;clear hS hbad hk2
       cases z with
       | true=>
        rw [Bool.true_and] at hn;refine hg ?_
        repeat' ((first | refine hfk ?_ ?_<;>intros | refine hik ?_ | with_reducible first | refine y5k (cb) ?_ | refine x4p (cb) ?_)<;>refine hgS ?_)
        all_goals exact ⟨(k+1,q),⟨by dsimp only;omega,hn⟩,by dsimp only;omega,StH.same svl rfl⟩
       | false=>
        rw [Bool.false_and] at hn;clear cb;refine hg ?_
        repeat' ((first | refine hfk ?_ ?_<;>intros | refine hik ?_)<;>refine hgS ?_)
        all_goals exact ⟨(k+1,false),⟨by dsimp only;omega,hn⟩,by dsimp only;omega,StH.same svl rfl⟩
     rw [List.take_of_length_le (show y.cells.length<=k by omega),<-hS] at hk2;clear hS
     cases z with
     | true=>
      refine hg ?_
      repeat' ((first | refine hfk ?_ ?_<;>intros | refine hik ?_)<;>refine hgS ?_)
      refine ⟨i+1,⟨by omega,zbh hj (by rw [hy];exact hk2)⟩,by omega,?_⟩;refine StH.cutN [2,3,5,10] 2 rfl ?_ ?_
      . refine hg ?_
        first | exact trivial | rfl
      exact StH.same svl rfl
     | false=>
      have hbad:=hbad hk2;clear hk2;refine hg ?_
      repeat' ((first | refine hfk ?_ ?_<;>intros | refine hik ?_)<;>refine hgS ?_)
      exact RLe.ofEq (by rw [hbad])
   . subst he;have d0:decide (y.kind=0)=false:=decide_eq_false (by omega);have d1:decide (y.kind=1)=false:=decide_eq_false (by omega);have d2:decide (y.kind=2)=false:=decide_eq_false (by omega);have d6:decide (y.kind=6)=false:=decide_eq_false (by omega);have d5:decide (y.kind=5)=false:=decide_eq_false (by omega)
     conv=>simp (maxSteps:=2000000) (disch:=omega) only [go_sem,Nat.reduceAdd,Nat.reduceSub,Nat.reduceMul,Int.reduceToNat,Nat.reduceEqDiff,Nat.reduceBEq,Nat.reduceBneDiff,Nat.reduceLT,Int.reduceEq,Int.reduceLT,Int.reduceLE,Int.reduceNeg,Int.reduceAdd,Int.reduceSub,Int.reduceMul,hy,d0,d1,d2,d6,d5]
     repeat' ((first | refine hfk ?_ ?_<;>intros | refine hik ?_ | with_reducible first | refine y5k (r1) ?_ | refine x4p (r1) ?_ | refine y5k (r2) ?_ | refine x4p (r2) ?_ | refine y5k (r3) ?_ | refine x4p (r3) ?_ | refine y5k (r4) ?_ | refine x4p (r4) ?_)<;>refine hgS ?_)
     all_goals try (exfalso;omega)
     refine wwt [2,3,5,10,11] (fun z:Nat×Bool=>[(12,.one (.dat (cB z.2))),(13,.one (.dat (cI z.1)))]) (fun _=>[.box ((shtC s).map .dat) (some 31),.box ((rcpC x).map .dat) (some 43)]++[.box ((stpC y).map .dat) (some 50)]) (fun z=>z.1<=y.cells.length/\(true&&(y.cells.take z.1).all (v8h s))=z.2) (fun z=>y.cells.length-z.1) (0,true) ⟨Nat.zero_le _,by rw [List.take_zero];exact Bool.and_true _⟩ ?_ ?_
     . refine hg ?_;exact StH.same svl rfl
     rintro ⟨k,z⟩ ⟨hk1,hk2⟩;dsimp only at hk1 hk2;refine hg ?_;refine zcl (fun hlt2 _=>?_) (fun hlt2 _=>?_)
     . have hlt2':k<y.cells.length:=by omega
       have hn:(true&&(y.cells.take (k+1)).all (v8h s))=(z&&v8h s (y.cells.getD k default)):=by rw [wfq hlt2',<-Bool.and_assoc,hk2]
       have cb:=cb (y.cells.getD k default);generalize v8h s (y.cells.getD k default)=q at *;clear hS hbad hk2
       cases z with
       | true=>
        rw [Bool.true_and] at hn;refine hg ?_
        repeat' ((first | refine hfk ?_ ?_<;>intros | refine hik ?_ | with_reducible first | refine y5k (cb) ?_ | refine x4p (cb) ?_)<;>refine hgS ?_)
        all_goals exact ⟨(k+1,q),⟨by dsimp only;omega,hn⟩,by dsimp only;omega,StH.same svl rfl⟩
       | false=>
        rw [Bool.false_and] at hn;clear cb;refine hg ?_
        repeat' ((first | refine hfk ?_ ?_<;>intros | refine hik ?_)<;>refine hgS ?_)
        all_goals exact ⟨(k+1,false),⟨by dsimp only;omega,hn⟩,by dsimp only;omega,StH.same svl rfl⟩
     rw [List.take_of_length_le (show y.cells.length<=k by omega),<-hS] at hk2;clear hS
     cases z with
     | true=>
      refine hg ?_
      repeat' ((first | refine hfk ?_ ?_<;>intros | refine hik ?_)<;>refine hgS ?_)
      refine ⟨i+1,⟨by omega,zbh hj (by rw [hy];exact hk2)⟩,by omega,?_⟩;refine StH.cutN [2,3,5,10] 2 rfl ?_ ?_
      . refine hg ?_
        first | exact trivial | rfl
      exact StH.same svl rfl
     | false=>
      have hbad:=hbad hk2;clear hk2;refine hg ?_
      repeat' ((first | refine hfk ?_ ?_<;>intros | refine hik ?_)<;>refine hgS ?_)
      exact RLe.ofEq (by rw [hbad])
 . have g3:x.steps.all (whS s)=true:=xyf (fun j hjl=>hj j (by omega));have g4:x.steps.all (fun _=>true)=true:=List.all_eq_true.2 (fun _ _=>rfl)
   have e:y1v s x=true:=by unfold y1v;rw [g0,g1,g2,g3,g4];rfl
   clear hj g0 g1 g2 g3 g4;refine hg ?_
   repeat' ((first | refine hfk ?_ ?_<;>intros | refine hik ?_)<;>refine hgS ?_)
   exact RLe.ofEq (by rw [e])
end Go.Hp.T
