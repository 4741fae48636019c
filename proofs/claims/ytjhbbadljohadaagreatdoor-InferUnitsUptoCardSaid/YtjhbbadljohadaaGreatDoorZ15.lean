/- The proof, part Z15: Ne, Nf, Vk, Qa. -/
import Derived.Test.YtjhbbadljohadaaGreatDoorZ14
import Derived.Test.YtjhbbadljohadaaGreatDoorZ5
import Derived.Test.YtjhbbadljohadaaGreatDoorZ12
import Derived.Test.YtjhbbadljohadaaGreatDoorRows
import Derived.Deep.DeepHandedRow
import Derived.LaidMore
import Derived.MakeChecks
import Derived.ProofKit
namespace Go.Hp.T
open Go Go.RowKit Go.Slot Go.Hp Go.Slot.T
open Go.Proofs.Tryz (prog)
set_option maxRecDepth 10000
set_option maxHeartbeats 4000000
variable {Γ:List (Nat×List Cell)}
theorem cTIn (n:Int):CallsD Γ prog 70 [.one (cI n)] (.one (cB (inT n))):=by
 refine CallsD.run [] Go.Proofs.Tryz.func70 rfl rfl rfl ?_;simp only [Go.Proofs.Tryz.f70];refine hgR ?_
 repeat' ((first | refine hfk ?_ ?_<;>intros | refine hik ?_)<;>refine hgS ?_)
 all_goals (refine RLe.ofEq ?_;conv=>simp only [Bool.and_true,Bool.true_and,Bool.and_false,Bool.false_and,Bool.or_true,Bool.true_or,Bool.or_false,Bool.false_or,Bool.not_true,Bool.not_false,decide_true,decide_false,not_true_eq_false,not_false_eq_true,bnot_decide,if_true,if_false,Bool.and_self,Bool.or_self,cond_true,cond_false,List.length_map,ne_eq,Int.reduceEq,Int.reduceLT,Int.reduceLE, *,inT]);first | exact trivial | rfl
theorem cUReadX (s:ByteArray) (hs:s.size≤1073741824):CallsD Γ prog 14 [.one (cS s)] (.tup [.agg (unX (uReadF s).1),.one (cI (uReadF s).2)]):=by
 have:=cURead (Γ:=Γ) s hs
 rw [unO_eq] at this
 exact this
theorem flDim:(flatT prog 9 30=some 6)=True:=eq_true (by kernel_rfl)
theorem agDim:aggT prog 30=true:=by kernel_rfl
theorem egDim:prog.eqGuardType prog.depth 30=false:=by kernel_rfl
theorem fitDim (a b c d e f:Int):fitT prog 9 30 [.int .i64 a,.int .i64 b,.int .i64 c,.int .i64 d,.int .i64 e,.int .i64 f]=true:=by kernel_rfl
attribute [go_sem] flDim agDim egDim fitDim
theorem cTRight (t:Tb) (h1:t.name.size≤1073741824) (h2:t.unit.size≤1073741824) (h3:t.rows.length≤1073741824):CallsD Γ prog 42 [.agg (tbC t)] (.one (cB (tbRight (fun s=>(uReadF s).2) t))):=by
 refine CallsD.run [] Go.Proofs.Tryz.func42 rfl rfl rfl ?_;simp only [Go.Proofs.Tryz.f42];refine hgR ?_
 repeat' ((first | refine hfk ?_ ?_<;>intros | refine hik ?_ | with_reducible first | refine hcall (cUReadX t.unit h2) ?_ | refine hcalle (cUReadX t.unit h2) ?_ | refine hcall (cName t.name (by omega)) ?_ | refine hcalle (cName t.name (by omega)) ?_)<;>refine hgS ?_)
 · (refine RLe.ofEq ?_;conv=>simp only [Bool.and_true,Bool.true_and,Bool.and_false,Bool.false_and,Bool.or_true,Bool.true_or,Bool.or_false,Bool.false_or,Bool.not_true,Bool.not_false,decide_true,decide_false,not_true_eq_false,not_false_eq_true,bnot_decide,if_true,if_false,Bool.and_self,Bool.or_self,cond_true,cond_false,List.length_map,ne_eq,Int.reduceEq,Int.reduceLT,Int.reduceLE, *,tbRight]);first | exact trivial | rfl
 · refine hloop [1,28,29] (fun i:Nat=>[(30,.one (.dat (cI i)))]) (fun _=>[.box ((tbC t).map .dat) (some 55),.box ((unX (uReadF t.unit).1).map .dat) (some 49)]) (fun i=>i≤t.rows.length∧∀ j,j<i→rowAt t.rows j=true) (fun i=>t.rows.length-i) 0 ⟨Nat.zero_le _,fun j hj=>by omega⟩ ?_ ?_
   · refine hg ?_
     exact StH.same (by repeat' first | exact .nil | refine .cons (by first | exact .refl _ | exact .any _) ?_) rfl
   rintro i ⟨hi,hj⟩
   have hbad:rowAt t.rows i=false→i<t.rows.length→tbRight (fun s=>(uReadF s).2) t=false:=fun h h'=>by
    unfold tbRight rowsF;rw [not_all_range h' h,Bool.and_false]
   refine hg ?_
   repeat' ((first | refine hfk ?_ ?_<;>intros | refine hik ?_ | with_reducible first | refine hcall (cTIn _) ?_ | refine hcalle (cTIn _) ?_)<;>refine hgS ?_)
   all_goals first
    | (rw [hbad (by ((conv=>simp only [Bool.and_true,Bool.true_and,Bool.and_false,Bool.false_and,Bool.or_true,Bool.true_or,Bool.or_false,Bool.false_or,Bool.not_true,Bool.not_false,decide_true,decide_false,not_true_eq_false,not_false_eq_true,bnot_decide,if_true,if_false,Bool.and_self,Bool.or_self,cond_true,cond_false,List.length_map,ne_eq,Int.reduceEq,Int.reduceLT,Int.reduceLE, *,rowAt])<;>try exact trivial)) (by omega)];exact RLe.ofEq rfl)
    | (refine ⟨i+1,⟨by omega,lt_succ_cases hj (by ((conv=>simp only [Bool.and_true,Bool.true_and,Bool.and_false,Bool.false_and,Bool.or_true,Bool.true_or,Bool.or_false,Bool.false_or,Bool.not_true,Bool.not_false,decide_true,decide_false,not_true_eq_false,not_false_eq_true,bnot_decide,if_true,if_false,Bool.and_self,Bool.or_self,cond_true,cond_false,List.length_map,ne_eq,Int.reduceEq,Int.reduceLT,Int.reduceLE, *,rowAt])<;>try exact trivial))⟩,by omega,StH.back [1,28,29,30] 2 2 2 rfl rfl rfl rfl rfl (by kernel_rfl) (StH.same (by repeat' first | exact .nil | refine .cons (by first | exact .refl _ | exact .any _) ?_) rfl)⟩)
    | (refine RLe.ofEq ?_;rw [show tbRight (fun s=>(uReadF s).2) t=true from by unfold tbRight rowsF;rw [all_range (fun j hj'=>hj j (by omega))];((conv=>simp only [Bool.and_true,Bool.true_and,Bool.and_false,Bool.false_and,Bool.or_true,Bool.true_or,Bool.or_false,Bool.false_or,Bool.not_true,Bool.not_false,decide_true,decide_false,not_true_eq_false,not_false_eq_true,bnot_decide,if_true,if_false,Bool.and_self,Bool.or_self,cond_true,cond_false,List.length_map,ne_eq,Int.reduceEq,Int.reduceLT,Int.reduceLE, *])<;>try exact trivial)])
 · (refine RLe.ofEq ?_;conv=>simp only [Bool.and_true,Bool.true_and,Bool.and_false,Bool.false_and,Bool.or_true,Bool.true_or,Bool.or_false,Bool.false_or,Bool.not_true,Bool.not_false,decide_true,decide_false,not_true_eq_false,not_false_eq_true,bnot_decide,if_true,if_false,Bool.and_self,Bool.or_self,cond_true,cond_false,List.length_map,ne_eq,Int.reduceEq,Int.reduceLT,Int.reduceLE, *,tbRight]);first | exact trivial | rfl
 · (refine RLe.ofEq ?_;conv=>simp only [Bool.and_true,Bool.true_and,Bool.and_false,Bool.false_and,Bool.or_true,Bool.true_or,Bool.or_false,Bool.false_or,Bool.not_true,Bool.not_false,decide_true,decide_false,not_true_eq_false,not_false_eq_true,bnot_decide,if_true,if_false,Bool.and_self,Bool.or_self,cond_true,cond_false,List.length_map,ne_eq,Int.reduceEq,Int.reduceLT,Int.reduceLE, *,tbRight]);first | exact trivial | rfl
theorem cAlike (a b r:Ty):CallsD Γ prog 73 [.agg (tyC a),.agg (tyC b),.agg (tyC r)] (tyR (alikeF a b r)):=by
 refine CallsD.run [] Go.Proofs.Tryz.func73 rfl rfl rfl ?_;simp only [Go.Proofs.Tryz.f73];refine hgR ?_
 repeat' ((first | refine hfk ?_ ?_<;>intros | refine hik ?_)<;>refine hgS ?_)
 all_goals (refine RLe.ofEq ?_;conv=>simp only [Bool.and_true,Bool.true_and,Bool.and_false,Bool.false_and,Bool.or_true,Bool.true_or,Bool.or_false,Bool.false_or,Bool.not_true,Bool.not_false,decide_true,decide_false,not_true_eq_false,not_false_eq_true,bnot_decide,if_true,if_false,Bool.and_self,Bool.or_self,cond_true,cond_false,List.length_map,ne_eq,Int.reduceEq,Int.reduceLT,Int.reduceLE, *,alikeF]);first | exact trivial | rfl
theorem cNumber (d:Dm):CallsD Γ prog 71 [.agg (dmC d)] (.agg (tyC ⟨false,d⟩)):=by
 refine CallsD.run [] Go.Proofs.Tryz.func71 rfl rfl rfl ?_;simp only [Go.Proofs.Tryz.f71];refine hgR ?_
 repeat' ((first | refine hfk ?_ ?_<;>intros | refine hik ?_)<;>refine hgS ?_)
 all_goals (refine RLe.ofEq ?_;conv=>simp only [Bool.and_true,Bool.true_and,Bool.and_false,Bool.false_and,Bool.or_true,Bool.true_or,Bool.or_false,Bool.false_or,Bool.not_true,Bool.not_false,decide_true,decide_false,not_true_eq_false,not_false_eq_true,bnot_decide,if_true,if_false,Bool.and_self,Bool.or_self,cond_true,cond_false,List.length_map,ne_eq,Int.reduceEq,Int.reduceLT,Int.reduceLE, *]);first | exact trivial | rfl
theorem cTruth:CallsD Γ prog 74 [] (.agg (tyC ⟨true,Dm.zero⟩)):=by
 refine CallsD.run [] Go.Proofs.Tryz.func74 rfl rfl rfl ?_;simp only [Go.Proofs.Tryz.f74];refine hgR ?_
 repeat' ((first | refine hfk ?_ ?_<;>intros | refine hik ?_)<;>refine hgS ?_)
 all_goals (refine RLe.ofEq ?_;conv=>simp only [Bool.and_true,Bool.true_and,Bool.and_false,Bool.false_and,Bool.or_true,Bool.true_or,Bool.or_false,Bool.false_or,Bool.not_true,Bool.not_false,decide_true,decide_false,not_true_eq_false,not_false_eq_true,bnot_decide,if_true,if_false,Bool.and_self,Bool.or_self,cond_true,cond_false,List.length_map,ne_eq,Int.reduceEq,Int.reduceLT,Int.reduceLE, *]);first | exact trivial | rfl
theorem cProduct (o:Int) (a b:Ty):CallsD Γ prog 75 [.one (cI o),.agg (tyC a),.agg (tyC b)] (tyR (productF o a b)):=by
 refine CallsD.run [] Go.Proofs.Tryz.func75 rfl rfl rfl ?_;simp only [Go.Proofs.Tryz.f75];refine hgR ?_
 repeat' ((first | refine hfk ?_ ?_<;>intros | refine hik ?_ | with_reducible first | refine hcall (cDimMul a.d b.d) ?_ | refine hcalle (cDimMul a.d b.d) ?_ | refine hcall (cDimDiv a.d b.d) ?_ | refine hcalle (cDimDiv a.d b.d) ?_ | refine hcall (cNumber _) ?_ | refine hcalle (cNumber _) ?_)<;>refine hgS ?_)
 all_goals (refine RLe.ofEq ?_;conv=>simp only [Bool.and_true,Bool.true_and,Bool.and_false,Bool.false_and,Bool.or_true,Bool.true_or,Bool.or_false,Bool.false_or,Bool.not_true,Bool.not_false,decide_true,decide_false,not_true_eq_false,not_false_eq_true,bnot_decide,if_true,if_false,Bool.and_self,Bool.or_self,cond_true,cond_false,List.length_map,ne_eq,Int.reduceEq,Int.reduceLT,Int.reduceLE, *,productF]);first | exact trivial | rfl
theorem cCalls:∀ x:Ex,x.Sm→CallsD Γ prog 21 [.agg (exC x)] (.one (cB x.hasCall)):=by
 refine Ex.ind (fun x ih hx=>?_)
 have hl:=hx.len
 have hc:CallsD Γ prog 39 [.one (.sl 5 (x.args.map Ex.cells)),fN 21] (.one (cB (x.args.any Ex.hasCall))):=cContainsEx x.args _ _ hl (fun y hy=>ih y hy (hx.arg y hy))
 refine CallsD.run [] Go.Proofs.Tryz.func21 rfl rfl rfl ?_;simp only [Go.Proofs.Tryz.f21];refine hgR ?_
 repeat' ((first | refine hfk ?_ ?_<;>intros | refine hik ?_ | with_reducible first | refine hcall (hc) ?_ | refine hcalle (hc) ?_)<;>refine hgS ?_)
 all_goals refine RLe.ofEq ?_
 all_goals rw [Ex.hasCall_eq]
 all_goals ((conv=>simp only [Bool.and_true,Bool.true_and,Bool.and_false,Bool.false_and,Bool.or_true,Bool.true_or,Bool.or_false,Bool.false_or,Bool.not_true,Bool.not_false,decide_true,decide_false,not_true_eq_false,not_false_eq_true,bnot_decide,if_true,if_false,Bool.and_self,Bool.or_self,cond_true,cond_false,List.length_map,ne_eq,Int.reduceEq,Int.reduceLT,Int.reduceLE, *])<;>try exact trivial)
theorem cIndexTy (l:List Ty) (f:FuncId) (p:Ty→Bool) (hl:l.length≤1073741824) (h:∀ y∈l,CallsD Γ prog f [.agg (tyC y)] (.one (cB (p y)))) :
 CallsD Γ prog 132 [.one (.sl 7 (l.map Ty.C)),fN f] (.one (cI (idxF p l))):=by
 refine CallsD.run [] Go.Proofs.Tryz.func132 rfl rfl rfl ?_;simp only [Go.Proofs.Tryz.f132];refine hgR ?_
 refine hloop [0,1,7] (fun i:Nat=>[(8,.one (.dat (cI i)))]) (fun _=>[]) (fun i=>i≤l.length∧∀ j,j<i→p (l.getD j default)=false) (fun i=>l.length-i) 0 ⟨Nat.zero_le _,fun j hj=>by omega⟩ ?_ ?_
 · refine hg ?_
   exact StH.same (by repeat' first | exact .nil | refine .cons (by first | exact .refl _ | exact .any _) ?_) rfl
 intro i hi
 obtain ⟨hi,hj⟩:=hi
 refine hg ?_
 repeat' ((first | refine hfk ?_ ?_<;>intros | refine hik ?_ | with_reducible first | refine hcall (h _ (getD_mem (show i<l.length by omega))) ?_ | refine hcalle (h _ (getD_mem (show i<l.length by omega))) ?_)<;>refine hgS ?_)
 · rename_i hp
   rw [(idxF_at hi hj).2 (by omega) hp]
   exact RLe.ofEq rfl
 · rename_i hp
   exact ⟨i+1,⟨by omega,lt_succ_cases hj hp⟩,by omega,StH.same (by repeat' first | exact .nil | refine .cons (by first | exact .refl _ | exact .any _) ?_) rfl⟩
 · rw [(idxF_at hi hj).1 (by omega)]
   exact RLe.ofEq rfl
theorem cContainsTy (l:List Ty) (f:FuncId) (p:Ty→Bool) (hl:l.length≤1073741824) (h:∀ y∈l,CallsD Γ prog f [.agg (tyC y)] (.one (cB (p y)))) :
 CallsD Γ prog 103 [.one (.sl 7 (l.map Ty.C)),fN f] (.one (cB (l.any p))):=by
 refine CallsD.run [] Go.Proofs.Tryz.func103 rfl rfl rfl ?_;simp only [Go.Proofs.Tryz.f103];refine hgR ?_
 repeat' ((first | refine hfk ?_ ?_<;>intros | refine hik ?_ | with_reducible first | refine hcall (cIndexTy l f p hl h) ?_ | refine hcalle (cIndexTy l f p hl h) ?_)<;>refine hgS ?_)
 exact RLe.ofEq (by rw [←idxF_any])
theorem cLogic1 (t:Ty):CallsD Γ prog 104 [.agg (tyC t)] (.one (cB (!t.t))):=by
 refine CallsD.run [] Go.Proofs.Tryz.func104 rfl rfl rfl ?_;simp only [Go.Proofs.Tryz.f104];refine hgR ?_
 repeat' ((first | refine hfk ?_ ?_<;>intros | refine hik ?_)<;>refine hgS ?_)
 all_goals (refine RLe.ofEq ?_;conv=>simp only [Bool.and_true,Bool.true_and,Bool.and_false,Bool.false_and,Bool.or_true,Bool.true_or,Bool.or_false,Bool.false_or,Bool.not_true,Bool.not_false,decide_true,decide_false,not_true_eq_false,not_false_eq_true,bnot_decide,if_true,if_false,Bool.and_self,Bool.or_self,cond_true,cond_false,List.length_map,ne_eq,Int.reduceEq,Int.reduceLT,Int.reduceLE, *]);first | exact trivial | rfl
theorem cLogic (l:List Ty) (hl:l.length≤1073741824):CallsD Γ prog 76 [.one (.sl 7 (l.map Ty.C))] (tyR (logicF l)):=by
 have hc:CallsD Γ prog 103 [.one (.sl 7 (l.map Ty.C)),fN 104] (.one (cB (l.any (fun t=>!t.t)))):=cContainsTy l _ _ hl (fun y _=>cLogic1 y)
 refine CallsD.run [] Go.Proofs.Tryz.func76 rfl rfl rfl ?_;simp only [Go.Proofs.Tryz.f76];refine hgR ?_
 repeat' ((first | refine hfk ?_ ?_<;>intros | refine hik ?_ | with_reducible first | refine hcall (hc) ?_ | refine hcalle (hc) ?_ | refine hcall (cTruth) ?_ | refine hcalle (cTruth) ?_)<;>refine hgS ?_)
 all_goals (refine RLe.ofEq ?_;conv=>simp only [Bool.and_true,Bool.true_and,Bool.and_false,Bool.false_and,Bool.or_true,Bool.true_or,Bool.or_false,Bool.false_or,Bool.not_true,Bool.not_false,decide_true,decide_false,not_true_eq_false,not_false_eq_true,bnot_decide,if_true,if_false,Bool.and_self,Bool.or_self,cond_true,cond_false,List.length_map,ne_eq,Int.reduceEq,Int.reduceLT,Int.reduceLE, *,logicF]);first | exact trivial | rfl
abbrev mE (l:List (ByteArray×Dm)):SB:=.map (envE l)
theorem dm_zero {x:Dm}:(decide (x.a=0)&&(decide (x.b=0)&&(decide (x.c=0)&&(decide (x.d=0)&&(decide (x.e=0)&&decide (x.f=0))))))=decide (x=Dm.zero):=dm_eq (y:=Dm.zero)
attribute [go_sem] dm_zero
theorem cLook (V T:List (ByteArray×Dm)) (s:ByteArray) (k:Ty):CallsH Γ prog 72 [mE V,mE T] [.agg [.mp 0,.mp 1],.one (.dat (cS s)),.agg ((tyC k).map .dat)] [mE V,mE T] (tyS (lookF' T s k)):=by
 cases h:lookF T s with
 | none=>
  refine CallsH.run [] Go.Proofs.Tryz.func72 rfl rfl ?_;simp only [Go.Proofs.Tryz.f72];refine hgR ?_
  conv=>simp (maxSteps:=2000000) (disch:=omega) only [go_sem,Nat.reduceAdd,Nat.reduceSub,Nat.reduceMul,Int.reduceToNat,Nat.reduceEqDiff,Nat.reduceBEq,Nat.reduceBneDiff,Nat.reduceLT,Int.reduceEq,Int.reduceLT,Int.reduceLE,Int.reduceNeg,Int.reduceAdd,Int.reduceSub,Int.reduceMul,h]
  repeat' ((first | refine hfk ?_ ?_<;>intros | refine hik ?_)<;>refine hgS ?_)
  exact StH.doneE rfl (by kernel_rfl) (by simp only [lookF',h];rfl)
 | some d=>
  refine CallsH.run [] Go.Proofs.Tryz.func72 rfl rfl ?_;simp only [Go.Proofs.Tryz.f72];refine hgR ?_
  conv=>simp (maxSteps:=2000000) (disch:=omega) only [go_sem,Nat.reduceAdd,Nat.reduceSub,Nat.reduceMul,Int.reduceToNat,Nat.reduceEqDiff,Nat.reduceBEq,Nat.reduceBneDiff,Nat.reduceLT,Int.reduceEq,Int.reduceLT,Int.reduceLE,Int.reduceNeg,Int.reduceAdd,Int.reduceSub,Int.reduceMul,h]
  repeat' ((first | refine hfk ?_ ?_<;>intros | refine hik ?_ | with_reducible first | refine hcall (cNumber d) ?_ | refine hcalle (cNumber d) ?_)<;>refine hgS ?_)
  all_goals exact StH.doneE rfl (by kernel_rfl) (by (((conv=>simp only [Bool.and_true,Bool.true_and,Bool.and_false,Bool.false_and,Bool.or_true,Bool.true_or,Bool.or_false,Bool.false_or,Bool.not_true,Bool.not_false,decide_true,decide_false,not_true_eq_false,not_false_eq_true,bnot_decide,if_true,if_false,Bool.and_self,Bool.or_self,cond_true,cond_false,List.length_map,ne_eq,Int.reduceEq,Int.reduceLT,Int.reduceLE, *,lookF',h])<;>try exact trivial))<;>first | rfl | trivial)
def leafF (V:List (ByteArray×Dm)) (x:Ex):Ty×Int:=bif decide (x.op=1) then (match lookF V x.name with
 | none=>(Ty.zero,11)
 | some d=>(⟨false,d⟩,0)) else
 bif decide (¬(uReadF x.unit).2=0) then (Ty.zero,14) else (⟨false,dmO (uReadF x.unit).1⟩,0)
theorem cLeaf (V T:List (ByteArray×Dm)) (x:Ex) (hx:x.Sm):CallsH Γ prog 43 [mE V,mE T] [.agg [.mp 0,.mp 1],.agg ((exC x).map .dat)] [mE V,mE T] (tyS (leafF V x)):=by
 have hu:=hx.u
 cases h:lookF V x.name with
 | none=>
  refine CallsH.run [] Go.Proofs.Tryz.func43 rfl rfl ?_;simp only [Go.Proofs.Tryz.f43];refine hgR ?_
  repeat' ((first | refine hfk ?_ ?_<;>intros | refine hik ?_ | with_reducible first | refine hcall (cUReadX x.unit hu) ?_ | refine hcalle (cUReadX x.unit hu) ?_ | refine hcall (cNumber _) ?_ | refine hcalle (cNumber _) ?_)<;>refine hgS ?_)
  all_goals try conv=>simp (maxSteps:=2000000) (disch:=omega) only [go_sem,Nat.reduceAdd,Nat.reduceSub,Nat.reduceMul,Int.reduceToNat,Nat.reduceEqDiff,Nat.reduceBEq,Nat.reduceBneDiff,Nat.reduceLT,Int.reduceEq,Int.reduceLT,Int.reduceLE,Int.reduceNeg,Int.reduceAdd,Int.reduceSub,Int.reduceMul,h]
  all_goals try repeat' ((first | refine hfk ?_ ?_<;>intros | refine hik ?_ | with_reducible first | refine hcall (cUReadX x.unit hu) ?_ | refine hcalle (cUReadX x.unit hu) ?_ | refine hcall (cNumber _) ?_ | refine hcalle (cNumber _) ?_)<;>refine hgS ?_)
  all_goals exact StH.doneE rfl (by kernel_rfl) (by (((conv=>simp only [Bool.and_true,Bool.true_and,Bool.and_false,Bool.false_and,Bool.or_true,Bool.true_or,Bool.or_false,Bool.false_or,Bool.not_true,Bool.not_false,decide_true,decide_false,not_true_eq_false,not_false_eq_true,bnot_decide,if_true,if_false,Bool.and_self,Bool.or_self,cond_true,cond_false,List.length_map,ne_eq,Int.reduceEq,Int.reduceLT,Int.reduceLE, *,leafF,h])<;>try exact trivial))<;>first | rfl | trivial)
 | some d=>
  refine CallsH.run [] Go.Proofs.Tryz.func43 rfl rfl ?_;simp only [Go.Proofs.Tryz.f43];refine hgR ?_
  repeat' ((first | refine hfk ?_ ?_<;>intros | refine hik ?_ | with_reducible first | refine hcall (cUReadX x.unit hu) ?_ | refine hcalle (cUReadX x.unit hu) ?_ | refine hcall (cNumber _) ?_ | refine hcalle (cNumber _) ?_)<;>refine hgS ?_)
  all_goals try conv=>simp (maxSteps:=2000000) (disch:=omega) only [go_sem,Nat.reduceAdd,Nat.reduceSub,Nat.reduceMul,Int.reduceToNat,Nat.reduceEqDiff,Nat.reduceBEq,Nat.reduceBneDiff,Nat.reduceLT,Int.reduceEq,Int.reduceLT,Int.reduceLE,Int.reduceNeg,Int.reduceAdd,Int.reduceSub,Int.reduceMul,h]
  all_goals try repeat' ((first | refine hfk ?_ ?_<;>intros | refine hik ?_ | with_reducible first | refine hcall (cUReadX x.unit hu) ?_ | refine hcalle (cUReadX x.unit hu) ?_ | refine hcall (cNumber _) ?_ | refine hcalle (cNumber _) ?_)<;>refine hgS ?_)
  all_goals exact StH.doneE rfl (by kernel_rfl) (by (((conv=>simp only [Bool.and_true,Bool.true_and,Bool.and_false,Bool.false_and,Bool.or_true,Bool.true_or,Bool.or_false,Bool.false_or,Bool.not_true,Bool.not_false,decide_true,decide_false,not_true_eq_false,not_false_eq_true,bnot_decide,if_true,if_false,Bool.and_self,Bool.or_self,cond_true,cond_false,List.length_map,ne_eq,Int.reduceEq,Int.reduceLT,Int.reduceLE, *,leafF,h])<;>try exact trivial))<;>first | rfl | trivial)
theorem cNodeT (V T:List (ByteArray×Dm)) (x:Ex) (ts:List Ty) (hl:ts.length≤1073741824) (h1:1≤ts.length) (h2:x.op≠2→x.op≠4→2≤ts.length) (h3:x.op=5→3≤ts.length) :
 CallsH Γ prog 44 [mE V,mE T] [.agg [.mp 0,.mp 1],.agg ((exC x).map .dat),.one (.dat (.sl 7 (ts.map Ty.C)))] [mE V,mE T] (tyS (nodeF T x.op x.name ts)):=by
 refine CallsH.run [] Go.Proofs.Tryz.func44 rfl rfl ?_;simp only [Go.Proofs.Tryz.f44];refine hgR ?_
 repeat' ((first | refine hfk ?_ ?_<;>intros | refine hik ?_ | with_reducible first | refine hcall (cAlike (ts.getD 0 default) (ts.getD 1 default) ⟨true,Dm.zero⟩) ?_ | refine hcalle (cAlike (ts.getD 0 default) (ts.getD 1 default) ⟨true,Dm.zero⟩) ?_ | refine hcall (cAlike _ _ _) ?_ | refine hcalle (cAlike _ _ _) ?_ | refine hcall (cProduct _ _ _) ?_ | refine hcalle (cProduct _ _ _) ?_ | refine hcall (cLogic ts hl) ?_ | refine hcalle (cLogic ts hl) ?_ | refine hcall (cTruth) ?_ | refine hcalle (cTruth) ?_)<;>refine hgS ?_)
 · refine hcallg [] (CallsH.pre (cLook V T x.name (ts.getD 0 default)) (envs_rn V T) rfl rfl) ?_
   refine hg ?_
   repeat' ((first | refine hfk ?_ ?_<;>intros | refine hik ?_)<;>refine hgS ?_)
   exact StH.doneE rfl (by kernel_rfl) (by (((conv=>simp only [Bool.and_true,Bool.true_and,Bool.and_false,Bool.false_and,Bool.or_true,Bool.true_or,Bool.or_false,Bool.false_or,Bool.not_true,Bool.not_false,decide_true,decide_false,not_true_eq_false,not_false_eq_true,bnot_decide,if_true,if_false,Bool.and_self,Bool.or_self,cond_true,cond_false,List.length_map,ne_eq,Int.reduceEq,Int.reduceLT,Int.reduceLE, *,nodeF])<;>try exact trivial))<;>first | rfl | trivial)
 all_goals exact StH.doneE rfl (by kernel_rfl) (by (((conv=>simp only [Bool.and_true,Bool.true_and,Bool.and_false,Bool.false_and,Bool.or_true,Bool.true_or,Bool.or_false,Bool.false_or,Bool.not_true,Bool.not_false,decide_true,decide_false,not_true_eq_false,not_false_eq_true,bnot_decide,if_true,if_false,Bool.and_self,Bool.or_self,cond_true,cond_false,List.length_map,ne_eq,Int.reduceEq,Int.reduceLT,Int.reduceLE, *,nodeF])<;>try exact trivial))<;>first | rfl | trivial)
mutual
def Ex.ty (V T:List (ByteArray×Dm)):Ex→Ty×Int
 | .mk o n u s l=>bif decide ((l.length:Int)=0) then leafF V (.mk o n u s l) else
  match Ex.tyL V T l with
  | .inl e=>(Ty.zero,e)
  | .inr ts=>nodeF T o s ts
def Ex.tyL (V T:List (ByteArray×Dm)):List Ex→Int ⊕ List Ty
 | []=>.inr []
 | y::l=>match Ex.ty V T y with
  | (t,e)=>bif decide (¬e=0) then .inl e else match Ex.tyL V T l with
   | .inl e=>.inl e
   | .inr ts=>.inr (t::ts)
end
theorem Ex.ty_eq (V T:List (ByteArray×Dm)) (x:Ex):x.ty V T=bif decide ((x.args.length:Int)=0) then leafF V x else
 match Ex.tyL V T x.args with
 | .inl e=>(Ty.zero,e)
 | .inr ts=>nodeF T x.op x.name ts:=by cases x;rw [Ex.ty];rfl
theorem cOf (V T:List (ByteArray×Dm)):∀ x:Ex,x.Sm→x.shaped=true→x.hasCall=false→CallsH Γ prog 23 [mE V,mE T] [.agg [.mp 0,.mp 1],.agg ((exC x).map .dat)] [mE V,mE T] (tyS (x.ty V T)):=by
 refine Ex.ind (fun x ih hx hsh hcl=>?_)
 have hl:=hx.len
 refine CallsH.run [] Go.Proofs.Tryz.func23 rfl rfl ?_;simp only [Go.Proofs.Tryz.f23];refine hgR ?_
 repeat' ((first | refine hfk ?_ ?_<;>intros | refine hik ?_)<;>refine hgS ?_)
 · refine hcallb (CallsH.pre (cLeaf V T x hx) (envs_rn V T) rfl rfl) ?_
   refine hg ?_
   rename_i h
   exact StH.doneE rfl (by kernel_rfl) (by rw [Ex.ty_eq,h];rfl)
 · rename_i h0 hd0
   have hne:x.args.length≠0:=by omega
   have hnode:exNode x=true:=by rw [Ex.shaped_eq,Bool.and_eq_true] at hsh;exact hsh.1
   have hargs:∀ y∈x.args,y.shaped=true:=by rw [Ex.shaped_eq,Bool.and_eq_true,List.all_eq_true] at hsh;exact hsh.2
   have hcalls:x.op≠3∧∀ y∈x.args,y.hasCall=false:=by
    rw [Ex.hasCall_eq,Bool.or_eq_false_iff,decide_eq_false_iff_not,List.any_eq_false] at hcl
    exact ⟨hcl.1,fun y hy=>by simpa using hcl.2 y hy⟩
   obtain ⟨hl2,hl3⟩:=exNode_len hnode hcalls.1 hne
   have hty:x.ty V T=match Ex.tyL V T x.args with
    | .inl e=>(Ty.zero,e)
    | .inr ts=>nodeF T x.op x.name ts:=by rw [Ex.ty_eq,hd0,cond_false]
   refine hloop [2,3,4,21,22] (fun p:Nat×List Ty=>[(6,.one (.sl 5 7 0 p.2.length)),(23,.one (.dat (cI p.1)))])
    (fun p=>[mE V,mE T,.box [.mp 0,.mp 1] (some 63),.box ((exC x).map .dat) (some 24),.box ((tyC Ty.zero).map .dat) (some 32),.arr (.sl 7 (p.2.map Ty.C)) 0 (some 32)])
    (fun p=>p.1≤x.args.length∧p.2.length=p.1∧Ex.tyL V T x.args=match Ex.tyL V T (x.args.drop p.1) with
      | .inl e=>.inl e
      | .inr r=>.inr (p.2++r)) (fun p=>x.args.length-p.1) (0,[]) ⟨Nat.zero_le _,rfl,by simp only [List.drop_zero,List.nil_append];split<;>simp only [*]⟩ ?_ ?_
   · refine hg ?_
     refine StH.trans (StH.empty (d:=6) (es:=7) (c:=.sl 7 []) (T:=some 32) rfl rfl (fun r hr=>by cases hr) rfl) ?_
     refine hg ?_
     exact StH.same (by repeat' first | exact .nil | refine .cons (by first | exact .refl _ | exact .any _) ?_) rfl
   rintro ⟨i,ts⟩ ⟨h1,h2,h3⟩
   simp only at h1 h2 h3
   refine hg ?_
   refine condD (fun hlt _=>?_) (fun hlt _=>?_)
   · have hlt':i<x.args.length:=by omega
     have hy:=getD_mem hlt'
     rw [drop_getD hlt',Ex.tyL] at h3
     refine hg ?_
     refine hcallb (CallsH.pre (ih _ hy (hx.arg _ hy) (hargs _ hy) (hcalls.2 _ hy)) (envs_rn V T) rfl rfl) ?_
     generalize hr:Ex.ty V T (x.args.getD i default)=r at h3 ⊢
     obtain ⟨t,e⟩:=r
     simp only at h3
     refine hg ?_
     refine condD (fun he hd=>?_) (fun he hd=>?_)
     · refine hg ?_
       have h3':Ex.tyL V T x.args=.inl e:=by rw [h3,show decide (¬e=0)=true from hd];rfl
       exact StH.doneE rfl (by kernel_rfl) (by rw [hty,h3'];rfl)
     · refine hg ?_
       rw [show decide (¬e=0)=false from hd,cond_false] at h3
       have h3':Ex.tyL V T x.args=match Ex.tyL V T (x.args.drop (i+1)) with
        | .inl e=>.inl e
        | .inr r=>.inr ((ts++[t])++r):=by
        rw [h3]
        cases Ex.tyL V T (x.args.drop (i+1)) with
        | inl e=>rfl
        | inr r=>simp only [List.append_assoc,List.singleton_append]
       have hmap:ts.map Ty.C++[tyC t]=(ts++[t]).map Ty.C:=by simp;rfl
       rw [hmap]
       refine ⟨(i+1,ts++[t]),⟨by dsimp only;omega,by dsimp only;rw [List.length_append,List.length_singleton,h2],h3'⟩,by dsimp only;omega,?_⟩
       refine StH.backE [2,3,4,6,21,22,23] 5 8 6 rfl rfl rfl rfl rfl rfl rfl (by kernel_rfl) ?_
       refine hg ?_
       exact StH.same (by repeat' first | exact .nil | refine .cons (by first | exact .refl _ | exact .any _) ?_) rfl
   · have h3':Ex.tyL V T x.args=.inr ts:=by rw [h3,List.drop_eq_nil_of_le (by omega),Ex.tyL];simp only [List.append_nil]
     refine hg ?_
     refine hcallzp (cNodeT V T x ts (by omega) (by omega) (fun a b=>by have:=hl2 a b;omega) (fun a=>by have:=hl3 a;omega)) (ξ:=[.box [.mp 0,.mp 1] (some 63),.box ((exC x).map .dat) (some 24),.box ((tyC Ty.zero).map .dat) (some 32),.arr (.sl 7 (ts.map Ty.C)) (ts.length*7) (some 32)]) (envs_rn V T) ?_ ?_ rfl rfl ?_
     · conv=>simp (maxSteps:=2000000) (disch:=omega) only [go_sem,Nat.reduceAdd,Nat.reduceSub,Nat.reduceMul,Int.reduceToNat,Nat.reduceEqDiff,Nat.reduceBEq,Nat.reduceBneDiff,Nat.reduceLT,Int.reduceEq,Int.reduceLT,Int.reduceLE,Int.reduceNeg,Int.reduceAdd,Int.reduceSub,Int.reduceMul,dzL,dzS]
       exact trivial
     · conv=>simp (maxSteps:=2000000) (disch:=omega) only [go_sem,Nat.reduceAdd,Nat.reduceSub,Nat.reduceMul,Int.reduceToNat,Nat.reduceEqDiff,Nat.reduceBEq,Nat.reduceBneDiff,Nat.reduceLT,Int.reduceEq,Int.reduceLT,Int.reduceLE,Int.reduceNeg,Int.reduceAdd,Int.reduceSub,Int.reduceMul,dzB,dzS]
       exact trivial
     · refine hg ?_
       exact StH.doneE rfl (by kernel_rfl) (by rw [hty,h3'];rfl)
end Go.Hp.T

namespace Go.Hp
open Go Go.RowKit Go.Slot
variable {P:Program} {Γ:List (Nat×List Cell)} {e:List SB}
theorem CallsH.ro (φ:List Nat) {f:FuncId} {η ηs:List SB} {args:List SV} {res:SV} (h:CallsH Γ P f ηs args ηs res) (hs:∀ r,ηs.map (rnSB r)=ηs) (hn:φ.Nodup) (hb:(φ.all fun j=>Nat.blt j η.length)=true) (hp:φ.map (fun j=>η[j]?)=ηs.map some) :
 CallsH Γ P f η (args.map (rnSV0 (atR φ η.length))) η (rnSV (atR φ η.length) res):=by
 have hfix:∀(r:Nat→Nat) (x:SB),x∈ηs→rnSB r x=x:=fun r x hx=>by
  obtain ⟨i,hi,rfl⟩:=List.getElem_of_mem hx
  have:=congrArg (fun l=>l[i]?) (hs r)
  simp only [List.getElem?_map,List.getElem?_eq_getElem hi,Option.map_some] at this
  exact Option.some.inj this
 have hb':∀ j∈φ,j<η.length:=fun j hj=>by simpa using List.all_eq_true.1 hb j hj
 have hp':φ.map (fun j=>η[j]?)=ηs.map (fun x=>some (rnSB (atR φ η.length) x)):=by
  rw [hp]
  exact List.map_congr_left (fun x hx=>by rw [hfix _ x hx])
 have hk:=partOk.of hp'
 have hc:=CallsH.frame hn hb' hk (by rw [hk.1];exact Nat.le_refl _) h
 have hput:putR φ η ηs=η:=by
  apply List.ext_getElem?
  intro i
  by_cases hi2:i<η.length
  · by_cases hi:i∈φ
    · obtain ⟨k,hk2,rfl⟩:=List.getElem_of_mem hi
      have hkl:k<ηs.length:=by rw [hk.1];exact hk2
      have h1:=putR_at (ηs':=ηs) hn hb' (List.getElem?_eq_getElem hkl)
      rw [atR_lt (List.getElem?_eq_getElem hk2),hfix _ _ (List.getElem_mem hkl)] at h1
      rw [h1]
      have h2:=congrArg (fun l=>l[k]?) hp
      simp only [List.getElem?_map,List.getElem?_eq_getElem hk2,List.getElem?_eq_getElem hkl,Option.map_some] at h2
      exact (Option.some.inj h2).symm
    · exact putR_not hi2 hi
  · rw [List.getElem?_eq_none (by rw [putR_len,hk.1];omega),List.getElem?_eq_none (by omega)]
 rw [hput] at hc
 exact hc
theorem StH.cutN {σ σ':List SV} {η η':List SB} (ks:List Nat) (m:Nat) (hm:Nat.ble e.length m=true) (h:cutOk m (onlyV ks 0 σ) η=true) (hk:StH Γ e (onlyV ks 0 σ) (η.take m) σ' η'):StH Γ e σ η σ' η':=
 StH.trans (StH.only ks) (StH.trans (StH.cutB m (by simpa using hm) h) hk)
theorem StH.tup1 {l l':List SV} {η:List SB} (h:SVleL l l'):StH Γ e [.tup l] η [.tup l'] η:=fun E ρ a w hE hR=>⟨ρ,hR.hd,hR.hs,fun i x hi=>by
 cases i with
 | zero=>
  simp only [List.getElem?_cons_zero,Option.some.injEq] at hi
  subst hi
  obtain ⟨vs,hv,hr⟩:=hR.slot 0 (.tup l) rfl
  exact ⟨vs,hv,SRL.le h hr⟩
 | succ i=>simp at hi,hR.went⟩
theorem nat_blt {a b:Nat}:Nat.blt a b=decide (a<b):=by
 by_cases h:a<b
 · rw [decide_eq_true h];simpa using h
 · rw [decide_eq_false h]
   cases hh:Nat.blt a b with
   | false=>rfl
   | true=>exact absurd (by simpa using hh) h
end Go.Hp
namespace Go.Hp.T
open Go Go.RowKit Go.Slot Go.Hp Go.Slot.T
open Go.Proofs.Tryz (prog)
set_option maxRecDepth 10000
set_option maxHeartbeats 4000000
variable {Γ:List (Nat×List Cell)}
theorem refSB_envE (l:List (ByteArray×Dm)):refSB (.map (envE l))=[]:=by
 show (envE l).flatMap (fun p=>refSV p.2)=[]
 induction l with
 | nil=>rfl
 | cons p l ih=>show refSV _++(envE l).flatMap _=[];rw [ih];rfl
theorem swSB_envE (i j:Nat) (l:List (ByteArray×Dm)):swSB i j (.map (envE l))=.map (envE l):=by
 have:(envE l).map (fun p=>(p.1,swSV0 i j p.2))=envE l:=by
  induction l with
  | nil=>rfl
  | cons p l ih=>show _::(envE l).map _=_;rw [ih];rfl
 show SB.map _=_
 rw [this]
theorem readBad {η:List SB} {h1 h2:HC}:StH Γ [] [SV.tup [.agg [h1,h2],.one (.dat (cB false))]] η [SV.tup [.agg [.any,.any],.one (.dat (cB false))]] []:=
 StH.trans (StH.tup1 (l':=[.agg [.any,.any],.one (.dat (cB false))]) (.cons (.agg (.cons (.any _) (.cons (.any _) .nil))) (.cons (.refl _) .nil))) (by
  have:=StH.cutB (Γ:=Γ) (e:=[]) (σ:=[SV.tup [.agg [.any,.any],.one (.dat (cB false))]]) (η:=η) 0 (Nat.le_refl _) (by unfold cutOk;rfl)
  exact this)
theorem refSB_box (l:List HC) (T:Option TypeId):refSB (.box l T)=l.flatMap refHC:=rfl
theorem refSB_arr (c:Cell) (k:Nat) (T:Option TypeId):refSB (.arr c k T)=[]:=rfl
theorem refSB_dead:refSB .dead=[]:=rfl
attribute [go_sem] cutOk refSV refHC refSB_envE refSB_box refSB_arr refSB_dead nat_blt List.flatMap_cons List.flatMap_nil List.all_append
attribute [go_sem 20000] swSB_envE rnSB_envE
def rV (V:List (ByteArray×Dm)):List Vr→Option (List (ByteArray×Dm))
 | []=>some V
 | v::l=>bif !isName v.name||isWord v.name||!dRight v.d then none else rV (updF V v.name v.d) l
def rT (V T:List (ByteArray×Dm)):List Tb→Option (List (ByteArray×Dm))
 | []=>some T
 | t::l=>bif (lookF V t.name).isSome||decide (¬(uReadF t.unit).2=0)||!tbRight (fun s=>(uReadF s).2) t||isWord t.name then none else rT V (updF T t.name (dmO (uReadF t.unit).1)) l
def readF (vs:List Vr) (ms:List Tb):Option (List (ByteArray×Dm)×List (ByteArray×Dm)):=match rV [] vs with
 | none=>none
 | some V=>match rT V [] ms with
  | none=>none
  | some T=>bif decide ((V.length:Int)=vs.length)&&decide ((T.length:Int)=ms.length) then some (V,T) else none
def readB:Option (List (ByteArray×Dm)×List (ByteArray×Dm))→List SB
 | none=>[]
 | some p=>[mE p.1,mE p.2]
def readR:Option (List (ByteArray×Dm)×List (ByteArray×Dm))→SV
 | none=>.tup [.agg [.any,.any],.one (.dat (cB false))]
 | some _=>.tup [.agg [.mp 0,.mp 1],.one (.dat (cB true))]
theorem readGood (V T:List (ByteArray×Dm)) (a d:SB) (b:Bool):StH Γ [] [SV.tup [.agg [.mp 1,.mp 2],.one (.dat (cB b))]] [a,mE V,mE T,d] [SV.tup [.agg [.mp 0,.mp 1],.one (.dat (cB b))]] [mE V,mE T]:=by
 have e1:swL 0 1 [a,mE V,mE T,d]=[mE V,swSB 0 1 a,mE T,swSB 0 1 d]:=by
  show [swSB 0 1 (mE V),swSB 0 1 a,swSB 0 1 (mE T),swSB 0 1 d]=_
  rw [swSB_envE,swSB_envE]
 have e2:swL 1 2 [mE V,swSB 0 1 a,mE T,swSB 0 1 d]=[mE V,mE T,swSB 1 2 (swSB 0 1 a),swSB 1 2 (swSB 0 1 d)]:=by
  show [swSB 1 2 (mE V),swSB 1 2 (mE T),swSB 1 2 (swSB 0 1 a),swSB 1 2 (swSB 0 1 d)]=_
  rw [swSB_envE,swSB_envE]
 have h1:=StH.swapL (Γ:=Γ) (e:=[]) (σ:=[SV.tup [.agg [.mp 1,.mp 2],.one (.dat (cB b))]]) (η:=[a,mE V,mE T,d]) (i:=0) (j:=1) (by decide) (by decide) (by simp) (by simp)
 have h2:=StH.swapL (Γ:=Γ) (e:=[]) (σ:=[SV.tup [.agg [.mp 0,.mp 2],.one (.dat (cB b))]]) (η:=[mE V,swSB 0 1 a,mE T,swSB 0 1 d]) (i:=1) (j:=2) (by decide) (by decide) (by simp) (by simp)
 have h3:=StH.cutB (Γ:=Γ) (e:=[]) (σ:=[SV.tup [.agg [.mp 0,.mp 1],.one (.dat (cB b))]]) (η:=[mE V,mE T,swSB 1 2 (swSB 0 1 a),swSB 1 2 (swSB 0 1 d)]) 2 (by decide) (by
  unfold cutOk
  show (_&&([mE V,mE T].all fun x=>(refSB x).all fun b=>Nat.blt b 2))=true
  simp only [List.all_cons,refSB_envE,List.all_nil];rfl)
 rw [e1] at h1;rw [e2] at h2
 exact h1.trans (h2.trans h3)
structure Tb.Sm (t:Tb):Prop where
 n:t.name.size≤1073741824
 u:t.unit.size≤1073741824
 r:t.rows.length≤1073741824
theorem cRead (vs:List Vr) (ms:List Tb) (hv:vs.length≤1073741824) (hm:ms.length≤1073741824) (hvn:∀ v∈vs,v.name.size≤1073741824) (hms:∀ t∈ms,t.Sm) :
 CallsH Γ prog 22 [] [.one (.dat (.sl 7 (vs.map Vr.C))),.one (.dat (.sl 3 (ms.map Tb.C)))] (readB (readF vs ms)) (readR (readF vs ms)):=by
 refine CallsH.run [] Go.Proofs.Tryz.func22 rfl rfl ?_;simp only [Go.Proofs.Tryz.f22];refine hgR ?_
 refine hloop [0,1,4,6,18,19] (fun p:Nat×List (ByteArray×Dm)=>[(20,.one (.dat (cI p.1)))]) (fun p=>[.box [.dat (.raw (.map none)),.dat (.raw (.map none))] (some 63),mE p.2,mE [],.box [.mp 1,.mp 2] (some 63)])
  (fun p=>p.1≤vs.length∧rV [] vs=rV p.2 (vs.drop p.1)) (fun p=>vs.length-p.1) (0,[]) ⟨Nat.zero_le _,rfl⟩ ?_ ?_
 · refine hg ?_
   exact StH.same (by repeat' first | exact .nil | refine .cons (by first | exact .refl _ | exact .any _) ?_) rfl
 rintro ⟨i,V⟩ ⟨h1,h2⟩
 simp only at h1 h2
 refine hg ?_
 refine condD (fun hlt _=>?_) (fun hlt _=>?_)
 · have hlt' : i < vs.length := by omega
   have hy:=hvn _ (getD_mem hlt')
   rw [drop_getD hlt',rV] at h2
   refine hg ?_
   have bad:rV [] vs=none→readF vs ms=none:=fun h=>by unfold readF;rw [h]
   repeat' ((first | refine hfk ?_ ?_<;>intros | refine hik ?_ | with_reducible first | refine hcall (cName _ (by omega)) ?_ | refine hcalle (cName _ (by omega)) ?_ | refine hcall (cWord _) ?_ | refine hcalle (cWord _) ?_ | refine hcall (cDimRight _) ?_ | refine hcalle (cDimRight _) ?_)<;>refine hgS ?_)
   all_goals first
    | (rw [bad (by rw [h2];((conv=>simp only [Bool.and_true,Bool.true_and,Bool.and_false,Bool.false_and,Bool.or_true,Bool.true_or,Bool.or_false,Bool.false_or,Bool.not_true,Bool.not_false,decide_true,decide_false,not_true_eq_false,not_false_eq_true,bnot_decide,if_true,if_false,Bool.and_self,Bool.or_self,cond_true,cond_false,List.length_map,ne_eq,Int.reduceEq,Int.reduceLT,Int.reduceLE, *])<;>try exact trivial))];exact readBad)
    | (refine ⟨(i+1,updF V (vs.getD i default).name (vs.getD i default).d),⟨by dsimp only;omega,rfl⟩,by dsimp only;omega,?_⟩
       refine StH.cutN [0,1,4,6,18,19,20] 4 rfl ?_ ?_
       · refine hg ?_
         exact trivial
       exact StH.same (by repeat' first | exact .nil | refine .cons (by first | exact .refl _ | exact .any _) ?_) rfl)
 · have hV:rV [] vs=some V:=by rw [h2,List.drop_eq_nil_of_le (by omega)];rfl
   clear h2 h1 hlt
   have bad:rT V [] ms=none→readF vs ms=none:=fun h=>by unfold readF;rw [hV];simp only [h]
   refine hg ?_
   refine hloop [0,1,4,6,47,48] (fun p:Nat×List (ByteArray×Dm)=>[(49,.one (.dat (cI p.1)))]) (fun p=>[.box [.dat (.raw (.map none)),.dat (.raw (.map none))] (some 63),mE V,mE p.2,.box [.mp 1,.mp 2] (some 63)])
    (fun p=>p.1≤ms.length∧rT V [] ms=rT V p.2 (ms.drop p.1)) (fun p=>ms.length-p.1) (0,[]) ⟨Nat.zero_le _,rfl⟩ ?_ ?_
   · refine hg ?_
     exact StH.same (by repeat' first | exact .nil | refine .cons (by first | exact .refl _ | exact .any _) ?_) rfl
   rintro ⟨j,T⟩ ⟨h1,h2⟩
   simp only at h1 h2
   refine hg ?_
   refine condD (fun hlt _=>?_) (fun hlt _=>?_)
   · have hlt':j<ms.length:=by omega
     have hy:=hms _ (getD_mem hlt')
     rw [drop_getD hlt',rT] at h2
     refine hg ?_
     refine hcall (cUReadX _ hy.u) ?_
     cases hl:lookF V (ms.getD j default).name with
     | none =>
      rw [hl] at h2
      conv=>simp (maxSteps:=2000000) (disch:=omega) only [go_sem,Nat.reduceAdd,Nat.reduceSub,Nat.reduceMul,Int.reduceToNat,Nat.reduceEqDiff,Nat.reduceBEq,Nat.reduceBneDiff,Nat.reduceLT,Int.reduceEq,Int.reduceLT,Int.reduceLE,Int.reduceNeg,Int.reduceAdd,Int.reduceSub,Int.reduceMul,hl]
      repeat' ((first | refine hfk ?_ ?_<;>intros | refine hik ?_ | with_reducible first | refine hcall (cTRight _ hy.n hy.u hy.r) ?_ | refine hcalle (cTRight _ hy.n hy.u hy.r) ?_ | refine hcall (cWord _) ?_ | refine hcalle (cWord _) ?_)<;>refine hgS ?_)
      all_goals first
       | (rw [bad (by rw [h2];((conv=>simp only [Bool.and_true,Bool.true_and,Bool.and_false,Bool.false_and,Bool.or_true,Bool.true_or,Bool.or_false,Bool.false_or,Bool.not_true,Bool.not_false,decide_true,decide_false,not_true_eq_false,not_false_eq_true,bnot_decide,if_true,if_false,Bool.and_self,Bool.or_self,cond_true,cond_false,List.length_map,ne_eq,Int.reduceEq,Int.reduceLT,Int.reduceLE, *,Option.isSome])<;>try exact trivial))];exact readBad)
       | (refine ⟨(j+1,updF T (ms.getD j default).name (dmO (uReadF (ms.getD j default).unit).1)),⟨by dsimp only;omega,by (try rw [h2]);((conv=>simp only [Bool.and_true,Bool.true_and,Bool.and_false,Bool.false_and,Bool.or_true,Bool.true_or,Bool.or_false,Bool.false_or,Bool.not_true,Bool.not_false,decide_true,decide_false,not_true_eq_false,not_false_eq_true,bnot_decide,if_true,if_false,Bool.and_self,Bool.or_self,cond_true,cond_false,List.length_map,ne_eq,Int.reduceEq,Int.reduceLT,Int.reduceLE, *,Option.isSome])<;>try exact trivial)⟩,by dsimp only;omega,?_⟩
          refine StH.cutN [0,1,4,6,47,48,49] 4 rfl ?_ ?_
          · refine hg ?_
            exact trivial
          exact StH.same (by repeat' first | exact .nil | refine .cons (by first | exact .refl _ | exact .any _) ?_) rfl)
     | some d=>
      rw [hl] at h2
      conv=>simp (maxSteps:=2000000) (disch:=omega) only [go_sem,Nat.reduceAdd,Nat.reduceSub,Nat.reduceMul,Int.reduceToNat,Nat.reduceEqDiff,Nat.reduceBEq,Nat.reduceBneDiff,Nat.reduceLT,Int.reduceEq,Int.reduceLT,Int.reduceLE,Int.reduceNeg,Int.reduceAdd,Int.reduceSub,Int.reduceMul,hl]
      repeat' ((first | refine hfk ?_ ?_<;>intros | refine hik ?_ | with_reducible first | refine hcall (cTRight _ hy.n hy.u hy.r) ?_ | refine hcalle (cTRight _ hy.n hy.u hy.r) ?_ | refine hcall (cWord _) ?_ | refine hcalle (cWord _) ?_)<;>refine hgS ?_)
      all_goals
       rw [bad (by rw [h2];((conv=>simp only [Bool.and_true,Bool.true_and,Bool.and_false,Bool.false_and,Bool.or_true,Bool.true_or,Bool.or_false,Bool.false_or,Bool.not_true,Bool.not_false,decide_true,decide_false,not_true_eq_false,not_false_eq_true,bnot_decide,if_true,if_false,Bool.and_self,Bool.or_self,cond_true,cond_false,List.length_map,ne_eq,Int.reduceEq,Int.reduceLT,Int.reduceLE, *,Option.isSome])<;>try exact trivial))];exact readBad
   · have hT:rT V [] ms=some T:=by rw [h2,List.drop_eq_nil_of_le (by omega)];rfl
     clear h2 h1 hlt bad
     refine hg ?_
     repeat' ((first | refine hfk ?_ ?_<;>intros | refine hik ?_)<;>refine hgS ?_)
     · rename_i hlv hld
       by_cases hlt:(T.length:Int)=ms.length
       · have e:readF vs ms=some (V,T):=by unfold readF;rw [hV];simp only [hT];rw [decide_eq_true hlt,hld];rfl
         rw [e,decide_eq_true hlt]
         exact readGood V T _ _ true
       · have e:readF vs ms=none:=by unfold readF;rw [hV];simp only [hT];rw [decide_eq_false hlt,Bool.and_false];rfl
         rw [e,decide_eq_false hlt]
         exact readBad
     · rename_i hlv hld
       have e:readF vs ms=none:=by unfold readF;rw [hV];simp only [hT];rw [hld];rfl
       rw [e]
       exact readBad
def ofF (x:Ex) (vs:List Vr) (ms:List Tb):Ty×Int:=bif !exRight x||x.hasCall then (Ty.zero,2) else match readF vs ms with
 | none=>(Ty.zero,1)
 | some p=>x.ty p.1 p.2
theorem cInferOf (x:Ex) (vs:List Vr) (ms:List Tb) (hx:x.Sm) (hv:vs.length≤1073741824) (hm:ms.length≤1073741824) (hvn:∀ v∈vs,v.name.size≤1073741824) (hms:∀ t∈ms,t.Sm) :
 CallsD Γ prog 9 [.agg (exC x),.one (.sl 7 (vs.map Vr.C)),.one (.sl 3 (ms.map Tb.C))] (tyR (ofF x vs ms)):=by
 have hr:=cRead (Γ:=Γ) vs ms hv hm hvn hms
 refine CallsD.run [] Go.Proofs.Tryz.func9 rfl rfl rfl ?_;simp only [Go.Proofs.Tryz.f9];refine hgR ?_
 repeat' ((first | refine hfk ?_ ?_<;>intros | refine hik ?_ | with_reducible first | refine hcall (cRight x hx) ?_ | refine hcalle (cRight x hx) ?_ | refine hcall (cCalls x hx) ?_ | refine hcalle (cCalls x hx) ?_)<;>refine hgS ?_)
 · (refine RLe.ofEq ?_;conv=>simp only [Bool.and_true,Bool.true_and,Bool.and_false,Bool.false_and,Bool.or_true,Bool.true_or,Bool.or_false,Bool.false_or,Bool.not_true,Bool.not_false,decide_true,decide_false,not_true_eq_false,not_false_eq_true,bnot_decide,if_true,if_false,Bool.and_self,Bool.or_self,cond_true,cond_false,List.length_map,ne_eq,Int.reduceEq,Int.reduceLT,Int.reduceLE, *,ofF]);first | exact trivial | rfl
 · rename_i hr1 hc1
   have hsh:x.shaped=true:=by unfold exRight at hr1;rw [Bool.and_eq_true] at hr1;exact hr1.2
   cases hrd:readF vs ms with
   | none=>
    rw [hrd] at hr
    have hr2:∀ a b:SB,CallsH Γ prog 22 [a,b] [.one (.dat (.sl 7 (vs.map Vr.C))),.one (.dat (.sl 3 (ms.map Tb.C)))] [a,b] (.tup [.agg [.any,.any],.one (.dat (cB false))]):=fun a b=>CallsH.at [] (η:=[a,b]) hr (by decide) rfl rfl rfl
    refine hcallh (hr2 _ _) rfl ?_
    refine hg ?_
    repeat' ((first | refine hfk ?_ ?_<;>intros | refine hik ?_)<;>refine hgS ?_)
    exact RLe.ofEq (by simp only [ofF,hr1,hc1,hrd];rfl)
   | some p=>
    obtain ⟨V,T⟩:=p
    rw [hrd] at hr
    have hr2:∀ a b:SB,CallsH Γ prog 22 [a,b] [.one (.dat (.sl 7 (vs.map Vr.C))),.one (.dat (.sl 3 (ms.map Tb.C)))] [a,b,mE V,mE T] (.tup [.agg [.mp 2,.mp 3],.one (.dat (cB true))]):=fun a b=>by
     have h:=CallsH.at [] (η:=[a,b]) hr (by decide) rfl rfl rfl
     have e:putR [] [a,b] (readB (some (V,T)))=[a,b,mE V,mE T]:=by
      show [a,b,rnSB _ (mE V),rnSB _ (mE T)]=_
      rw [rnSB_envE,rnSB_envE]
     rw [e] at h
     exact h
    refine hcallh (hr2 _ _) rfl ?_
    refine hg ?_
    refine hcallb (CallsH.ro [2,3] (cOf V T x hx hsh hc1) (envs_rn V T) (by decide) rfl rfl) ?_
    refine hg ?_
    exact RLe.ofEq (by simp only [ofF,hr1,hc1,hrd];rfl)
 · (refine RLe.ofEq ?_;conv=>simp only [Bool.and_true,Bool.true_and,Bool.and_false,Bool.false_and,Bool.or_true,Bool.true_or,Bool.or_false,Bool.false_or,Bool.not_true,Bool.not_false,decide_true,decide_false,not_true_eq_false,not_false_eq_true,bnot_decide,if_true,if_false,Bool.and_self,Bool.or_self,cond_true,cond_false,List.length_map,ne_eq,Int.reduceEq,Int.reduceLT,Int.reduceLE, *,ofF]);first | exact trivial | rfl
end Go.Hp.T

namespace Go.Slot
open Go Go.RowKit Go.ChangeShapes Go.WideShapes
section
variable {P:Program} {H:Type} {enc:TypeId×Value→H} {w:World} {spare:Nat→Bool} {held:Bool} {bk:DataW H→Nat} {N:Nat} {r:Reach} {b0:Nat}
theorem argF_struct (hB:Bulk bk) {L:List TypeId} (hL:typesOk P L=true) {t:TypeId} (htL:t∈L) {v:Value} {d:DataW H} {p:List MemPlace} {fs:Array Field} (ht:P.underlying t=some (.struct fs))
 (hval:Value.okWide P w r b0 t v) (hd:DataW.Trod enc P w 0 spare held t v d p) (hb:bk d≤N):∃ cells,FitT P N t cells∧RdB M0 w v (.agg cells):=by
 obtain ⟨cs,rfl,_⟩:=okWide_struct ht hval
 obtain ⟨fuel,hf⟩:=hd
 obtain ⟨cells,h1,h2⟩:=trod_fit hB hL fuel t htL _ (d,p) hf hb
 exact ⟨cells,h2,⟨cs.toList,by simp,h1⟩⟩
theorem argF_one (hB:Bulk bk) {L:List TypeId} (hL:typesOk P L=true) {t:TypeId} (htL:t∈L) {v:Value} {d:DataW H} {p:List MemPlace} (hv:v.cells=#[v])
 (hd:DataW.Trod enc P w 0 spare held t v d p) (hb:bk d≤N):∃ c,FitT P N t [c]∧RdB M0 w v (.one c):=by
 obtain ⟨fuel,hf⟩:=hd
 obtain ⟨cells,h1,h2⟩:=trod_fit hB hL fuel t htL _ (d,p) hf hb
 rw [hv] at h1
 match cells,h1,h2 with
 | [c],h1,h2=>exact ⟨c,h2,h1.1⟩
theorem argF_slice (hB:Bulk bk) {L:List TypeId} (hL:typesOk P L=true) {t e:TypeId} (htL:t∈L) {v:Value} {d:DataW H} {p:List MemPlace} (ht:P.underlying t=some (.slice e))
 (hval:Value.okWide P w r b0 t v) (hd:DataW.Trod enc P w 0 spare held t v d p) (hb:bk d≤N):∃ c,FitT P N t [c]∧RdB M0 w v (.one c):=by
 obtain ⟨a,len,cap,rfl⟩:=okWide_slice ht hval
 exact argF_one hB hL htL rfl hd hb
theorem argF_int (hB:Bulk bk) {L:List TypeId} (hL:typesOk P L=true) {t:TypeId} (htL:t∈L) {k:IntKind} {v:Value} {d:DataW H} {p:List MemPlace} (ht:P.underlying t=some (.int k))
 (hval:Value.okWide P w r b0 t v) (hd:DataW.Trod enc P w 0 spare held t v d p) (hb:bk d≤N):∃ n:Int,k.min≤n∧n≤k.max∧RdB M0 w v (.one (.raw (.int k n))):=by
 obtain ⟨m,rfl⟩:=okWide_int ht hval
 obtain ⟨c,h1,h2⟩:=argF_one hB hL htL rfl hd hb
 obtain ⟨n,e,h3⟩:=h1.int_inv ht
 cases e
 exact ⟨n,h3.1,h3.2,h2⟩
theorem argF_string (hB:Bulk bk) {L:List TypeId} (hL:typesOk P L=true) {t:TypeId} (htL:t∈L) {v:Value} {d:DataW H} {p:List MemPlace} (ht:P.underlying t=some .string)
 (hval:Value.okWide P w r b0 t v) (hd:DataW.Trod enc P w 0 spare held t v d p) (hb:bk d≤N):∃ s:ByteArray,s.size≤N∧RdB M0 w v (.one (.raw (.string s))):=by
 obtain ⟨m,rfl⟩:=okWide_string ht hval
 obtain ⟨c,h1,h2⟩:=argF_one hB hL htL rfl hd hb
 obtain ⟨s,e,h3⟩:=h1.str_inv ht
 cases e
 exact ⟨s,h3,h2⟩
end
theorem laid_ints {P:Program} {H:Type} {enc:TypeId×Value→H} {w:World} {sp:Nat→Bool} {held:Bool} {fuel:Nat} {t e:TypeId} {n:Nat} {k:IntKind} {l:List Int} {cs:List Value} {p:List MemPlace}
 (ht:P.underlying t=some (.array n e)) (he:P.underlying e=some (.int k)) (hc:P.cellsOf e=1) (hct:P.cellsOf t=n)
 (h:DataW.trod enc P w 0 sp held fuel t cs=some (.agg (l.map fun z=>.lit (.int k z)),p)):cs=l.map (fun z=>Value.int k z):=by
 obtain ⟨xs,m,rfl,hx1,hlen,hn,hel⟩:=DataW.trod_array ht h
 simp only [Prod.mk.injEq,DataW.agg.injEq] at hx1
 have hl:l.length=n:=by
  have:=congrArg List.length hx1.1
  simp at this;omega
 apply List.ext_getElem
 · rw [hlen,hct,List.length_map,hl]
 intro i h1 h2
 have hi:i<n:=by rw [hlen,hct] at h1;exact h1
 have h3:=hel i hi
 have hix:i<xs.length:=by omega
 rw [hc,Nat.mul_one,List.getElem?_eq_getElem hix] at h3
 have e1:(cs.drop i).take 1=[cs[i]]:=by
  rw [List.drop_eq_getElem_cons h1];rfl
 rw [e1] at h3
 obtain ⟨z,e2,e3,_⟩:=DataW.trod_int he h3
 have e4:(l.map fun z=>(DataW.lit (.int k z):DataW H))[i]? = (xs.map (·.1))[i]?:=by rw [hx1.1]
 rw [List.getElem?_map,List.getElem?_map,List.getElem?_eq_getElem hix,List.getElem?_eq_getElem (by omega),e3] at e4
 simp only [Option.map_some,Option.some.injEq,DataW.lit.injEq,Lit.int.injEq,true_and] at e4
 rw [List.cons.injEq] at e2
 rw [e2.1,List.getElem_map,e4]
end Go.Slot
namespace Go.Proofs.YtjhbbadljohadaaGreatDoor
set_option maxRecDepth 100000
open Go Go.Slot Go.Hp Go.Hp.T Go.ChangeShapes Go.WideShapes Go.RowKit
theorem ownKnob0:ownKnob Tryz.prog.godebug=none:=by kernel_rfl
theorem laid0:laidOutB Tryz.prog=true:=by kernel_rfl
theorem bulk_one {H:Type} (d:DataW H):1≤Rows.uptoBulk d:=by
 cases d with
 | lit l=>cases l<;>simp [Rows.uptoBulk]
 | nil=>simp [Rows.uptoBulk]
 | ptr d=>simp [Rows.uptoBulk]
 | slice elems spare=>simp [Rows.uptoBulk]
 | agg parts=>simp [Rows.uptoBulk]
 | iface t d=>simp [Rows.uptoBulk]
 | map entries=>simp [Rows.uptoBulk]
 | held h=>simp [Rows.uptoBulk]
theorem bulk_part {H:Type} {d:DataW H} {l:List (DataW H)} (h:d∈l):Rows.uptoBulk d≤Rows.uptoBulkAll l:=by
 induction l with
 | nil=>cases h
 | cons x r ih=>
  simp only [Rows.uptoBulkAll]
  cases List.mem_cons.1 h with
  | inl e=>subst e;omega
  | inr e=>have:=ih e;omega
theorem bulk_len {H:Type} (l:List (DataW H)):l.length≤Rows.uptoBulkAll l:=by
 induction l with
 | nil=>simp [Rows.uptoBulkAll]
 | cons x r ih=>have:=bulk_one x;simp only [Rows.uptoBulkAll,List.length_cons];omega
theorem bulk {H:Type}:Bulk (H:=H) Rows.uptoBulk where
 str b:=by simp [Rows.uptoBulk]
 elems l r:=by
  have:=bulk_len l
  simp only [Rows.uptoBulk];omega
 elem l r d h:=by
  have:=bulk_part h
  simp only [Rows.uptoBulk];omega
 part l d h:=by
  have:=bulk_part h
  simp only [Rows.uptoBulk];omega
theorem bulk_bound {H:Type} {l:List (DataW H)} (hk:Rows.uptoSmall H l=true):∀ d∈l,Rows.uptoBulk d≤1048576:=fun d hd=>by
 have h:=bulk_part hd
 have h2:Rows.uptoBulkAll l≤1048576:=of_decide_eq_true hk
 omega
def argTypes:List TypeId:=[24,22,38,25,55,26,114,53,30,3,9,5,42]
theorem argTypes_ok:typesOk Tryz.prog argTypes=true:=by kernel_rfl
theorem cells_ex:Tryz.prog.cellsOf 24=5:=by kernel_rfl
theorem cells_vr:Tryz.prog.cellsOf 38=7:=by kernel_rfl
theorem cells_tb:Tryz.prog.cellsOf 55=3:=by kernel_rfl
theorem cells_rw:Tryz.prog.cellsOf 114=2:=by kernel_rfl
theorem not_int {t:TypeId} {d:TypeDesc} (h:Tryz.prog.underlying t=some d) (hd:∀ k,d≠.int k):∀ k,Tryz.prog.underlying t≠some (.int k):=fun k hk=>by
 rw [h] at hk;cases hk;exact hd k rfl
theorem fit_list {α:Type} {C:α→List Cell} {Q:α→Prop}:∀ rows:List (List Cell),(∀ r∈rows,∃ x,r=C x∧Q x)→∃ xs:List α,rows=xs.map C∧∀ x∈xs,Q x
 | [],_=>⟨[],rfl,fun x hx=>by cases hx⟩
 | r::rows,h=>by
  obtain ⟨x,hx,hq⟩:=h r (by simp)
  obtain ⟨xs,hxs,hqs⟩:=fit_list rows (fun r' hr'=>h r' (by simp [hr']))
  exact ⟨x::xs,by rw [hx,hxs];rfl,fun y hy=>by
   rcases List.mem_cons.1 hy with rfl | hy
   · exact hq
   · exact hqs y hy⟩
theorem len2 {α:Type} {l:List α} (h:l.length=2):∃ a b,l=[a,b]:=by
 match l,h with
 | [a,b],_=>exact ⟨a,b,rfl⟩
theorem len3 {α:Type} {l:List α} (h:l.length=3):∃ a b c,l=[a,b,c]:=by
 match l,h with
 | [a,b,c],_=>exact ⟨a,b,c,rfl⟩
theorem len5 {α:Type} {l:List α} (h:l.length=5):∃ a b c d e,l=[a,b,c,d,e]:=by
 match l,h with
 | [a,b,c,d,e],_=>exact ⟨a,b,c,d,e,rfl⟩
theorem len6 {α:Type} {l:List α} (h:l.length=6):∃ a b c d e f,l=[a,b,c,d,e,f]:=by
 match l,h with
 | [a,b,c,d,e,f],_=>exact ⟨a,b,c,d,e,f,rfl⟩
theorem fit_ex:∀(t:TypeId) (cs:List Cell),FitT Tryz.prog 1048576 t cs→(t=24→∃ x:Ex,cs=exC x∧x.Sm)∧(t=22→∃ l:List Ex,cs=[.sl 5 (l.map Ex.cells)]∧l.length≤1048576∧∀ y∈l,y.Sm):=by
 intro t cs h
 induction h with
 | int ht=>exact ⟨fun e=>(by subst e;rw [Tryz.underlying24] at ht;cases ht),fun e=>(by subst e;rw [Tryz.underlying22] at ht;cases ht)⟩
 | bool ht=>exact ⟨fun e=>(by subst e;rw [Tryz.underlying24] at ht;cases ht),fun e=>(by subst e;rw [Tryz.underlying22] at ht;cases ht)⟩
 | str ht=>exact ⟨fun e=>(by subst e;rw [Tryz.underlying24] at ht;cases ht),fun e=>(by subst e;rw [Tryz.underlying22] at ht;cases ht)⟩
 | ints ht he=>exact ⟨fun e=>(by subst e;rw [Tryz.underlying24] at ht;cases ht),fun e=>(by subst e;rw [Tryz.underlying22] at ht;cases ht;rw [Tryz.underlying24] at he;cases he)⟩
 | array ht=>exact ⟨fun e=>(by subst e;rw [Tryz.underlying24] at ht;cases ht),fun e=>(by subst e;rw [Tryz.underlying22] at ht;cases ht)⟩
 | sl ht he hl h ih=>
  refine ⟨fun e=>(by subst e;rw [Tryz.underlying24] at ht;cases ht),fun e=>?_⟩
  subst e
  rw [Tryz.underlying22] at ht
  cases ht
  obtain ⟨xs,rfl,hxs⟩:=fit_list (C:=Ex.cells) (Q:=Ex.Sm) _ (fun r hr=>by
   obtain ⟨x,h1,h2⟩:=(ih r hr).1 rfl
   exact ⟨x,by rw [h1,Ex.cells_eq],h2⟩)
  exact ⟨xs,by rw [cells_ex],by simpa using hl,hxs⟩
 | struct ht hl h ih=>
  refine ⟨fun e=>?_,fun e=>(by subst e;rw [Tryz.underlying22] at ht;cases ht)⟩
  subst e
  rw [Tryz.underlying24] at ht
  cases ht
  obtain ⟨r0,r1,r2,r3,r4,rfl⟩:=len5 hl
  obtain ⟨o,rfl,_⟩:=(h 0 _ r0 rfl rfl).int_inv (Tryz.underlying3)
  obtain ⟨n,rfl,_⟩:=(h 1 _ r1 rfl rfl).int_inv (Tryz.underlying3)
  obtain ⟨u,rfl,hu⟩:=(h 2 _ r2 rfl rfl).str_inv (Tryz.underlying9)
  obtain ⟨s,rfl,hs⟩:=(h 3 _ r3 rfl rfl).str_inv (Tryz.underlying9)
  obtain ⟨l,rfl,hll,hls⟩:=(ih 4 _ r4 rfl rfl).2 rfl
  exact ⟨.mk o n u s l,rfl,.mk _ (Nat.le_trans hll (by decide)) (Nat.le_trans hu (by decide)) (Nat.le_trans hs (by decide)) hls⟩
theorem fit_dm {cs:List Cell} (h:FitT Tryz.prog 1048576 30 cs):∃ d:Dm,cs=dmC d:=by
 obtain ⟨rows,rfl,hl,hr⟩:=h.array_inv Tryz.underlying30
 obtain ⟨r0,r1,r2,r3,r4,r5,rfl⟩:=len6 hl
 obtain ⟨a,rfl,_⟩:=(hr r0 (by simp)).int_inv (Tryz.underlying3)
 obtain ⟨b,rfl,_⟩:=(hr r1 (by simp)).int_inv (Tryz.underlying3)
 obtain ⟨c,rfl,_⟩:=(hr r2 (by simp)).int_inv (Tryz.underlying3)
 obtain ⟨d,rfl,_⟩:=(hr r3 (by simp)).int_inv (Tryz.underlying3)
 obtain ⟨e,rfl,_⟩:=(hr r4 (by simp)).int_inv (Tryz.underlying3)
 obtain ⟨f,rfl,_⟩:=(hr r5 (by simp)).int_inv (Tryz.underlying3)
 exact ⟨⟨a,b,c,d,e,f⟩,rfl⟩
theorem fit_vr {cs:List Cell} (h:FitT Tryz.prog 1048576 38 cs):∃ x:Vr,cs=x.C∧x.name.size≤1073741824:=by
 obtain ⟨rows,rfl,hl,hr⟩:=h.struct_inv Tryz.underlying38
 obtain ⟨r0,r1,rfl⟩:=len2 hl
 obtain ⟨s,rfl,hs⟩:=(hr 0 _ r0 rfl rfl).str_inv (Tryz.underlying9)
 obtain ⟨d,rfl⟩:=fit_dm (hr 1 _ r1 rfl rfl)
 exact ⟨⟨s,d⟩,rfl,Nat.le_trans hs (by decide)⟩
theorem fit_rw {cs:List Cell} (h:FitT Tryz.prog 1048576 114 cs):∃ x:Rw,cs=x.C∧True:=by
 obtain ⟨rows,rfl,hl,hr⟩:=h.struct_inv Tryz.underlying114
 obtain ⟨r0,r1,rfl⟩:=len2 hl
 obtain ⟨a,rfl,_⟩:=(hr 0 _ r0 rfl rfl).int_inv (Tryz.underlying3)
 obtain ⟨b,rfl,_⟩:=(hr 1 _ r1 rfl rfl).int_inv (Tryz.underlying3)
 exact ⟨⟨a,b⟩,rfl,trivial⟩
theorem fit_tb {cs:List Cell} (h:FitT Tryz.prog 1048576 55 cs):∃ x:Tb,cs=x.C∧x.Sm:=by
 obtain ⟨rows,rfl,hl,hr⟩:=h.struct_inv Tryz.underlying55
 obtain ⟨r0,r1,r2,rfl⟩:=len3 hl
 obtain ⟨s,rfl,hs⟩:=(hr 0 _ r0 rfl rfl).str_inv (Tryz.underlying9)
 obtain ⟨u,rfl,hu⟩:=(hr 1 _ r1 rfl rfl).str_inv (Tryz.underlying9)
 obtain ⟨rs,rfl,hrl,hrr⟩:=(hr 2 _ r2 rfl rfl).sl_inv (Tryz.underlying53) (not_int Tryz.underlying114 (fun k h=>by cases h))
 obtain ⟨xs,rfl,_⟩:=fit_list (C:=Rw.C) (Q:=fun _=>True) _ (fun r hr'=>fit_rw (hrr r hr'))
 refine ⟨⟨s,u,xs⟩,by rw [cells_rw];try rfl,⟨Nat.le_trans hs (by decide),Nat.le_trans hu (by decide),?_⟩⟩
 have:xs.length≤1048576:=by simpa using hrl
 exact Nat.le_trans this (by decide)
section
variable {H:Type} {enc:TypeId×Value→H} {W:World} {v:Value} {d:DataW H} {p:List MemPlace} {b:Nat}
theorem openEx (hval:Value.okWide Tryz.prog W .any b 24 v) (hd:DataW.Trod enc Tryz.prog W 0 (fun _=>true) true 24 v d p) (hb:Rows.uptoBulk d≤1048576) :
 ∃ x:Ex,RdB M0 W v (.agg (exC x))∧x.Sm:=by
 obtain ⟨cells,h1,h2⟩:=argF_struct bulk argTypes_ok (by decide) Tryz.underlying24 hval hd hb
 obtain ⟨x,rfl,h3⟩:=(fit_ex _ _ h1).1 rfl
 exact ⟨x,h2,h3⟩
theorem openVrs (hval:Value.okWide Tryz.prog W .any b 25 v) (hd:DataW.Trod enc Tryz.prog W 0 (fun _=>true) true 25 v d p) (hb:Rows.uptoBulk d≤1048576) :
 ∃ l:List Vr,RdB M0 W v (.one (.sl 7 (l.map Vr.C)))∧l.length≤1048576∧∀ x∈l,x.name.size≤1073741824:=by
 obtain ⟨c,h1,h2⟩:=argF_slice bulk argTypes_ok (by decide) Tryz.underlying25 hval hd hb
 obtain ⟨rows,e,hl,hr⟩:=h1.sl_inv (Tryz.underlying25) (not_int Tryz.underlying38 (fun k h=>by cases h))
 obtain ⟨xs,rfl,hx⟩:=fit_list (C:=Vr.C) (Q:=fun x=>x.name.size≤1073741824) _ (fun r hr'=>fit_vr (hr r hr'))
 cases e
 rw [cells_vr] at h2
 exact ⟨xs,h2,by simpa using hl,hx⟩
theorem openTbs (hval:Value.okWide Tryz.prog W .any b 26 v) (hd:DataW.Trod enc Tryz.prog W 0 (fun _=>true) true 26 v d p) (hb:Rows.uptoBulk d≤1048576) :
 ∃ l:List Tb,RdB M0 W v (.one (.sl 3 (l.map Tb.C)))∧l.length≤1048576∧∀ x∈l,x.Sm:=by
 obtain ⟨c,h1,h2⟩:=argF_slice bulk argTypes_ok (by decide) Tryz.underlying26 hval hd hb
 obtain ⟨rows,e,hl,hr⟩:=h1.sl_inv (Tryz.underlying26) (not_int Tryz.underlying55 (fun k h=>by cases h))
 obtain ⟨xs,rfl,hx⟩:=fit_list (C:=Tb.C) (Q:=Tb.Sm) _ (fun r hr'=>fit_tb (hr r hr'))
 cases e
 rw [cells_tb] at h2
 exact ⟨xs,h2,by simpa using hl,hx⟩
theorem openStr (hval:Value.okWide Tryz.prog W .any b 9 v) (hd:DataW.Trod enc Tryz.prog W 0 (fun _=>true) true 9 v d p) (hb:Rows.uptoBulk d≤1048576) :
 ∃ s:ByteArray,RdB M0 W v (.one (cS s))∧s.size≤1048576:=by
 obtain ⟨s,h1,h2⟩:=argF_string bulk argTypes_ok (by decide) Tryz.underlying9 hval hd hb
 exact ⟨s,h2,h1⟩
theorem openU8 (hval:Value.okWide Tryz.prog W .any b 5 v) (hd:DataW.Trod enc Tryz.prog W 0 (fun _=>true) true 5 v d p) (hb:Rows.uptoBulk d≤1048576) :
 ∃ n:Int,RdB M0 W v (.one (.raw (.int .u8 n)))∧0≤n∧n≤255:=by
 obtain ⟨n,h1,h2,h3⟩:=argF_int bulk argTypes_ok (by decide) Tryz.underlying5 hval hd hb
 exact ⟨n,h3,h1,h2⟩
theorem openU16 (hval:Value.okWide Tryz.prog W .any b 42 v) (hd:DataW.Trod enc Tryz.prog W 0 (fun _=>true) true 42 v d p) (hb:Rows.uptoBulk d≤1048576) :
 ∃ n:Int,RdB M0 W v (.one (.raw (.int .u16 n)))∧0≤n∧n≤65535:=by
 obtain ⟨n,h1,h2,h3⟩:=argF_int bulk argTypes_ok (by decide) Tryz.underlying42 hval hd hb
 exact ⟨n,h3,h1,h2⟩
end
def laidL:List (String×DataW Unit):=[("kitbag/lexer.signs",Rows.laid_kitbag_lexer_signs)]
theorem gSigns:Tryz.prog.globalNamed "kitbag/lexer.signs" = some 0:=by kernel_rfl
theorem tSigns:(Tryz.prog.globals[0]?).map (·.type)=some 165:=by kernel_rfl
theorem globOk {W:World} (h:laidMetH Tryz.prog laidL W):GlobOk Gs M0 W:=by
 rw [MakeChecks.laidMetH_plain _ _ _ (by kernel_rfl)] at h
 obtain ⟨ps,⟨g0,t0,cs0,f0,p0,q0,hg0,ht0,hv0,hd0,_,_⟩,_,_⟩:=h
 obtain rfl:=Option.some.inj (gSigns.symm.trans hg0)
 obtain rfl:=Option.some.inj (tSigns.symm.trans ht0)
 have e:=laid_ints (l:=[40,41,44,59,58,61,60,43,45,42,47,123,125]) Tryz.underlying165 Tryz.underlying5 (by kernel_rfl) (by kernel_rfl) hd0
 intro g cs hg
 have hg':=List.mem_singleton.1 hg
 cases hg'
 refine ⟨cs0.toList,fun j u hu=>⟨fun h=>h,?_⟩,?_⟩
 · rw [World.var?_cell hg0 hv0 j,←Array.getElem?_toList];exact hu
 · rw [e]
   exact ⟨.raw rfl,.raw rfl,.raw rfl,.raw rfl,.raw rfl,.raw rfl,.raw rfl,.raw rfl,.raw rfl,.raw rfl,.raw rfl,.raw rfl,.raw rfl,trivial⟩
theorem door_met (os:Os) (args:Array Value):laidMetH Tryz.prog laidL ((World.doorLaid Tryz.prog 14 os).forCall (fun _ _=>0) ⟨#[],args,[]⟩).memory:=
 laidMetH_of_parts3 (fuel:=8) (laidMet_of_run' 8 (by kernel_rfl) (by kernel_rfl)) (by kernel_rfl) (by kernel_rfl)
theorem witness_door {C:Checked} {os:Os} {f:FuncId} {fn:Func} {H:Type} {enc:TypeId×Value→H} {s:OpenSpec} {k:(H:Type)→List (DataW H)→Bool} (hk:s.cond=some k) {conds:List PathCond} {apart:Bool} {laid:List (String×DataW Unit)} (modest:Bool) (n:Nat) (args:Array Value) (fuel:Nat)
 (hsh:((World.doorLaid C.prog n os).forCall (fun _ _=>0) ⟨#[],args,[]⟩).Shaped C.prog)
 (hok:Input.okWideB C.prog ((World.doorLaid C.prog n os).forCall (fun _ _=>0) ⟨#[],args,[]⟩) f ⟨#[],args,[]⟩=true)
 {x:List (DataW H)×List (DataW H)×List MemPlace} (hx:DataW.whole enc C.prog ((World.doorLaid C.prog n os).forCall (fun _ _=>0) ⟨#[],args,[]⟩).memory fn.params.toList s.vars apart args.toList fuel=some x)
 (hconds:conds.all (PathCond.test C.prog ⟨fn.params.toList,x.1,s.bare.plain.varTypes C.prog,x.2.1⟩)=true) (hkk:k H (x.1++x.2.1)=true)
 (hsz:s.bare.sizedB enc C.prog fn apart ((World.doorLaid C.prog n os).forCall (fun _ _=>0) ⟨#[],args,[]⟩).memory args fuel=true)
 (hl:laidMetH C.prog laid ((World.doorLaid C.prog n os).forCall (fun _ _=>0) ⟨#[],args,[]⟩).memory) :
 ∃(w:World) (tape:Tape) (i:Input),w.os=os∧(w.forCall tape i).Shaped C.prog∧i.vars=[]∧Input.okWide C.prog (w.forCall tape i) .any w.heap.size f i∧
  s.preRow enc C.prog fn conds apart laid (w.forCall tape i).memory i.args∧({ modest:=modest }:Assume).holds C.prog (lone (Frame.enter C.prog f i.args .normal) [] (w.forCall tape i)):=
 ⟨World.doorLaid C.prog n os,fun _ _=>0,⟨#[],args,[]⟩,rfl,hsh,(Input.okWide_of_okWideB (base:=0) hok).1,(Input.okWide_of_okWideB hok).2,
  ⟨⟨(OpenSpec.pre_some hk conds apart _ _).2 ⟨x.1,x.2.1,x.2.2,DataW.Whole_of_whole hx,hconds,hkk⟩,hl⟩,sizedMet_of_sizedB hsz⟩,by
  simp only [Assume.holds]
  exact ⟨by simp,by simp,fun _=>Modest.zero,by simp,by simp⟩⟩
theorem ended {f:FuncId} {args:List AV} {vs:List Value} {W:World} (hc:Go.Hp.CallsD Gs Tryz.prog f args (.one (cB true))) (hg:GlobOk Gs M0 W) (hr:RdBL M0 W vs args):Calls Tryz.prog f vs.toArray W fun e W'=>e=.returned (.bool true)∧Below W.heap.size W W':=
 (hc.2 M0 W vs (fun b o h=>h.elim) hg hr).mono (fun e W' ⟨v,he,hb,hr',_⟩=>by
   have hv:v=.bool true:=RdC.raw_inv hr'
   rw [hv] at he
   exact ⟨he,hb⟩)
def zE:Value:=.agg #[.int .i64 0,.int .i64 0,.string ⟨#[]⟩,.string ⟨#[]⟩,.slice none 0 0]
def dI {H:Type}:DataW H:=.lit (.int .i64 0)
def dS {H:Type}:DataW H:=.lit (.string [])
def dE {H:Type}:DataW H:=.agg [dI,dI,dS,dS,.nil]
theorem trodAll_five {H:Type} {enc:TypeId×Value→H} {P:Program} {W:World} {b:Nat} {sp:Nat→Bool} {hd:Bool} {t0 t1 t2 t3 t4:TypeId} {args:Array Value} {ds:List (DataW H)} {ps:List MemPlace} (h:DataW.TrodAll enc P W b sp hd [t0,t1,t2,t3,t4] args.toList ds ps) :
 ∃ v0 v1 v2 v3 v4 d0 d1 d2 d3 d4 p0 p1 p2 p3 p4,args=#[v0,v1,v2,v3,v4]∧ds=[d0,d1,d2,d3,d4]∧ps=p0++(p1++(p2++(p3++(p4++[]))))∧DataW.Trod enc P W b sp hd t0 v0 d0 p0∧DataW.Trod enc P W b sp hd t1 v1 d1 p1∧DataW.Trod enc P W b sp hd t2 v2 d2 p2∧DataW.Trod enc P W b sp hd t3 v3 d3 p3∧DataW.Trod enc P W b sp hd t4 v4 d4 p4:=by
 obtain ⟨v0,_,d0,_,p0,_,ha,rfl,rfl,h0,h⟩:=trodAll_cons h
 obtain ⟨v1,_,d1,_,p1,_,rfl,rfl,rfl,h1,h⟩:=trodAll_cons h
 obtain ⟨v2,_,d2,_,p2,_,rfl,rfl,rfl,h2,h⟩:=trodAll_cons h
 obtain ⟨v3,_,d3,_,p3,_,rfl,rfl,rfl,h3,h⟩:=trodAll_cons h
 obtain ⟨v4,_,d4,_,p4,_,rfl,rfl,rfl,h4,h⟩:=trodAll_cons h
 obtain ⟨rfl,rfl,rfl⟩:=trodAll_nil h
 exact ⟨v0,v1,v2,v3,v4,d0,d1,d2,d3,d4,p0,p1,p2,p3,p4,by cases args;simp_all,rfl,rfl,h0,h1,h2,h3,h4⟩
theorem trodAll_six {H:Type} {enc:TypeId×Value→H} {P:Program} {W:World} {b:Nat} {sp:Nat→Bool} {hd:Bool} {t0 t1 t2 t3 t4 t5:TypeId} {args:Array Value} {ds:List (DataW H)} {ps:List MemPlace} (h:DataW.TrodAll enc P W b sp hd [t0,t1,t2,t3,t4,t5] args.toList ds ps) :
 ∃ v0 v1 v2 v3 v4 v5 d0 d1 d2 d3 d4 d5 p0 p1 p2 p3 p4 p5,args=#[v0,v1,v2,v3,v4,v5]∧ds=[d0,d1,d2,d3,d4,d5]∧ps=p0++(p1++(p2++(p3++(p4++(p5++[])))))∧DataW.Trod enc P W b sp hd t0 v0 d0 p0∧DataW.Trod enc P W b sp hd t1 v1 d1 p1∧DataW.Trod enc P W b sp hd t2 v2 d2 p2∧DataW.Trod enc P W b sp hd t3 v3 d3 p3∧DataW.Trod enc P W b sp hd t4 v4 d4 p4∧DataW.Trod enc P W b sp hd t5 v5 d5 p5:=by
 obtain ⟨v0,_,d0,_,p0,_,ha,rfl,rfl,h0,h⟩:=trodAll_cons h
 obtain ⟨v1,_,d1,_,p1,_,rfl,rfl,rfl,h1,h⟩:=trodAll_cons h
 obtain ⟨v2,_,d2,_,p2,_,rfl,rfl,rfl,h2,h⟩:=trodAll_cons h
 obtain ⟨v3,_,d3,_,p3,_,rfl,rfl,rfl,h3,h⟩:=trodAll_cons h
 obtain ⟨v4,_,d4,_,p4,_,rfl,rfl,rfl,h4,h⟩:=trodAll_cons h
 obtain ⟨v5,_,d5,_,p5,_,rfl,rfl,rfl,h5,h⟩:=trodAll_cons h
 obtain ⟨rfl,rfl,rfl⟩:=trodAll_nil h
 exact ⟨v0,v1,v2,v3,v4,v5,d0,d1,d2,d3,d4,d5,p0,p1,p2,p3,p4,p5,by cases args;simp_all,rfl,rfl,h0,h1,h2,h3,h4,h5⟩
end Go.Proofs.YtjhbbadljohadaaGreatDoor

namespace Go.Hp.T
open Go Go.RowKit Go.Slot Go.Hp Go.Slot.T
open Go.Proofs.Tryz (prog)
set_option maxRecDepth 10000
set_option maxHeartbeats 4000000
variable {Γ:List (Nat×List Cell)}
theorem lt_succ' {p:Nat→Prop} {i:Nat} (h:∀ j,j<i→p j) (hi:p i):∀ j,j<i+1→p j:=fun j hj=>by
 rcases Nat.lt_or_eq_of_le (Nat.le_of_lt_succ hj) with h2 | h2
 · exact h j h2
 · rw [h2];exact hi
theorem rLetter (c:Int):CallsD Γ prog 77 [.one (c8 c)] (.one (cB (isLetter c))):=by
 refine CallsD.run [] Go.Proofs.Tryz.func77 rfl rfl rfl ?_;simp only [Go.Proofs.Tryz.f77];refine hgR ?_
 repeat' ((first | refine hfk ?_ ?_<;>intros | refine hik ?_)<;>refine hgS ?_)
 all_goals (refine RLe.ofEq ?_;conv=>simp only [Bool.and_true,Bool.true_and,Bool.and_false,Bool.false_and,Bool.or_true,Bool.true_or,Bool.or_false,Bool.false_or,Bool.not_true,Bool.not_false,decide_true,decide_false,not_true_eq_false,not_false_eq_true,bnot_decide,if_true,if_false,Bool.and_self,Bool.or_self,cond_true,cond_false,List.length_map,ne_eq,Int.reduceEq,Int.reduceLT,Int.reduceLE, *,isLetter]);first | exact trivial | rfl
theorem rDigit (c:Int):CallsD Γ prog 78 [.one (c8 c)] (.one (cB (isDigit c))):=by
 refine CallsD.run [] Go.Proofs.Tryz.func78 rfl rfl rfl ?_;simp only [Go.Proofs.Tryz.f78];refine hgR ?_
 repeat' ((first | refine hfk ?_ ?_<;>intros | refine hik ?_)<;>refine hgS ?_)
 all_goals (refine RLe.ofEq ?_;conv=>simp only [Bool.and_true,Bool.true_and,Bool.and_false,Bool.false_and,Bool.or_true,Bool.true_or,Bool.or_false,Bool.false_or,Bool.not_true,Bool.not_false,decide_true,decide_false,not_true_eq_false,not_false_eq_true,bnot_decide,if_true,if_false,Bool.and_self,Bool.or_self,cond_true,cond_false,List.length_map,ne_eq,Int.reduceEq,Int.reduceLT,Int.reduceLE, *,isDigit]);first | exact trivial | rfl
theorem plain_no {c:Int} (h:c<32∨126<c):isPlain c=false:=by
 unfold isPlain
 rcases h with h | h
 · rw [decide_eq_false (show ¬32≤c by omega)];rfl
 · rw [decide_eq_false (show ¬c≤126 by omega),Bool.and_false]
theorem plain_yes {c:Int} (h:¬c<32) (h':¬126<c):isPlain c=true:=by
 unfold isPlain
 rw [decide_eq_true (show 32≤c by omega),decide_eq_true (show c≤126 by omega)];rfl
theorem quote_no {s:ByteArray} {i:Nat} (hi:i<s.size) (hj:∀ j,j<i→isPlain (byteAt s j)=true) (h:isPlain (byteAt s i)=false):isQuote s=false:=by
 unfold isQuote
 rw [spanF_eq (by omega) hj (.inr h),decide_eq_true (show ¬((i:Int)=s.size) by omega),Bool.or_true];rfl
theorem quote_yes {s:ByteArray} (hj:∀ j,j<s.size→isPlain (byteAt s j)=true):isQuote s=decide ((s.size:Int)≤400):=by
 unfold isQuote
 rw [spanF_eq (Nat.le_refl _) hj (.inl rfl),decide_eq_false (show ¬¬((s.size:Int)=s.size) from fun h=>h rfl),Bool.or_false]
 by_cases h:(s.size:Int)≤400
 · rw [decide_eq_true h,decide_eq_false (show ¬400<(s.size:Int) by omega)];rfl
 · rw [decide_eq_false h,decide_eq_true (show 400<(s.size:Int) by omega)];rfl
theorem rValue (s:ByteArray) (hs:s.size≤1073741824):CallsD Γ prog 127 [.one (cS s)] (.one (cB (isQuote s))):=by
 refine CallsD.run [] Go.Proofs.Tryz.func127 rfl rfl rfl ?_;simp only [Go.Proofs.Tryz.f127];refine hgR ?_
 refine hloop [0] (fun n:Nat=>[(3,.one (.dat (cI n)))]) (fun _=>[]) (fun n=>n≤s.size∧∀ j,j<n→isPlain (byteAt s j)=true) (fun n=>s.size-n) 0 ⟨Nat.zero_le _,fun j hj=>by omega⟩ ?_ ?_
 · refine hg ?_
   exact StH.same (by repeat' first | exact .nil | refine .cons (by first | exact .refl _ | exact .any _) ?_) rfl
 intro n hn
 obtain ⟨hn,hj⟩:=hn
 refine hg ?_
 repeat' ((first | refine hfk ?_ ?_<;>intros | refine hik ?_)<;>refine hgS ?_)
 · rw [quote_no (by omega) hj (plain_no (.inr (by assumption)))]
   exact RLe.ofEq rfl
 · refine ⟨n+1,⟨by omega,lt_succ' hj (plain_yes (by assumption) (by assumption))⟩,by omega,StH.same (by repeat' first | exact .nil | refine .cons (by first | exact .refl _ | exact .any _) ?_) rfl⟩
 · rw [quote_no (by omega) hj (plain_no (.inl (by assumption)))]
   exact RLe.ofEq rfl
 · have e:n=s.size:=by omega
   subst e
   rw [quote_yes hj]
   exact RLe.ofEq rfl
theorem name_no {s:ByteArray} {i:Nat} (hi:i<s.size) (hj:∀ j,j<i→isInner (byteAt s j)=true) (h:isInner (byteAt s i)=false):isName s=false:=by
 unfold isName
 rw [spanF_eq (by omega) hj (.inr h),decide_eq_false (show ¬((i:Int)=s.size) by omega),Bool.and_false]
theorem name_long {s:ByteArray} (h:¬(s.size:Int)≤20):isName s=false:=by
 unfold isName
 rw [decide_eq_false h,Bool.and_false,Bool.false_and]
theorem inner_letter {c:Int} (h:isLetter c=true):isInner c=true:=by unfold isInner;rw [h];rfl
theorem rName (s:ByteArray) (hs:s.size≤1073741824):CallsD Γ prog 45 [.one (cS s)] (.one (cB (isName s))):=by
 refine CallsD.run [] Go.Proofs.Tryz.func45 rfl rfl rfl ?_;simp only [Go.Proofs.Tryz.f45];refine hgR ?_
 repeat' ((first | refine hfk ?_ ?_<;>intros | refine hik ?_ | with_reducible first | refine hcall (rLetter _) ?_ | refine hcalle (rLetter _) ?_)<;>refine hgS ?_)
 · exact RLe.ofEq (by unfold isName;simp [*])
 · rename_i h1 _ h2 _ h3
   refine hloop [0] (fun n:Nat=>[(3,.one (.dat (cI n)))]) (fun _=>[]) (fun n=>n≤s.size∧0<n∧∀ j,j<n→isInner (byteAt s j)=true) (fun n=>s.size-n) 1 ⟨by omega,by omega,fun j hj=>?_⟩ ?_ ?_
   · have e:j=0:=by omega
     subst e;exact inner_letter h3
   · refine hg ?_
     exact StH.same (by repeat' first | exact .nil | refine .cons (by first | exact .refl _ | exact .any _) ?_) rfl
   intro n hn
   obtain ⟨hn,hn0,hj⟩:=hn
   refine hg ?_
   repeat' ((first | refine hfk ?_ ?_<;>intros | refine hik ?_ | with_reducible first | refine hcall (rLetter _) ?_ | refine hcalle (rLetter _) ?_ | refine hcall (rDigit _) ?_ | refine hcalle (rDigit _) ?_)<;>refine hgS ?_)
   · rename_i h4 h5 h6 _
     rw [name_no (by omega) hj (by unfold isInner;rw [h4,h5,decide_eq_false h6];rfl)]
     exact RLe.ofEq rfl
   · rename_i h6 _
     exact ⟨n+1,⟨by omega,by omega,lt_succ' hj (by unfold isInner;rw [decide_eq_true (show byteAt s n=95 by omega),Bool.or_true])⟩,by omega,StH.same (by repeat' first | exact .nil | refine .cons (by first | exact .refl _ | exact .any _) ?_) rfl⟩
   · rename_i h5
     exact ⟨n+1,⟨by omega,by omega,lt_succ' hj (by unfold isInner;rw [h5,Bool.or_true,Bool.true_or])⟩,by omega,StH.same (by repeat' first | exact .nil | refine .cons (by first | exact .refl _ | exact .any _) ?_) rfl⟩
   · rename_i h4
     exact ⟨n+1,⟨by omega,by omega,lt_succ' hj (inner_letter h4)⟩,by omega,StH.same (by repeat' first | exact .nil | refine .cons (by first | exact .refl _ | exact .any _) ?_) rfl⟩
   · have e:n=s.size:=by omega
     subst e
     have e:isName s=true:=by
      unfold isName
      rw [spanF_eq (Nat.le_refl _) hj (.inl rfl),h3,decide_eq_true (show ¬s.size=0 by omega),decide_eq_true (show (s.size:Int)≤20 by omega),decide_eq_true rfl];rfl
     rw [e]
     exact RLe.ofEq rfl
 · rw [name_long (by omega)];exact RLe.ofEq rfl
 · rename_i h _
   have e:s.size=0:=by omega
   exact RLe.ofEq (by unfold isName;rw [e];rfl)
def rEs (s:ByteArray):Nat→ByteArray
 | 0=>⟨#[34]⟩
 | i+1=>(bif decide (byteAt s i=34)||decide (byteAt s i=92) then rEs s i++⟨#[92]⟩ else rEs s i)++s.extract i (i+1)
theorem rEs_succ (s:ByteArray) (i:Nat):rEs s (i+1)=(bif decide (byteAt s i=34)||decide (byteAt s i=92) then rEs s i++⟨#[92]⟩ else rEs s i)++s.extract i (i+1):=by rw [rEs]
theorem rEs_len (s:ByteArray):∀ i,(rEs s i).size≤2*i+1
 | 0=>by unfold rEs;decide
 | i+1=>by
  have:=rEs_len s i
  have h2:(⟨#[92]⟩:ByteArray).size=1:=rfl
  have h3:(s.extract i (i+1)).size≤1:=by rw [ByteArray.size_extract];omega
  unfold rEs
  cases decide (byteAt s i=34)||decide (byteAt s i=92)<;>simp only [cond_true,cond_false,ByteArray.size_append]<;>omega
theorem rEscaped (s:ByteArray) (hs:s.size≤1073741824):CallsD Γ prog 128 [.one (cS s)] (.one (cS (rEs s s.size++⟨#[34]⟩))):=by
 refine CallsD.run [] Go.Proofs.Tryz.func128 rfl rfl rfl ?_;simp only [Go.Proofs.Tryz.f128];refine hgR ?_
 refine hloop [0] (fun n:Nat=>[(3,.one (.dat (cS (rEs s n)))),(4,.one (.dat (cI n)))]) (fun _=>[]) (fun n=>n≤s.size) (fun n=>s.size-n) 0 (Nat.zero_le _) ?_ ?_
 · refine hg ?_
   exact StH.same (by repeat' first | exact .nil | refine .cons (by first | exact .refl _ | exact .any _) ?_) rfl
 intro n hn
 have hl:=rEs_len s n
 have h3:(s.extract n (n+1)).size≤1:=by rw [ByteArray.size_extract];omega
 have h4:(rEs s n).size+1+(s.extract n (n+1)).size≤9223372036854775807:=by omega
 have h5:(rEs s n).size+(s.extract n (n+1)).size≤9223372036854775807:=by omega
 clear h3 hl
 refine hg ?_
 repeat' ((first | refine hfk ?_ ?_<;>intros | refine hik ?_)<;>refine hgS ?_)
 · rename_i _ _ h6 _
   have e:rEs s n++⟨#[92]⟩++s.extract n (n+1)=rEs s (n+1):=by rw [rEs_succ,decide_eq_true h6,Bool.or_true];rfl
   rw [e]
   exact ⟨n+1,by omega,by omega,StH.same (by repeat' first | exact .nil | refine .cons (by first | exact .refl _ | exact .any _) ?_) rfl⟩
 · rename_i h7 _ h6 _
   have e:rEs s n++s.extract n (n+1)=rEs s (n+1):=by rw [rEs_succ,decide_eq_false h6,decide_eq_false h7];rfl
   rw [e]
   exact ⟨n+1,by omega,by omega,StH.same (by repeat' first | exact .nil | refine .cons (by first | exact .refl _ | exact .any _) ?_) rfl⟩
 · rename_i h7 _
   have e:rEs s n++⟨#[92]⟩++s.extract n (n+1)=rEs s (n+1):=by rw [rEs_succ,decide_eq_true h7,Bool.true_or];rfl
   rw [e]
   exact ⟨n+1,by omega,by omega,StH.same (by repeat' first | exact .nil | refine .cons (by first | exact .refl _ | exact .any _) ?_) rfl⟩
 · have e:n=s.size:=by omega
   subst e
   exact RLe.ofEq rfl
theorem rQuote (s:ByteArray) (hs:s.size≤1073741824):∃ t,CallsD Γ prog 97 [.one (cS s)] (.tup [.one (cS t),.one (cB (isQuote s))]):=by
 refine ⟨bif isQuote s then rEs s s.size++⟨#[34]⟩ else ⟨#[]⟩,?_⟩
 refine CallsD.run [] Go.Proofs.Tryz.func97 rfl rfl rfl ?_;simp only [Go.Proofs.Tryz.f97];refine hgR ?_
 repeat' ((first | refine hfk ?_ ?_<;>intros | refine hik ?_ | with_reducible first | refine hcall (rValue s hs) ?_ | refine hcalle (rValue s hs) ?_ | refine hcall (rEscaped s hs) ?_ | refine hcalle (rEscaped s hs) ?_)<;>refine hgS ?_)
 all_goals (refine RLe.ofEq ?_;conv=>simp only [Bool.and_true,Bool.true_and,Bool.and_false,Bool.false_and,Bool.or_true,Bool.true_or,Bool.or_false,Bool.false_or,Bool.not_true,Bool.not_false,decide_true,decide_false,not_true_eq_false,not_false_eq_true,bnot_decide,if_true,if_false,Bool.and_self,Bool.or_self,cond_true,cond_false,List.length_map,ne_eq,Int.reduceEq,Int.reduceLT,Int.reduceLE, *,cond_true,cond_false]);first | exact trivial | rfl
end Go.Hp.T
