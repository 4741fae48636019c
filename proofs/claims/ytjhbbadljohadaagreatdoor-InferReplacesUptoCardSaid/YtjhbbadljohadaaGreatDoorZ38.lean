/- The proof, part Z38: Qf, Ob, Pa, Pb, Pc, Pd, Pe, Pf, Pg, Ph, Pi, Pj, Oc, Qg, Qh. -/
import Derived.Test.YtjhbbadljohadaaGreatDoorZ37
import Derived.Test.YtjhbbadljohadaaGreatDoorZ36
import Derived.Test.YtjhbbadljohadaaGreatDoorZ30
namespace Go.Hp.T
open Go Go.RowKit Go.Slot Go.Hp Go.Slot.T
open Go.Proofs.Tryz (prog)
set_option maxRecDepth 10000
set_option maxHeartbeats 4000000
variable {Γ:List (Nat×List Cell)}
mutual
def Ex.rewr (a b:ByteArray) (k:Int):Ex→Ex
 | .mk o n u s l=>.mk o (bif decide (o=0) then k else n) (bif decide (o=0)&&seq u a then b else u) s (Ex.rewrL a b k l)
def Ex.rewrL (a b:ByteArray) (k:Int):List Ex→List Ex
 | []=>[]
 | z::l=>Ex.rewr a b k z::Ex.rewrL a b k l
end
theorem Ex.rewrL_map (a b:ByteArray) (k:Int):∀ l:List Ex,Ex.rewrL a b k l=l.map (Ex.rewr a b k)
 | []=>by rw [Ex.rewrL];rfl
 | z::l=>by rw [Ex.rewrL,Ex.rewrL_map a b k l];rfl
theorem Ex.rewr_eq (a b:ByteArray) (k:Int) (x:Ex):Ex.rewr a b k x=.mk x.op (bif decide (x.op=0) then k else x.n) (bif decide (x.op=0)&&seq x.unit a then b else x.unit) x.name (x.args.map (Ex.rewr a b k)):=by cases x;rw [Ex.rewr,Ex.rewrL_map];rfl
theorem rewr_C (a b:ByteArray) (k:Int) (x:Ex):exC (Ex.rewr a b k x)=[cI x.op,cI (bif decide (x.op=0) then k else x.n),cS (bif decide (x.op=0)&&seq x.unit a then b else x.unit),cS x.name,.sl 5 ((x.args.map (Ex.rewr a b k)).map Ex.cells)]:=by rw [Ex.rewr_eq];rfl
def rwB (a b:ByteArray) (k:Int) (x:Ex) (o n':Int) (u':ByteArray):Nat→List SB
 | 0=>[.box [.dat (cI o),.dat (cI x.n),.dat (cS x.unit),.dat (cS x.name),.dat (.sl 5 (x.args.map Ex.cells))] (some 24),.box [.dat (cI 0),.dat (cI 0),.dat (cS ⟨⟨[]⟩⟩),.dat (cS ⟨⟨[]⟩⟩),.dat .zc] (some 24),.box [.dat (cI o),.dat (cI n'),.dat (cS u'),.dat (cS x.name),.dat (.raw (.slice none 0 0))] (some 24)]
 | n+1=>[.box [.dat (cI o),.dat (cI x.n),.dat (cS x.unit),.dat (cS x.name),.dat (.sl 5 (x.args.map Ex.cells))] (some 24),.box [.dat (cI 0),.dat (cI 0),.dat (cS ⟨⟨[]⟩⟩),.dat (cS ⟨⟨[]⟩⟩),.dat .zc] (some 24),.box [.dat (cI o),.dat (cI n'),.dat (cS u'),.dat (cS x.name),.sl 3 5 0 (n+1)] (some 24),.arr (.sl 5 ((x.args.take (n+1)).map (Ex.cells∘Ex.rewr a b k))) 0 (some 24)]
theorem cRewritten (a b:ByteArray) (k:Int):∀ x:Ex,x.Sm→CallsD Γ prog 15 [.agg (exC x),.one (cS a),.one (cS b),.one (cI k)] (.agg (exC (Ex.rewr a b k x))):=by
 refine Ex.ind (fun x ih hx=>?_)
 have hl:=hx.len
 by_cases hnil:x.args.length=0
 · have ha:x.args=[]:=List.eq_nil_of_length_eq_zero hnil
   have hR2:exC (Ex.rewr a b k x)=[cI x.op,cI (bif decide (x.op=0) then k else x.n),cS (bif decide (x.op=0)&&seq x.unit a then b else x.unit),cS x.name,.sl 5 []]:=by rw [rewr_C,ha];rfl
   rw [hR2]
   clear hR2 hnil
   refine CallsD.nil5 ?_
   refine CallsD.run [] Go.Proofs.Tryz.func15 rfl rfl rfl ?_;simp only [Go.Proofs.Tryz.f15];refine hgR ?_
   repeat' ((first | refine hfk ?_ ?_<;>intros | refine hik ?_)<;>refine hgS ?_)
   all_goals
    refine hunroll ?_
    conv=>simp (maxSteps:=2000000) (disch:=omega) only [go_sem,Nat.reduceAdd,Nat.reduceSub,Nat.reduceMul,Int.reduceToNat,Nat.reduceEqDiff,Nat.reduceBEq,Nat.reduceBneDiff,Nat.reduceLT,Int.reduceEq,Int.reduceLT,Int.reduceLE,Int.reduceNeg,Int.reduceAdd,Int.reduceSub,Int.reduceMul,ha,List.length_nil,n0]
    exact RLe.ofEq (by simp [*])
 · generalize hR:Ex.rewr a b k x=R
   refine CallsD.run [] Go.Proofs.Tryz.func15 rfl rfl rfl ?_;simp only [Go.Proofs.Tryz.f15];refine hgR ?_
   repeat' ((first | refine hfk ?_ ?_<;>intros | refine hik ?_)<;>refine hgS ?_)
   · refine hloop [1,2,3,4,8,9] (fun n:Nat=>[(10,.one (.dat (cI n)))]) (rwB a b k x 0 k b) (fun n=>n≤x.args.length) (fun n=>x.args.length-n) 0 (Nat.zero_le _) ?_ ?_
     · refine hg ?_
       exact StH.same (by repeat' first | exact .nil | refine .cons (by first | exact .refl _ | exact .any _) ?_) rfl
     intro n hn
     rcases n with _ | n
     · simp only [rwB]
       refine hg ?_
       repeat' ((first | refine hfk ?_ ?_<;>intros | refine hik ?_ | with_reducible first | refine hcall (ih _ (getD_mem (show 0<x.args.length by omega)) (hx.arg _ (getD_mem (show 0<x.args.length by omega)))) ?_ | refine hcalle (ih _ (getD_mem (show 0<x.args.length by omega)) (hx.arg _ (getD_mem (show 0<x.args.length by omega)))) ?_)<;>refine hgS ?_)
       · refine ⟨1,by omega,by omega,StH.same (by repeat' first | exact .nil | refine .cons (by first | exact .refl _ | exact .any _) ?_) ?_⟩
         have ht:(x.args.take (0+1)).map (Ex.cells∘Ex.rewr a b k)=[exC (Ex.rewr a b k (x.args.getD 0 default))]:=by
          rw [take_getD (by omega),List.take_zero]
          simp only [List.nil_append,List.map_cons,List.map_nil,Function.comp,Ex.cells_eq]
         simp only [ht]
         try rfl
       · exfalso;omega
     · simp only [rwB]
       have hlen:(x.args.take (n+1)).length=n+1:=by rw [List.length_take];omega
       conv=>simp (maxSteps:=2000000) (disch:=omega) only [go_sem,Nat.reduceAdd,Nat.reduceSub,Nat.reduceMul,Int.reduceToNat,Nat.reduceEqDiff,Nat.reduceBEq,Nat.reduceBneDiff,Nat.reduceLT,Int.reduceEq,Int.reduceLT,Int.reduceLE,Int.reduceNeg,Int.reduceAdd,Int.reduceSub,Int.reduceMul,hlen]
       repeat' ((first | refine hfk ?_ ?_<;>intros | refine hik ?_ | with_reducible first | refine hcall (ih _ (getD_mem (show n+1<x.args.length by omega)) (hx.arg _ (getD_mem (show n+1<x.args.length by omega)))) ?_ | refine hcalle (ih _ (getD_mem (show n+1<x.args.length by omega)) (hx.arg _ (getD_mem (show n+1<x.args.length by omega)))) ?_)<;>refine hgS ?_)
       · refine ⟨n+1+1,by omega,by omega,StH.back [1,2,3,4,8,9,10] 3 4 4 rfl rfl rfl rfl rfl (by kernel_rfl) (StH.same (by repeat' first | exact .nil | refine .cons (by first | exact .refl _ | exact .any _) ?_) ?_)⟩
         have ht:(x.args.take (n+1+1)).map (Ex.cells∘Ex.rewr a b k)=(x.args.take (n+1)).map (Ex.cells∘Ex.rewr a b k)++[exC (Ex.rewr a b k (x.args.getD (n+1) default))]:=by
          rw [take_getD (by omega)]
          simp only [List.map_append,List.map_cons,List.map_nil,Function.comp,Ex.cells_eq]
         simp only [ht,List.length_append,List.length_map,List.length_singleton,hlen]
         try rfl
       · have e:x.args.take (n+1)=x.args:=List.take_of_length_le (by omega)
         exact RLe.ofEq (by rw [←hR,rewr_C,e,←List.map_map];simp [*])
   · refine hloop [1,2,3,4,8,9] (fun n:Nat=>[(10,.one (.dat (cI n)))]) (rwB a b k x 0 k x.unit) (fun n=>n≤x.args.length) (fun n=>x.args.length-n) 0 (Nat.zero_le _) ?_ ?_
     · refine hg ?_
       exact StH.same (by repeat' first | exact .nil | refine .cons (by first | exact .refl _ | exact .any _) ?_) rfl
     intro n hn
     rcases n with _ | n
     · simp only [rwB]
       refine hg ?_
       repeat' ((first | refine hfk ?_ ?_<;>intros | refine hik ?_ | with_reducible first | refine hcall (ih _ (getD_mem (show 0<x.args.length by omega)) (hx.arg _ (getD_mem (show 0<x.args.length by omega)))) ?_ | refine hcalle (ih _ (getD_mem (show 0<x.args.length by omega)) (hx.arg _ (getD_mem (show 0<x.args.length by omega)))) ?_)<;>refine hgS ?_)
       · refine ⟨1,by omega,by omega,StH.same (by repeat' first | exact .nil | refine .cons (by first | exact .refl _ | exact .any _) ?_) ?_⟩
         have ht:(x.args.take (0+1)).map (Ex.cells∘Ex.rewr a b k)=[exC (Ex.rewr a b k (x.args.getD 0 default))]:=by
          rw [take_getD (by omega),List.take_zero]
          simp only [List.nil_append,List.map_cons,List.map_nil,Function.comp,Ex.cells_eq]
         simp only [ht]
         try rfl
       · exfalso;omega
     · simp only [rwB]
       have hlen:(x.args.take (n+1)).length=n+1:=by rw [List.length_take];omega
       conv=>simp (maxSteps:=2000000) (disch:=omega) only [go_sem,Nat.reduceAdd,Nat.reduceSub,Nat.reduceMul,Int.reduceToNat,Nat.reduceEqDiff,Nat.reduceBEq,Nat.reduceBneDiff,Nat.reduceLT,Int.reduceEq,Int.reduceLT,Int.reduceLE,Int.reduceNeg,Int.reduceAdd,Int.reduceSub,Int.reduceMul,hlen]
       repeat' ((first | refine hfk ?_ ?_<;>intros | refine hik ?_ | with_reducible first | refine hcall (ih _ (getD_mem (show n+1<x.args.length by omega)) (hx.arg _ (getD_mem (show n+1<x.args.length by omega)))) ?_ | refine hcalle (ih _ (getD_mem (show n+1<x.args.length by omega)) (hx.arg _ (getD_mem (show n+1<x.args.length by omega)))) ?_)<;>refine hgS ?_)
       · refine ⟨n+1+1,by omega,by omega,StH.back [1,2,3,4,8,9,10] 3 4 4 rfl rfl rfl rfl rfl (by kernel_rfl) (StH.same (by repeat' first | exact .nil | refine .cons (by first | exact .refl _ | exact .any _) ?_) ?_)⟩
         have ht:(x.args.take (n+1+1)).map (Ex.cells∘Ex.rewr a b k)=(x.args.take (n+1)).map (Ex.cells∘Ex.rewr a b k)++[exC (Ex.rewr a b k (x.args.getD (n+1) default))]:=by
          rw [take_getD (by omega)]
          simp only [List.map_append,List.map_cons,List.map_nil,Function.comp,Ex.cells_eq]
         simp only [ht,List.length_append,List.length_map,List.length_singleton,hlen]
         try rfl
       · have e:x.args.take (n+1)=x.args:=List.take_of_length_le (by omega)
         exact RLe.ofEq (by rw [←hR,rewr_C,e,←List.map_map];simp [*])
   · refine hloop [1,2,3,4,8,9] (fun n:Nat=>[(10,.one (.dat (cI n)))]) (rwB a b k x x.op x.n x.unit) (fun n=>n≤x.args.length) (fun n=>x.args.length-n) 0 (Nat.zero_le _) ?_ ?_
     · refine hg ?_
       exact StH.same (by repeat' first | exact .nil | refine .cons (by first | exact .refl _ | exact .any _) ?_) rfl
     intro n hn
     rcases n with _ | n
     · simp only [rwB]
       refine hg ?_
       repeat' ((first | refine hfk ?_ ?_<;>intros | refine hik ?_ | with_reducible first | refine hcall (ih _ (getD_mem (show 0<x.args.length by omega)) (hx.arg _ (getD_mem (show 0<x.args.length by omega)))) ?_ | refine hcalle (ih _ (getD_mem (show 0<x.args.length by omega)) (hx.arg _ (getD_mem (show 0<x.args.length by omega)))) ?_)<;>refine hgS ?_)
       · refine ⟨1,by omega,by omega,StH.same (by repeat' first | exact .nil | refine .cons (by first | exact .refl _ | exact .any _) ?_) ?_⟩
         have ht:(x.args.take (0+1)).map (Ex.cells∘Ex.rewr a b k)=[exC (Ex.rewr a b k (x.args.getD 0 default))]:=by
          rw [take_getD (by omega),List.take_zero]
          simp only [List.nil_append,List.map_cons,List.map_nil,Function.comp,Ex.cells_eq]
         simp only [ht]
         try rfl
       · exfalso;omega
     · simp only [rwB]
       have hlen:(x.args.take (n+1)).length=n+1:=by rw [List.length_take];omega
       conv=>simp (maxSteps:=2000000) (disch:=omega) only [go_sem,Nat.reduceAdd,Nat.reduceSub,Nat.reduceMul,Int.reduceToNat,Nat.reduceEqDiff,Nat.reduceBEq,Nat.reduceBneDiff,Nat.reduceLT,Int.reduceEq,Int.reduceLT,Int.reduceLE,Int.reduceNeg,Int.reduceAdd,Int.reduceSub,Int.reduceMul,hlen]
       repeat' ((first | refine hfk ?_ ?_<;>intros | refine hik ?_ | with_reducible first | refine hcall (ih _ (getD_mem (show n+1<x.args.length by omega)) (hx.arg _ (getD_mem (show n+1<x.args.length by omega)))) ?_ | refine hcalle (ih _ (getD_mem (show n+1<x.args.length by omega)) (hx.arg _ (getD_mem (show n+1<x.args.length by omega)))) ?_)<;>refine hgS ?_)
       · refine ⟨n+1+1,by omega,by omega,StH.back [1,2,3,4,8,9,10] 3 4 4 rfl rfl rfl rfl rfl (by kernel_rfl) (StH.same (by repeat' first | exact .nil | refine .cons (by first | exact .refl _ | exact .any _) ?_) ?_)⟩
         have ht:(x.args.take (n+1+1)).map (Ex.cells∘Ex.rewr a b k)=(x.args.take (n+1)).map (Ex.cells∘Ex.rewr a b k)++[exC (Ex.rewr a b k (x.args.getD (n+1) default))]:=by
          rw [take_getD (by omega)]
          simp only [List.map_append,List.map_cons,List.map_nil,Function.comp,Ex.cells_eq]
         simp only [ht,List.length_append,List.length_map,List.length_singleton,hlen]
         try rfl
       · have e:x.args.take (n+1)=x.args:=List.take_of_length_le (by omega)
         exact RLe.ofEq (by rw [←hR,rewr_C,e,←List.map_map];simp [*])
end Go.Hp.T

namespace Go.Hp.T
open Go Go.RowKit Go.Slot Go.Hp Go.Slot.T
open Go.Proofs.Tryz (prog)
set_option maxRecDepth 10000
set_option maxHeartbeats 4000000
def vs15:List Vr:=[⟨⟨⟨[109,97,115,115]⟩⟩,⟨1,0,0,0,0,0⟩⟩,⟨⟨⟨[119,97,121]⟩⟩,⟨0,1,0,0,0,0⟩⟩,⟨⟨⟨[104,111,117,114]⟩⟩,⟨0,0,0,0,0,0⟩⟩]
def ms15:List Tb:=[⟨⟨⟨[103,114,105,100]⟩⟩,⟨⟨[103,47,74]⟩⟩,[]⟩]
theorem cVars:CallsD Gs prog 36 [] (.one (.sl 7 (vs15.map Vr.C))):=
 CallsD.fv (N:=1000) (n:=60) OkD.none (by kernel_rfl)
theorem CallsD.uz1 {f:FuncId} {args:List AV} {c:Cell} (k:Nat) (h:CallsD Gs prog f args (.one c)):CallsD Gs prog f args (.one (uz k c)):=
 ⟨h.1,fun M w vs hM hg hr=>(h.2 M w vs hM hg hr).mono (fun _ _ ⟨v,h1,h2,h3,h4⟩=>⟨v,h1,h2,RdC.uz k h3,fun hh=>by cases hh⟩)⟩
theorem cTables0:CallsD Gs prog 37 [] (.one (.sl 3 [[cS ⟨⟨[103,114,105,100]⟩⟩,cS ⟨⟨[103,47,74]⟩⟩,.zc]])):=
 CallsD.fv (N:=1000) (n:=60) OkD.none (by kernel_rfl)
theorem cTables:CallsD Gs prog 37 [] (.one (.sl 3 (ms15.map Tb.C))):=by
 have h:=CallsD.uz1 2 cTables0
 have e:uz 2 (.sl 3 [[cS ⟨⟨[103,114,105,100]⟩⟩,cS ⟨⟨[103,47,74]⟩⟩,.zc]])=.sl 3 (ms15.map Tb.C):=by kernel_rfl
 exact e▸h
theorem cOf15 (x:Ex) (hx:x.Sm):CallsD Gs prog 9 [.agg (exC x),.one (.sl 7 (vs15.map Vr.C)),.one (.sl 3 (ms15.map Tb.C))] (tyR (ofF x vs15 ms15)):=
 cInferOf x vs15 ms15 hx (by decide) (by decide) (by decide) (fun t ht=>by
  cases List.mem_singleton.1 ht
  exact ⟨by decide,by decide,by decide⟩)
theorem flTy:(flatT prog 9 32=some 7)=True:=eq_true (by kernel_rfl)
theorem agTy:aggT prog 32=true:=by kernel_rfl
theorem egTy:prog.eqGuardType prog.depth 32=false:=by kernel_rfl
theorem fitTy (t:Bool) (a b c d e f:Int):fitT prog 9 32 [.bool t,.int .i64 a,.int .i64 b,.int .i64 c,.int .i64 d,.int .i64 e,.int .i64 f]=true:=by kernel_rfl
attribute [go_sem] flTy agTy egTy fitTy
def isF (r:Ty×Int) (t:Bool) (d:Dm):Bool:=decide (r.2=0)&&((r.1.t==t)&&decide (r.1.d=d))
def wrongF (r:Ty×Int) (e:Int):Bool:=decide (r.2=e)&&(!r.1.t&&decide (r.1.d=Dm.zero))
theorem cIs (s:ByteArray) (x:Ex) (hp:CallsD Gs prog 35 [.one (cS s)] (parR x)) (hx:x.Sm) (t:Bool) (d:Dm):CallsD Gs prog 17 [.one (cS s),.one (cB t),.agg (dmC d)] (.one (cB (isF (ofF x vs15 ms15) t d))):=by
 have h1:=cOf15 x hx
 generalize ofF x vs15 ms15=r at h1 ⊢
 refine CallsD.run [] Go.Proofs.Tryz.func17 rfl rfl rfl ?_;simp only [Go.Proofs.Tryz.f17];refine hgR ?_
 repeat' ((first | refine hfk ?_ ?_<;>intros | refine hik ?_ | with_reducible first | refine hcall (hp) ?_ | refine hcalle (hp) ?_ | refine hcall (cVars) ?_ | refine hcalle (cVars) ?_ | refine hcall (cTables) ?_ | refine hcalle (cTables) ?_ | refine hcall (h1) ?_ | refine hcalle (h1) ?_)<;>refine hgS ?_)
 all_goals (refine RLe.ofEq ?_;conv=>simp only [Bool.and_true,Bool.true_and,Bool.and_false,Bool.false_and,Bool.or_true,Bool.true_or,Bool.or_false,Bool.false_or,Bool.not_true,Bool.not_false,decide_true,decide_false,not_true_eq_false,not_false_eq_true,bnot_decide,if_true,if_false,Bool.and_self,Bool.or_self,cond_true,cond_false,List.length_map,ne_eq,Int.reduceEq,Int.reduceLT,Int.reduceLE, *,isF]);first | exact trivial | rfl
theorem cWrong (s:ByteArray) (x:Ex) (hp:CallsD Gs prog 35 [.one (cS s)] (parR x)) (hx:x.Sm) (e:Int):CallsD Gs prog 18 [.one (cS s),.one (cI e)] (.one (cB (wrongF (ofF x vs15 ms15) e))):=by
 have h1:=cOf15 x hx
 generalize ofF x vs15 ms15=r at h1 ⊢
 refine CallsD.run [] Go.Proofs.Tryz.func18 rfl rfl rfl ?_;simp only [Go.Proofs.Tryz.f18];refine hgR ?_
 repeat' ((first | refine hfk ?_ ?_<;>intros | refine hik ?_ | with_reducible first | refine hcall (hp) ?_ | refine hcalle (hp) ?_ | refine hcall (cVars) ?_ | refine hcalle (cVars) ?_ | refine hcall (cTables) ?_ | refine hcalle (cTables) ?_ | refine hcall (h1) ?_ | refine hcalle (h1) ?_)<;>refine hgS ?_)
 all_goals (refine RLe.ofEq ?_;conv=>simp only [Bool.and_true,Bool.true_and,Bool.and_false,Bool.false_and,Bool.or_true,Bool.true_or,Bool.or_false,Bool.false_or,Bool.not_true,Bool.not_false,decide_true,decide_false,not_true_eq_false,not_false_eq_true,bnot_decide,if_true,if_false,Bool.and_self,Bool.or_self,cond_true,cond_false,List.length_map,ne_eq,Int.reduceEq,Int.reduceLT,Int.reduceLE, *,wrongF]);first | exact trivial | rfl
end Go.Hp.T

namespace Go.Hp.T
open Go Go.RowKit Go.Slot Go.Hp
open Go.Proofs.Tryz (prog)
set_option maxRecDepth 100000
theorem par0:CallsD Gs prog 35 [strAV sx0] (parR ex0):=
 CallsD.uzE 5 (cs:=[(.raw (.int .i64 8)),(.raw (.int .i64 0)),(.raw (.string ⟨⟨[]⟩⟩)),(.raw (.string ⟨⟨[]⟩⟩)),(.sl 5 [[(.raw (.int .i64 1)),(.raw (.int .i64 0)),(.raw (.string ⟨⟨[]⟩⟩)),(.raw (.string ⟨⟨[109,97,115,115]⟩⟩)),.zc],[(.raw (.int .i64 1)),(.raw (.int .i64 0)),(.raw (.string ⟨⟨[]⟩⟩)),(.raw (.string ⟨⟨[119,97,121]⟩⟩)),.zc]])]) (CallsD.fv (N:=1000) (n:=60) OkD.none (by kernel_rfl)) (by kernel_rfl)
end Go.Hp.T

namespace Go.Hp.T
open Go Go.RowKit Go.Slot Go.Hp
open Go.Proofs.Tryz (prog)
set_option maxRecDepth 100000
theorem par1:CallsD Gs prog 35 [strAV sx1] (parR ex1):=
 CallsD.uzE 5 (cs:=[(.raw (.int .i64 6)),(.raw (.int .i64 0)),(.raw (.string ⟨⟨[]⟩⟩)),(.raw (.string ⟨⟨[]⟩⟩)),(.sl 5 [[(.raw (.int .i64 1)),(.raw (.int .i64 0)),(.raw (.string ⟨⟨[]⟩⟩)),(.raw (.string ⟨⟨[109,97,115,115]⟩⟩)),.zc],[(.raw (.int .i64 0)),(.raw (.int .i64 2)),(.raw (.string ⟨⟨[]⟩⟩)),(.raw (.string ⟨⟨[]⟩⟩)),.zc]])]) (CallsD.fv (N:=1000) (n:=60) OkD.none (by kernel_rfl)) (by kernel_rfl)
end Go.Hp.T

namespace Go.Hp.T
open Go Go.RowKit Go.Slot Go.Hp
open Go.Proofs.Tryz (prog)
set_option maxRecDepth 100000
theorem par2:CallsD Gs prog 35 [strAV sx2] (parR ex2):=
 CallsD.uzE 5 (cs:=[(.raw (.int .i64 2)),(.raw (.int .i64 0)),(.raw (.string ⟨⟨[]⟩⟩)),(.raw (.string ⟨⟨[103,114,105,100]⟩⟩)),(.sl 5 [[(.raw (.int .i64 1)),(.raw (.int .i64 0)),(.raw (.string ⟨⟨[]⟩⟩)),(.raw (.string ⟨⟨[109,97,115,115]⟩⟩)),.zc]])]) (CallsD.fv (N:=1000) (n:=60) OkD.none (by kernel_rfl)) (by kernel_rfl)
end Go.Hp.T

namespace Go.Hp.T
open Go Go.RowKit Go.Slot Go.Hp
open Go.Proofs.Tryz (prog)
set_option maxRecDepth 100000
theorem par3:CallsD Gs prog 35 [strAV sx3] (parR ex3):=
 CallsD.uzE 5 (cs:=[(.raw (.int .i64 2)),(.raw (.int .i64 0)),(.raw (.string ⟨⟨[]⟩⟩)),(.raw (.string ⟨⟨[109,97,115,115]⟩⟩)),(.sl 5 [[(.raw (.int .i64 1)),(.raw (.int .i64 0)),(.raw (.string ⟨⟨[]⟩⟩)),(.raw (.string ⟨⟨[104,111,117,114]⟩⟩)),.zc]])]) (CallsD.fv (N:=1000) (n:=60) OkD.none (by kernel_rfl)) (by kernel_rfl)
end Go.Hp.T

namespace Go.Hp.T
open Go Go.RowKit Go.Slot Go.Hp
open Go.Proofs.Tryz (prog)
set_option maxRecDepth 100000
theorem par4:CallsD Gs prog 35 [strAV sx4] (parR ex4):=
 CallsD.uzE 5 (cs:=[(.raw (.int .i64 5)),(.raw (.int .i64 0)),(.raw (.string ⟨⟨[]⟩⟩)),(.raw (.string ⟨⟨[]⟩⟩)),(.sl 5 [[(.raw (.int .i64 1)),(.raw (.int .i64 0)),(.raw (.string ⟨⟨[]⟩⟩)),(.raw (.string ⟨⟨[109,97,115,115]⟩⟩)),.zc],[(.raw (.int .i64 1)),(.raw (.int .i64 0)),(.raw (.string ⟨⟨[]⟩⟩)),(.raw (.string ⟨⟨[119,97,121]⟩⟩)),.zc],[(.raw (.int .i64 1)),(.raw (.int .i64 0)),(.raw (.string ⟨⟨[]⟩⟩)),(.raw (.string ⟨⟨[119,97,121]⟩⟩)),.zc]])]) (CallsD.fv (N:=1000) (n:=60) OkD.none (by kernel_rfl)) (by kernel_rfl)
end Go.Hp.T

namespace Go.Hp.T
open Go Go.RowKit Go.Slot Go.Hp
open Go.Proofs.Tryz (prog)
set_option maxRecDepth 100000
theorem par5:CallsD Gs prog 35 [strAV sx5] (parR ex5):=
 CallsD.uzE 5 (cs:=[(.raw (.int .i64 6)),(.raw (.int .i64 0)),(.raw (.string ⟨⟨[]⟩⟩)),(.raw (.string ⟨⟨[]⟩⟩)),(.sl 5 [[(.raw (.int .i64 1)),(.raw (.int .i64 0)),(.raw (.string ⟨⟨[]⟩⟩)),(.raw (.string ⟨⟨[109,97,115,115]⟩⟩)),.zc],[(.raw (.int .i64 0)),(.raw (.int .i64 2)),(.raw (.string ⟨⟨[107,103]⟩⟩)),(.raw (.string ⟨⟨[]⟩⟩)),.zc]])]) (CallsD.fv (N:=1000) (n:=60) OkD.none (by kernel_rfl)) (by kernel_rfl)
end Go.Hp.T

namespace Go.Hp.T
open Go Go.RowKit Go.Slot Go.Hp
open Go.Proofs.Tryz (prog)
set_option maxRecDepth 100000
theorem par6:CallsD Gs prog 35 [strAV sx6] (parR ex6):=
 CallsD.uzE 5 (cs:=[(.raw (.int .i64 8)),(.raw (.int .i64 0)),(.raw (.string ⟨⟨[]⟩⟩)),(.raw (.string ⟨⟨[]⟩⟩)),(.sl 5 [[(.raw (.int .i64 2)),(.raw (.int .i64 0)),(.raw (.string ⟨⟨[]⟩⟩)),(.raw (.string ⟨⟨[103,114,105,100]⟩⟩)),(.sl 5 [[(.raw (.int .i64 1)),(.raw (.int .i64 0)),(.raw (.string ⟨⟨[]⟩⟩)),(.raw (.string ⟨⟨[104,111,117,114]⟩⟩)),.zc]])],[(.raw (.int .i64 0)),(.raw (.int .i64 3)),(.raw (.string ⟨⟨[107,87,104]⟩⟩)),(.raw (.string ⟨⟨[]⟩⟩)),.zc]])]) (CallsD.fv (N:=1000) (n:=60) OkD.none (by kernel_rfl)) (by kernel_rfl)
end Go.Hp.T

namespace Go.Hp.T
open Go Go.RowKit Go.Slot Go.Hp
open Go.Proofs.Tryz (prog)
set_option maxRecDepth 100000
theorem par7:CallsD Gs prog 35 [strAV sx7] (parR ex7):=
 CallsD.uzE 5 (cs:=[(.raw (.int .i64 2)),(.raw (.int .i64 0)),(.raw (.string ⟨⟨[]⟩⟩)),(.raw (.string ⟨⟨[103,114,105,100]⟩⟩)),(.sl 5 [[(.raw (.int .i64 12)),(.raw (.int .i64 0)),(.raw (.string ⟨⟨[]⟩⟩)),(.raw (.string ⟨⟨[]⟩⟩)),(.sl 5 [[(.raw (.int .i64 1)),(.raw (.int .i64 0)),(.raw (.string ⟨⟨[]⟩⟩)),(.raw (.string ⟨⟨[109,97,115,115]⟩⟩)),.zc],[(.raw (.int .i64 1)),(.raw (.int .i64 0)),(.raw (.string ⟨⟨[]⟩⟩)),(.raw (.string ⟨⟨[109,97,115,115]⟩⟩)),.zc]])]])]) (CallsD.fv (N:=1000) (n:=60) OkD.none (by kernel_rfl)) (by kernel_rfl)
end Go.Hp.T

namespace Go.Hp.T
open Go Go.RowKit Go.Slot Go.Hp
open Go.Proofs.Tryz (prog)
set_option maxRecDepth 100000
theorem par8:CallsD Gs prog 35 [strAV sx8] (parR ex8):=
 CallsD.uzE 5 (cs:=[(.raw (.int .i64 5)),(.raw (.int .i64 0)),(.raw (.string ⟨⟨[]⟩⟩)),(.raw (.string ⟨⟨[]⟩⟩)),(.sl 5 [[(.raw (.int .i64 12)),(.raw (.int .i64 0)),(.raw (.string ⟨⟨[]⟩⟩)),(.raw (.string ⟨⟨[]⟩⟩)),(.sl 5 [[(.raw (.int .i64 1)),(.raw (.int .i64 0)),(.raw (.string ⟨⟨[]⟩⟩)),(.raw (.string ⟨⟨[109,97,115,115]⟩⟩)),.zc],[(.raw (.int .i64 0)),(.raw (.int .i64 1)),(.raw (.string ⟨⟨[116]⟩⟩)),(.raw (.string ⟨⟨[]⟩⟩)),.zc]])],[(.raw (.int .i64 1)),(.raw (.int .i64 0)),(.raw (.string ⟨⟨[]⟩⟩)),(.raw (.string ⟨⟨[119,97,121]⟩⟩)),.zc],[(.raw (.int .i64 0)),(.raw (.int .i64 5)),(.raw (.string ⟨⟨[109]⟩⟩)),(.raw (.string ⟨⟨[]⟩⟩)),.zc]])]) (CallsD.fv (N:=1000) (n:=60) OkD.none (by kernel_rfl)) (by kernel_rfl)
end Go.Hp.T

namespace Go.Hp.T
open Go Go.RowKit Go.Slot Go.Hp
open Go.Proofs.Tryz (prog)
set_option maxRecDepth 100000
theorem par9:CallsD Gs prog 35 [strAV sx9] (parR ex9):=
 CallsD.uzE 5 (cs:=[(.raw (.int .i64 14)),(.raw (.int .i64 0)),(.raw (.string ⟨⟨[]⟩⟩)),(.raw (.string ⟨⟨[]⟩⟩)),(.sl 5 [[(.raw (.int .i64 12)),(.raw (.int .i64 0)),(.raw (.string ⟨⟨[]⟩⟩)),(.raw (.string ⟨⟨[]⟩⟩)),(.sl 5 [[(.raw (.int .i64 1)),(.raw (.int .i64 0)),(.raw (.string ⟨⟨[]⟩⟩)),(.raw (.string ⟨⟨[109,97,115,115]⟩⟩)),.zc],[(.raw (.int .i64 1)),(.raw (.int .i64 0)),(.raw (.string ⟨⟨[]⟩⟩)),(.raw (.string ⟨⟨[119,97,121]⟩⟩)),.zc]])],[(.raw (.int .i64 1)),(.raw (.int .i64 0)),(.raw (.string ⟨⟨[]⟩⟩)),(.raw (.string ⟨⟨[104,111,117,114]⟩⟩)),.zc]])]) (CallsD.fv (N:=1000) (n:=60) OkD.none (by kernel_rfl)) (by kernel_rfl)
end Go.Hp.T

namespace Go.Hp.T
open Go Go.RowKit Go.Slot Go.Hp Go.Slot.T
open Go.Proofs.Tryz (prog)
set_option maxRecDepth 100000
set_option maxHeartbeats 4000000
mutual
def Ex.smB:Ex→Bool
 | .mk _ _ u s l=>Nat.ble l.length 1073741824&&Nat.ble u.size 1073741824&&Nat.ble s.size 1073741824&&Ex.smBL l
def Ex.smBL:List Ex→Bool
 | []=>true
 | x::l=>Ex.smB x&&Ex.smBL l
end
theorem Ex.smBL_all:∀ l:List Ex,Ex.smBL l=l.all Ex.smB
 | []=>by rw [Ex.smBL];rfl
 | x::l=>by rw [Ex.smBL,Ex.smBL_all l];rfl
theorem Ex.Sm.of:∀ x:Ex,x.smB=true→x.Sm:=by
 refine Ex.ind ?_
 intro x ih h
 cases x with
 | mk o n u s l=>
  rw [Ex.smB,Ex.smBL_all] at h
  simp only [Bool.and_eq_true,Nat.ble_eq,List.all_eq_true] at h
  obtain ⟨⟨⟨h1,h2⟩,h3⟩,h4⟩:=h
  exact .mk _ h1 h2 h3 (fun y hy=>ih y hy (h4 y hy))
theorem sn0:CallsD Gs prog 17 [.one (cS ⟨⟨[109,97,115,115,32,42,32,119,97,121]⟩⟩),.one (cB false),.agg [cI 1,cI 1,cI 0,cI 0,cI 0,cI 0]] (.one (cB true)):=by
 have e:isF (ofF ex0 vs15 ms15) false ⟨1,1,0,0,0,0⟩=true:=by kernel_rfl
 have h:=cIs ⟨⟨sx0⟩⟩ ex0 par0 (Ex.Sm.of _ (by kernel_rfl)) false ⟨1,1,0,0,0,0⟩
 rw [e] at h
 exact h
theorem sn1:CallsD Gs prog 17 [.one (cS ⟨⟨[109,97,115,115,32,43,32,50,32,34,107,103,34]⟩⟩),.one (cB false),.agg [cI 1,cI 0,cI 0,cI 0,cI 0,cI 0]] (.one (cB true)):=by
 have e:isF (ofF ex5 vs15 ms15) false ⟨1,0,0,0,0,0⟩=true:=by kernel_rfl
 have h:=cIs ⟨⟨sx5⟩⟩ ex5 par5 (Ex.Sm.of _ (by kernel_rfl)) false ⟨1,0,0,0,0,0⟩
 rw [e] at h
 exact h
theorem sn2:CallsD Gs prog 18 [.one (cS ⟨⟨[109,97,115,115,32,43,32,50]⟩⟩),.one (cI 14)] (.one (cB true)):=by
 have e:wrongF (ofF ex1 vs15 ms15) 14=true:=by kernel_rfl
 have h:=cWrong ⟨⟨sx1⟩⟩ ex1 par1 (Ex.Sm.of _ (by kernel_rfl)) 14
 rw [e] at h
 exact h
theorem sn3:CallsD Gs prog 17 [.one (cS ⟨⟨[108,111,111,107,40,103,114,105,100,44,32,104,111,117,114,41,32,42,32,51,32,34,107,87,104,34]⟩⟩),.one (cB false),.agg [cI 1,cI 0,cI 0,cI 0,cI 0,cI 0]] (.one (cB true)):=by
 have e:isF (ofF ex6 vs15 ms15) false ⟨1,0,0,0,0,0⟩=true:=by kernel_rfl
 have h:=cIs ⟨⟨sx6⟩⟩ ex6 par6 (Ex.Sm.of _ (by kernel_rfl)) false ⟨1,0,0,0,0,0⟩
 rw [e] at h
 exact h
theorem sn4:CallsD Gs prog 18 [.one (cS ⟨⟨[108,111,111,107,40,103,114,105,100,44,32,109,97,115,115,41]⟩⟩),.one (cI 14)] (.one (cB true)):=by
 have e:wrongF (ofF ex2 vs15 ms15) 14=true:=by kernel_rfl
 have h:=cWrong ⟨⟨sx2⟩⟩ ex2 par2 (Ex.Sm.of _ (by kernel_rfl)) 14
 rw [e] at h
 exact h
theorem sn5:CallsD Gs prog 18 [.one (cS ⟨⟨[108,111,111,107,40,103,114,105,100,44,32,109,97,115,115,32,60,32,109,97,115,115,41]⟩⟩),.one (cI 13)] (.one (cB true)):=by
 have e:wrongF (ofF ex7 vs15 ms15) 13=true:=by kernel_rfl
 have h:=cWrong ⟨⟨sx7⟩⟩ ex7 par7 (Ex.Sm.of _ (by kernel_rfl)) 13
 rw [e] at h
 exact h
theorem sn6:CallsD Gs prog 18 [.one (cS ⟨⟨[108,111,111,107,40,109,97,115,115,44,32,104,111,117,114,41]⟩⟩),.one (cI 11)] (.one (cB true)):=by
 have e:wrongF (ofF ex3 vs15 ms15) 11=true:=by kernel_rfl
 have h:=cWrong ⟨⟨sx3⟩⟩ ex3 par3 (Ex.Sm.of _ (by kernel_rfl)) 11
 rw [e] at h
 exact h
theorem sn7:CallsD Gs prog 17 [.one (cS ⟨⟨[105,102,32,40,109,97,115,115,32,60,32,49,32,34,116,34,41,32,116,104,101,110,32,119,97,121,32,101,108,115,101,32,53,32,34,109,34]⟩⟩),.one (cB false),.agg [cI 0,cI 1,cI 0,cI 0,cI 0,cI 0]] (.one (cB true)):=by
 have e:isF (ofF ex8 vs15 ms15) false ⟨0,1,0,0,0,0⟩=true:=by kernel_rfl
 have h:=cIs ⟨⟨sx8⟩⟩ ex8 par8 (Ex.Sm.of _ (by kernel_rfl)) false ⟨0,1,0,0,0,0⟩
 rw [e] at h
 exact h
theorem sn8:CallsD Gs prog 18 [.one (cS ⟨⟨[105,102,32,109,97,115,115,32,116,104,101,110,32,119,97,121,32,101,108,115,101,32,119,97,121]⟩⟩),.one (cI 13)] (.one (cB true)):=by
 have e:wrongF (ofF ex4 vs15 ms15) 13=true:=by kernel_rfl
 have h:=cWrong ⟨⟨sx4⟩⟩ ex4 par4 (Ex.Sm.of _ (by kernel_rfl)) 13
 rw [e] at h
 exact h
theorem sn9:CallsD Gs prog 18 [.one (cS ⟨⟨[40,109,97,115,115,32,60,32,119,97,121,41,32,97,110,100,32,104,111,117,114]⟩⟩),.one (cI 14)] (.one (cB true)):=by
 have e:wrongF (ofF ex9 vs15 ms15) 14=true:=by kernel_rfl
 have h:=cWrong ⟨⟨sx9⟩⟩ ex9 par9 (Ex.Sm.of _ (by kernel_rfl)) 14
 rw [e] at h
 exact h
theorem cSane:CallsD Gs prog 7 [] (.one (cB true)):=by
 refine CallsD.run [] Go.Proofs.Tryz.func7 rfl rfl rfl ?_;simp only [Go.Proofs.Tryz.f7];refine hgR ?_
 repeat' ((first | refine hfk ?_ ?_<;>intros | refine hik ?_ | with_reducible first | refine hcall (sn0) ?_ | refine hcalle (sn0) ?_ | refine hcall (sn1) ?_ | refine hcalle (sn1) ?_ | refine hcall (sn2) ?_ | refine hcalle (sn2) ?_ | refine hcall (sn3) ?_ | refine hcalle (sn3) ?_ | refine hcall (sn4) ?_ | refine hcalle (sn4) ?_ | refine hcall (sn5) ?_ | refine hcalle (sn5) ?_ | refine hcall (sn6) ?_ | refine hcalle (sn6) ?_ | refine hcall (sn7) ?_ | refine hcalle (sn7) ?_ | refine hcall (sn8) ?_ | refine hcalle (sn8) ?_ | refine hcall (sn9) ?_ | refine hcalle (sn9) ?_)<;>refine hgS ?_)
 all_goals (refine RLe.ofEq ?_;conv=>simp only [Bool.and_true,Bool.true_and,Bool.and_false,Bool.false_and,Bool.or_true,Bool.true_or,Bool.or_false,Bool.false_or,Bool.not_true,Bool.not_false,decide_true,decide_false,not_true_eq_false,not_false_eq_true,bnot_decide,if_true,if_false,Bool.and_self,Bool.or_self,cond_true,cond_false,List.length_map,ne_eq,Int.reduceEq,Int.reduceLT,Int.reduceLE, *]);first | exact trivial | rfl
end Go.Hp.T

namespace Go.Hp.T
open Go Go.RowKit Go.Slot Go.Hp Go.Slot.T
open Go.Proofs.Tryz (prog)
set_option maxRecDepth 10000
set_option maxHeartbeats 4000000
theorem wReplaces (x y:Ex) (w:Int) (vs:List Vr) (ms:List Tb) (hx:x.Sm) (hy:y.Sm) (hz:∀ nm,(Ex.repl nm y x).Sm) (hw:0≤w) (hw2:w≤255) (hv:vs.length≤1073741824) (hm:ms.length≤1073741824) (hvn:∀ v∈vs,v.name.size≤1073741824) (hms:∀ t∈ms,t.Sm)
 (H:∀ v∈vs,(ofF y vs ms).2=0→(ofF y vs ms).1=⟨false,v.d⟩→exRight x=true→exRight (Ex.repl v.name y x)=true→ofF (Ex.repl v.name y x) vs ms=ofF x vs ms) :
 CallsD Gs prog 4 [.agg (exC x),.agg (exC y),.one (.raw (.int .u8 w)),.one (.sl 7 (vs.map Vr.C)),.one (.sl 3 (ms.map Tb.C))] (.one (cB true)):=by
 have s1:=cSane
 have f1:=rFew15 (Γ:=Gs) x hx vs ms hv hm
 have f2:=rFew15 (Γ:=Gs) y hy vs ms hv hm
 have f3:=rFew (Γ:=Gs) x hx 30 12 (by decide) (by decide) (by decide) (by decide)
 have f4:=rFew (Γ:=Gs) y hy 30 12 (by decide) (by decide) (by decide) (by decide)
 generalize few15 x vs ms=b1 at f1
 generalize few15 y vs ms=b2 at f2
 generalize decide (0≤x.rsz 30 12)=b3 at f3
 generalize decide (0≤y.rsz 30 12)=b4 at f4
 refine CallsD.run [] Go.Proofs.Tryz.func4 rfl rfl rfl ?_;simp only [Go.Proofs.Tryz.f4];refine hgR ?_
 repeat' ((first | refine hfk ?_ ?_<;>intros | refine hik ?_ | with_reducible first | refine hcall (s1) ?_ | refine hcalle (s1) ?_ | refine hcall (f1) ?_ | refine hcalle (f1) ?_ | refine hcall (f2) ?_ | refine hcalle (f2) ?_ | refine hcall (f3) ?_ | refine hcalle (f3) ?_ | refine hcall (f4) ?_ | refine hcalle (f4) ?_)<;>refine hgS ?_)
 all_goals first
  | exact RLe.ofEq rfl
  | skip
 have hpos:0<vs.length:=by omega
 have q1:0≤w.tmod ↑vs.length:=Int.tmod_nonneg _ hw
 have q2:(w.tmod ↑vs.length).toNat<vs.length:=by
  have:=Int.tmod_lt_of_pos w (show (0:Int)<vs.length by omega)
  omega
 have hvm:=getD_mem q2
 have H2:=H _ hvm
 have o1:=cInferOf (Γ:=Gs) x vs ms hx hv hm hvn hms
 have o2:=cInferOf (Γ:=Gs) y vs ms hy hv hm hvn hms
 generalize (w.tmod ↑vs.length).toNat=j at q2 hvm H2
 clear H
 generalize vs.getD j default=v at H2 hvm ⊢
 have o3:=cInferOf (Γ:=Gs) (Ex.repl v.name y x) vs ms (hz _) hv hm hvn hms
 have p1:=cRight (Γ:=Gs) x hx
 have p2:=cRight (Γ:=Gs) (Ex.repl v.name y x) (hz _)
 have p3:=cReplaced (Γ:=Gs) v.name y x hx
 generalize ofF x vs ms=r1 at o1 H2
 generalize ofF y vs ms=r2 at o2 H2
 generalize ofF (Ex.repl v.name y x) vs ms=r3 at o3 H2
 generalize exRight x=e1 at p1 H2
 generalize exRight (Ex.repl v.name y x)=e2 at p2 H2
 generalize Ex.repl v.name y x=z at p2 p3 o3
 clear hz hvm hvn hms
 conv=>simp (maxSteps:=2000000) (disch:=omega) only [go_sem,Nat.reduceAdd,Nat.reduceSub,Nat.reduceMul,Int.reduceToNat,Nat.reduceEqDiff,Nat.reduceBEq,Nat.reduceBneDiff,Nat.reduceLT,Int.reduceEq,Int.reduceLT,Int.reduceLE,Int.reduceNeg,Int.reduceAdd,Int.reduceSub,Int.reduceMul,q1,q2]
 clear q1 q2
 obtain ⟨r1t,r1e⟩:=r1
 obtain ⟨⟨u,d⟩,ue⟩:=r2
 obtain ⟨r3t,r3e⟩:=r3
 simp only at H2 o1 o2 o3
 repeat' ((first | refine hfk ?_ ?_<;>intros | refine hik ?_ | with_reducible first | refine hcall (o1) ?_ | refine hcalle (o1) ?_ | refine hcall (o2) ?_ | refine hcalle (o2) ?_ | refine hcall (o3) ?_ | refine hcalle (o3) ?_ | refine hcall (p1) ?_ | refine hcalle (p1) ?_ | refine hcall (p2) ?_ | refine hcalle (p2) ?_ | refine hcall (p3) ?_ | refine hcalle (p3) ?_)<;>refine hgS ?_)
 all_goals first
  | exact RLe.ofEq rfl
  | (refine RLe.ofEq ?_;simp_all)
  | (exfalso;simp_all)
  | skip
end Go.Hp.T

namespace Go.Hp.T
open Go Go.RowKit Go.Slot Go.Hp
set_option maxRecDepth 10000
theorem seq_refl (s:ByteArray):seq s s=true:=by rw [seq_dec];exact decide_eq_true rfl
theorem seq_eq {a b:ByteArray} (h:seq a b=true):a=b:=by rw [seq_dec] at h;exact of_decide_eq_true h
theorem lookF_upd {α:Type} (d:α) (s:ByteArray):∀ V:List (ByteArray×α),lookF (updF V s d) s=some d
 | []=>by simp [updF,lookF,seq_refl]
 | p::V=>by
  unfold updF
  cases h:seq s p.1 with
  | true=>simp [lookF,seq_refl]
  | false=>simp [lookF,h,lookF_upd d s V]
theorem lookF_upd_ne {α:Type} (d:α) {s s':ByteArray} (hs:seq s' s=false):∀ V:List (ByteArray×α),lookF (updF V s d) s'=lookF V s'
 | []=>by simp [updF,lookF,hs]
 | p::V=>by
  unfold updF
  cases h:seq s p.1 with
  | true=>have e:=seq_eq h;subst e;simp [lookF,hs]
  | false=>simp [lookF,lookF_upd_ne d hs V]
theorem updF_len {α:Type} (d:α) (s:ByteArray):∀ V:List (ByteArray×α),(updF V s d).length≤V.length+1∧((updF V s d).length=V.length+1→lookF V s=none)
 | []=>⟨by simp [updF],fun _=>rfl⟩
 | p::V=>by
  unfold updF
  cases h:seq s p.1 with
  | true=>exact ⟨by simp,fun h2=>by simp at h2⟩
  | false=>
   have:=updF_len d s V
   exact ⟨by simp;omega,fun h2=>by simp at h2;simp [lookF,h,this.2 h2]⟩
theorem rV_len:∀(vs:List Vr) (V W:List (ByteArray×Dm)),rV V vs=some W→W.length≤V.length+vs.length
 | [],V,W,h=>by rw [rV] at h;cases h;simp
 | v::vs,V,W,h=>by
  rw [rV] at h
  cases hb:(!isName v.name||isWord v.name||!dRight v.d) with
  | true=>rw [hb] at h;cases h
  | false=>
   rw [hb] at h
   have h1:=rV_len vs _ W h
   have h2:=(updF_len v.d v.name V).1
   simp only [List.length_cons]
   omega
theorem rV_look:∀(vs:List Vr) (V W:List (ByteArray×Dm)),rV V vs=some W→W.length=V.length+vs.length→(∀ v∈vs,lookF W v.name=some v.d)∧(∀ s d,lookF V s=some d→lookF W s=some d)
 | [],V,W,h,_=>by rw [rV] at h;cases h;exact ⟨fun v hv=>by simp at hv,fun s d hd=>hd⟩
 | v::vs,V,W,h,hlen=>by
  rw [rV] at h
  cases hb:(!isName v.name||isWord v.name||!dRight v.d) with
  | true=>rw [hb] at h;cases h
  | false=>
   rw [hb] at h
   have h1:=rV_len vs _ W h
   have h2:=updF_len v.d v.name V
   simp only [List.length_cons] at hlen
   have h3:(updF V v.name v.d).length=V.length+1:=by omega
   obtain ⟨h4,h5⟩:=rV_look vs _ W h (by omega)
   have hn:=h2.2 h3
   refine ⟨fun u hu=>?_,fun s d hd=>?_⟩
   · rcases List.mem_cons.1 hu with rfl | hu
     · exact h5 _ _ (lookF_upd _ _ _)
     · exact h4 u hu
   · refine h5 s d ?_
     cases hs:seq s v.name with
     | true=>have e:=seq_eq hs;subst e;rw [hn] at hd;cases hd
     | false=>rw [lookF_upd_ne _ hs];exact hd
theorem readF_look {vs:List Vr} {ms:List Tb} {V T:List (ByteArray×Dm)} (h:readF vs ms=some (V,T)):∀ v∈vs,lookF V v.name=some v.d:=by
 unfold readF at h
 cases hV:rV [] vs with
 | none=>rw [hV] at h;cases h
 | some W=>
  rw [hV] at h
  simp only at h
  cases hT:rT W [] ms with
  | none=>rw [hT] at h;cases h
  | some U=>
   rw [hT] at h
   simp only at h
   cases hd:(decide ((W.length:Int)=vs.length)&&decide ((U.length:Int)=ms.length)) with
   | false=>rw [hd] at h;cases h
   | true=>
    rw [hd] at h
    cases h
    rw [Bool.and_eq_true,decide_eq_true_iff] at hd
    exact (rV_look vs [] V hV (by simp;omega)).1
theorem node_one {x:Ex} (h:exNode x=true) (ho:x.op=1):x.args=[]:=by
 unfold exNode at h
 rw [ho] at h
 simp at h
 exact h.2.2
theorem repl_call (nm:ByteArray) (y:Ex) (hy:y.hasCall=false):∀ x:Ex,x.shaped=true→(Ex.repl nm y x).hasCall=x.hasCall:=by
 refine Ex.ind (fun x ih hx=>?_)
 rw [Ex.shaped_eq,Bool.and_eq_true,List.all_eq_true] at hx
 rw [Ex.repl_eq]
 cases hc:(decide (x.op=1)&&seq x.name nm) with
 | true=>
  rw [Bool.and_eq_true,decide_eq_true_iff] at hc
  rw [Ex.hasCall_eq x,node_one hx.1 hc.1,hc.1]
  simpa using hy
 | false=>
  rw [cond_false,Ex.hasCall_eq,Ex.hasCall_eq x]
  congr 1
  show (x.args.map (Ex.repl nm y)).any Ex.hasCall=_
  rw [List.any_map]
  refine Bool.eq_iff_iff.2 ?_
  simp only [List.any_eq_true,Function.comp]
  exact ⟨fun ⟨z,h1,h2⟩=>⟨z,h1,by rw [←ih z h1 (hx.2 z h1)];exact h2⟩,fun ⟨z,h1,h2⟩=>⟨z,h1,by rw [ih z h1 (hx.2 z h1)];exact h2⟩⟩
theorem repl_ty (V T:List (ByteArray×Dm)) (nm:ByteArray) (y:Ex) (d:Dm) (hy:y.ty V T=(⟨false,d⟩,0)) (hl:lookF V nm=some d):∀ x:Ex,x.shaped=true→(Ex.repl nm y x).ty V T=x.ty V T:=by
 refine Ex.ind (fun x ih hx=>?_)
 rw [Ex.shaped_eq,Bool.and_eq_true,List.all_eq_true] at hx
 rw [Ex.repl_eq]
 cases hc:(decide (x.op=1)&&seq x.name nm) with
 | true=>
  rw [Bool.and_eq_true,decide_eq_true_iff] at hc
  have e:=seq_eq hc.2
  rw [cond_true,hy,Ex.ty_eq,node_one hx.1 hc.1]
  unfold leafF
  rw [hc.1,e,hl]
  rfl
 | false=>
  rw [cond_false,Ex.ty_eq,Ex.ty_eq V T x]
  have hL:∀ l:List Ex,(∀ z∈l,z∈x.args)→Ex.tyL V T (l.map (Ex.repl nm y))=Ex.tyL V T l:=by
   intro l
   induction l with
   | nil=>intro _;rfl
   | cons z l ihl=>
    intro h
    have hz:=h z (by simp)
    rw [List.map_cons,Ex.tyL,Ex.tyL,ih z hz (hx.2 z hz),ihl (fun w hw=>h w (by simp [hw]))]
  show (bif decide (((x.args.map (Ex.repl nm y)).length:Int)=0) then leafF V (.mk x.op x.n x.unit x.name (x.args.map (Ex.repl nm y))) else match Ex.tyL V T (x.args.map (Ex.repl nm y)) with | .inl e=>(Ty.zero,e) | .inr ts=>nodeF T x.op x.name ts)=_
  rw [List.length_map,hL x.args (fun z h=>h)]
  rfl
theorem lawReplaces (x y:Ex) (vs:List Vr) (ms:List Tb):∀ v∈vs,(ofF y vs ms).2=0→(ofF y vs ms).1=⟨false,v.d⟩→exRight x=true→exRight (Ex.repl v.name y x)=true→ofF (Ex.repl v.name y x) vs ms=ofF x vs ms:=by
 intro v hv h1 h2 h3 h4
 unfold ofF at h1 h2 ⊢
 cases hy:(!exRight y||y.hasCall) with
 | true=>rw [hy] at h1;cases h1
 | false=>
  rw [hy] at h1 h2
  simp only [Bool.or_eq_false_iff] at hy
  cases hr:readF vs ms with
  | none=>rw [hr] at h1;cases h1
  | some p=>
   obtain ⟨V,T⟩:=p
   rw [hr] at h1 h2
   simp only [cond_false] at h1 h2
   have hty:y.ty V T=(⟨false,v.d⟩,0):=Prod.ext h2 h1
   have hsh:x.shaped=true:=by unfold exRight at h3;rw [Bool.and_eq_true] at h3;exact h3.2
   rw [h3,h4,repl_call v.name y hy.2 x hsh]
   simp only
   rw [repl_ty V T v.name y v.d hty (readF_look hr v hv) x hsh]
end Go.Hp.T
