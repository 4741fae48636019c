/- The proof, part W34: 7a, 7b, 7e, 7f. -/
import Derived.Test.YtbdoipfmafbhoaaGreatDoorW33
import Derived.Test.YtbdoipfmafbhoaaGreatDoorW29
namespace Go.Hp.T
open Go Go.RowKit Go.Slot Go.Hp Go.Slot.T
open Go.Proofs.Tryz (prog)
attribute [local irreducible] hide RH
set_option maxRecDepth 10000
set_option maxHeartbeats 8000000
variable {Γ:List (Nat×List Cell)}
theorem zo4 {α:Type} [Inhabited α] {p:α->Bool} {l:List α} {i:Nat} (h:i<l.length) (hp:p (l.getD i default)=false):l.all p=false:=by
 rw [List.all_eq_false];exact ⟨_,wax h,by rw [hp];simp⟩
theorem xyf {α:Type} [Inhabited α] {p:α->Bool} {l:List α} (h:∀ j,j<l.length->p (l.getD j default)=true):l.all p=true:=by
 rw [List.all_eq_true];intro x hx;obtain ⟨j,hj,rfl⟩:=List.getElem_of_mem hx
 have:=h j hj
 rw [List.getD_eq_getElem?_getD,List.getElem?_eq_getElem hj] at this;simpa using this
def sz60 (s:ByteArray):Bool:=decide ((s.size:Int)<=60)
def wa5 (l:List ByteArray) (n:Int):Bool:=decide ((l.length:Int)<=n)&&l.all sz60
theorem v00 (l:List ByteArray) (n:Int) (hl:l.length<=8589934592):CallsD Γ prog 26 [.one (xan l),.one (cI n)] (.one (cB (wa5 l n))):=by
 unfold wa5;refine CallsD.run [] Go.Proofs.Tryz.func26 rfl rfl rfl ?_;simp only [Go.Proofs.Tryz.f26];refine hgR ?_;refine wwt [0,1] (fun i:Nat=>[(5,.one (.dat (cI i)))]) (fun _=>[]) (fun i=>i<=l.length/\∀ j,j<i->sz60 (l.getD j default)=true) (fun i=>l.length-i) 0 ⟨Nat.zero_le _,fun j hj=>by omega⟩ ?_ ?_
 . refine hg ?_;exact StH.same svl rfl
 rintro i ⟨hi,hj⟩;generalize hR:(decide ((l.length:Int)<=n)&&l.all sz60)=R
 have e1:i<l.length->¬(((l.getD i default).size:Int)<=60)->R=false:=fun h h'=>by
  rw [<-hR,zo4 h (decide_eq_false h'),Bool.and_false]
 have e2:¬i<l.length->R=decide ((l.length:Int)<=n):=fun h=>by
  rw [<-hR,xyf (fun j hjl=>hj j (by omega)),Bool.and_true]
 have e3:¬(l.length:Int)<=n->R=false:=fun h=>by rw [<-hR,decide_eq_false h];rfl
 clear hR;refine hg ?_
 repeat' ((first | refine hfk ?_ ?_<;>intros | refine hik ?_)<;>refine hgS ?_)
 all_goals first
  | (refine ⟨i+1,⟨by omega,zbh hj (decide_eq_true (by omega))⟩,by omega,StH.same svl rfl⟩)
  | exact RLe.ofEq rfl
  | exact RLe.ofEq (by rw [decide_eq_false (by omega)])
def zto (y:Stp):Bool:=wa5 y.inn 102&&(wa5 y.out 102&&(wa5 y.cells 102&&wa5 [y.name] 1))
def zp1 (l:List Stp):Bool:=(decide ((l.length:Int)<=30)||(decide (99<=(l.length:Int))&&decide ((l.length:Int)<=102)))&&l.all zto
theorem ypp (l:List Stp) (hl:l.length<=1073741824) (h:∀ y∈l,y.Sm):CallsD Γ prog 28 [.one (.sl 6 (l.map Stp.C))] (.one (cB (zp1 l))):=by
 unfold zp1;refine CallsD.run [] Go.Proofs.Tryz.func28 rfl rfl rfl ?_;simp only [Go.Proofs.Tryz.f28];refine hgR ?_;refine wwt [0] (fun i:Nat=>[(3,.one (.dat (cI i)))]) (fun _=>[]) (fun i=>i<=l.length/\∀ j,j<i->zto (l.getD j default)=true) (fun i=>l.length-i) 0 ⟨Nat.zero_le _,fun j hj=>by omega⟩ ?_ ?_
 . refine hg ?_;exact StH.same svl rfl
 rintro i ⟨hi,hj⟩;generalize hR:((decide ((l.length:Int)<=30)||(decide (99<=(l.length:Int))&&decide ((l.length:Int)<=102)))&&l.all zto)=R
 have e1:i<l.length->zto (l.getD i default)=false->R=false:=fun h h'=>by
  rw [<-hR,zo4 h h',Bool.and_false]
 have e2:¬i<l.length->R=(decide ((l.length:Int)<=30)||(decide (99<=(l.length:Int))&&decide ((l.length:Int)<=102))):=fun h=>by
  rw [<-hR,xyf (fun j hjl=>hj j (by omega)),Bool.and_true]
 have e3:102<(l.length:Int)->R=false:=fun h=>by rw [<-hR,decide_eq_false (by omega),decide_eq_false (show ¬(l.length:Int)<=102 by omega)];simp
 clear hR;by_cases hlt:i<l.length
 . have hy:=h _ (wax hlt);have c1:=v00 (Γ:=Γ) (l.getD i default).inn 102 (by have:=hy.il;omega);have c2:=v00 (Γ:=Γ) (l.getD i default).out 102 (by have:=hy.ol;omega);have c3:=v00 (Γ:=Γ) (l.getD i default).cells 102 (by have:=hy.cl;omega);have c4:CallsD Γ prog 26 [.one (.sl 1 [[cS (l.getD i default).name]]),.one (cI 1)] (.one (cB (wa5 [(l.getD i default).name] 1))):=v00 [(l.getD i default).name] 1 (by simp);have e4:zto (l.getD i default)=(wa5 (l.getD i default).inn 102&&(wa5 (l.getD i default).out 102&&(wa5 (l.getD i default).cells 102&&wa5 [(l.getD i default).name] 1))):=rfl;generalize wa5 (l.getD i default).inn 102=b1 at *;generalize wa5 (l.getD i default).out 102=b2 at *;generalize wa5 (l.getD i default).cells 102=b3 at *;generalize wa5 [(l.getD i default).name] 1=b4 at *;clear e2 hy h;refine hg ?_
   repeat' ((first | refine hfk ?_ ?_<;>intros | refine hik ?_ | with_reducible first | refine y5k (c1) ?_ | refine x4p (c1) ?_ | refine y5k (c2) ?_ | refine x4p (c2) ?_ | refine y5k (c3) ?_ | refine x4p (c3) ?_ | refine y5k (c4) ?_ | refine x4p (c4) ?_)<;>refine hgS ?_)
   all_goals try (exfalso;omega)
   all_goals first
    | (refine ⟨i+1,⟨by omega,zbh hj (by rw [e4];simp [*])⟩,by omega,?_⟩
       refine StH.cutN [0,3] 0 rfl ?_ ?_
       . refine hg ?_
         first | exact trivial | rfl
       exact StH.same svl rfl)
    | exact RLe.ofEq rfl
    | exact RLe.ofEq (by rw [decide_eq_false (by omega)])
    | exact RLe.ofEq (by rw [e1 hlt (by rw [e4];simp [*])])
    | exact RLe.ofEq (by rw [e3 (by omega)])
    | exact RLe.ofEq (by rw [e3 (by omega),decide_eq_false (by omega)])
 . have e2:=e2 hlt;clear e1 e3 h;refine hg ?_
   repeat' ((first | refine hfk ?_ ?_<;>intros | refine hik ?_)<;>refine hgS ?_)
   all_goals try (exfalso;omega)
   all_goals exact RLe.ofEq (by simp)
def x8d (x:Ex):Bool:=decide (0<=x.rsz 60 12)||(!decide (0<=x.rsz 200 20)&&decide (0<=x.rsz 260 30))
theorem zo8 (x:Ex) (hx:x.Sm):CallsD Γ prog 29 [.agg (exC x)] (.one (cB (x8d x))):=by
 have c1:=rFew (Γ:=Γ) x hx 60 12 (by decide) (by decide) (by decide) (by decide);have c2:=rFew (Γ:=Γ) x hx 200 20 (by decide) (by decide) (by decide) (by decide);have c3:=rFew (Γ:=Γ) x hx 260 30 (by decide) (by decide) (by decide) (by decide);unfold x8d;generalize decide (0<=x.rsz 60 12)=b1 at *;generalize decide (0<=x.rsz 200 20)=b2 at *;generalize decide (0<=x.rsz 260 30)=b3 at *;refine CallsD.run [] Go.Proofs.Tryz.func29 rfl rfl rfl ?_;simp only [Go.Proofs.Tryz.f29];refine hgR ?_
 repeat' ((first | refine hfk ?_ ?_<;>intros | refine hik ?_ | with_reducible first | refine y5k (c1) ?_ | refine x4p (c1) ?_ | refine y5k (c2) ?_ | refine x4p (c2) ?_ | refine y5k (c3) ?_ | refine x4p (c3) ?_)<;>refine hgS ?_)
 all_goals refine lfE ?_;first | exact trivial | rfl
def v7l (s:Sht):List ByteArray:=s.imports.map Imp.name++s.inputs.map Inp.name++s.tables.map Tb.name++s.funcs.map Fnc.name++s.cells.map Cel.name++s.ports.map Por.name++s.stores.map Sto.name
theorem zau (s:Sht) (hs:s.Sm):CallsD Γ prog 27 [.agg (shtC s)] (.one (xan (v7l s))):=by
 unfold v7l;have h1:=hs.il;have h2:=hs.nl;have h3:=hs.tl;have h4:=hs.fl;have h5:=hs.cl;have h6:=hs.pl;have h7:=hs.sl;clear hs;refine CallsD.run [] Go.Proofs.Tryz.func27 rfl rfl rfl ?_;simp only [Go.Proofs.Tryz.f27];refine hgR ?_
 repeat' ((first | refine hfk ?_ ?_<;>intros | refine hik ?_)<;>refine hgS ?_)
 refine wwt [1] (fun p:Nat×List ByteArray=>[(3,.one (.sl 1 1 0 p.2.length)),(4,.one (.dat (cI p.1)))]) (fun p=>[.box ((shtC s).map .dat) (some 31),.arr (xan p.2) 0 (some 9)])
  (fun p=>p.1<=s.imports.length/\p.2=([]:List ByteArray)++(s.imports.take p.1).map Imp.name) (fun p=>s.imports.length-p.1) (0,([]:List ByteArray)) ⟨Nat.zero_le _,by simp⟩ ?_ ?_
 . refine hg ?_;refine StH.trans (StH.empty (d:=3) (es:=1) (c:=.sl 1 []) (T:=some 9) rfl rfl (fun r hr=>by cases hr) rfl) ?_;refine hg ?_;exact StH.same svl rfl
 rintro ⟨i,acc0⟩ ⟨hi,ha⟩;dsimp only at hi ha
 have hal:acc0.length<=1073741824:=by rw [ha];simp;omega
 refine hg ?_;refine zcl (fun hlt _=>?_) (fun hlt _=>?_)
 . have hlt':i<s.imports.length:=by omega
   refine hg ?_
   repeat' ((first | refine hfk ?_ ?_<;>intros | refine hik ?_)<;>refine hgS ?_)
   refine ⟨(i+1,acc0++[(s.imports.getD i default).name]),⟨by dsimp only;omega,?_⟩,by dsimp only;omega,?_⟩
   . dsimp only;rw [ha,List.take_succ_eq_append_getElem hlt',List.getD_eq_getElem?_getD,List.getElem?_eq_getElem hlt',List.map_append];simp
   refine StH.back [1,3,4] 1 2 2 rfl rfl rfl rfl rfl (by kernel_rfl) ?_;simp only
   conv=>simp (maxSteps:=2000000) (disch:=omega) only [go_sem,Nat.reduceAdd,Nat.reduceSub,Nat.reduceMul,Int.reduceToNat,Nat.reduceEqDiff,Nat.reduceBEq,Nat.reduceBneDiff,Nat.reduceLT,Int.reduceEq,Int.reduceLT,Int.reduceLE,Int.reduceNeg,Int.reduceAdd,Int.reduceSub,Int.reduceMul,List.length_append,List.length_singleton]
   exact StH.same svl (by simp only [xan,List.map_append,List.map_cons,List.map_nil];rfl)
 rw [List.take_of_length_le (show s.imports.length<=i by omega)] at ha;rw [<-List.nil_append (s.imports.map Imp.name),<-ha];clear ha hlt hi;refine hg ?_;refine wwt [1] (fun p:Nat×List ByteArray=>[(3,.one (.sl 1 1 0 p.2.length)),(5,.one (.dat (cI p.1)))]) (fun p=>[.box ((shtC s).map .dat) (some 31),.arr (xan p.2) 0 (some 9)])
  (fun p=>p.1<=s.inputs.length/\p.2=acc0++(s.inputs.take p.1).map Inp.name) (fun p=>s.inputs.length-p.1) (0,acc0) ⟨Nat.zero_le _,by simp⟩ ?_ ?_
 . refine hg ?_;exact StH.same svl rfl
 rintro ⟨i,acc1⟩ ⟨hi,ha⟩;dsimp only at hi ha
 have hal:acc1.length<=2147483648:=by rw [ha];simp;omega
 refine hg ?_;refine zcl (fun hlt _=>?_) (fun hlt _=>?_)
 . have hlt':i<s.inputs.length:=by omega
   refine hg ?_
   repeat' ((first | refine hfk ?_ ?_<;>intros | refine hik ?_)<;>refine hgS ?_)
   refine ⟨(i+1,acc1++[(s.inputs.getD i default).name]),⟨by dsimp only;omega,?_⟩,by dsimp only;omega,?_⟩
   . dsimp only;rw [ha,List.take_succ_eq_append_getElem hlt',List.getD_eq_getElem?_getD,List.getElem?_eq_getElem hlt',List.map_append];simp
   refine StH.back [1,3,5] 1 2 2 rfl rfl rfl rfl rfl (by kernel_rfl) ?_;simp only
   conv=>simp (maxSteps:=2000000) (disch:=omega) only [go_sem,Nat.reduceAdd,Nat.reduceSub,Nat.reduceMul,Int.reduceToNat,Nat.reduceEqDiff,Nat.reduceBEq,Nat.reduceBneDiff,Nat.reduceLT,Int.reduceEq,Int.reduceLT,Int.reduceLE,Int.reduceNeg,Int.reduceAdd,Int.reduceSub,Int.reduceMul,List.length_append,List.length_singleton]
   exact StH.same svl (by simp only [xan,List.map_append,List.map_cons,List.map_nil];rfl)
 rw [List.take_of_length_le (show s.inputs.length<=i by omega)] at ha;rw [<-ha];clear ha hlt hi;refine hg ?_;refine wwt [1] (fun p:Nat×List ByteArray=>[(3,.one (.sl 1 1 0 p.2.length)),(6,.one (.dat (cI p.1)))]) (fun p=>[.box ((shtC s).map .dat) (some 31),.arr (xan p.2) 0 (some 9)])
  (fun p=>p.1<=s.tables.length/\p.2=acc1++(s.tables.take p.1).map Tb.name) (fun p=>s.tables.length-p.1) (0,acc1) ⟨Nat.zero_le _,by simp⟩ ?_ ?_
 . refine hg ?_;exact StH.same svl rfl
 rintro ⟨i,acc2⟩ ⟨hi,ha⟩;dsimp only at hi ha
 have hal:acc2.length<=3221225472:=by rw [ha];simp;omega
 refine hg ?_;refine zcl (fun hlt _=>?_) (fun hlt _=>?_)
 . have hlt':i<s.tables.length:=by omega
   refine hg ?_
   repeat' ((first | refine hfk ?_ ?_<;>intros | refine hik ?_)<;>refine hgS ?_)
   refine ⟨(i+1,acc2++[(s.tables.getD i default).name]),⟨by dsimp only;omega,?_⟩,by dsimp only;omega,?_⟩
   . dsimp only;rw [ha,List.take_succ_eq_append_getElem hlt',List.getD_eq_getElem?_getD,List.getElem?_eq_getElem hlt',List.map_append];simp
   refine StH.back [1,3,6] 1 2 2 rfl rfl rfl rfl rfl (by kernel_rfl) ?_;simp only
   conv=>simp (maxSteps:=2000000) (disch:=omega) only [go_sem,Nat.reduceAdd,Nat.reduceSub,Nat.reduceMul,Int.reduceToNat,Nat.reduceEqDiff,Nat.reduceBEq,Nat.reduceBneDiff,Nat.reduceLT,Int.reduceEq,Int.reduceLT,Int.reduceLE,Int.reduceNeg,Int.reduceAdd,Int.reduceSub,Int.reduceMul,List.length_append,List.length_singleton]
   exact StH.same svl (by simp only [xan,List.map_append,List.map_cons,List.map_nil];rfl)
 rw [List.take_of_length_le (show s.tables.length<=i by omega)] at ha;rw [<-ha];clear ha hlt hi;refine hg ?_;refine wwt [1] (fun p:Nat×List ByteArray=>[(3,.one (.sl 1 1 0 p.2.length)),(7,.one (.dat (cI p.1)))]) (fun p=>[.box ((shtC s).map .dat) (some 31),.arr (xan p.2) 0 (some 9)])
  (fun p=>p.1<=s.funcs.length/\p.2=acc2++(s.funcs.take p.1).map Fnc.name) (fun p=>s.funcs.length-p.1) (0,acc2) ⟨Nat.zero_le _,by simp⟩ ?_ ?_
 . refine hg ?_;exact StH.same svl rfl
 rintro ⟨i,acc3⟩ ⟨hi,ha⟩;dsimp only at hi ha
 have hal:acc3.length<=4294967296:=by rw [ha];simp;omega
 refine hg ?_;refine zcl (fun hlt _=>?_) (fun hlt _=>?_)
 . have hlt':i<s.funcs.length:=by omega
   refine hg ?_
   repeat' ((first | refine hfk ?_ ?_<;>intros | refine hik ?_)<;>refine hgS ?_)
   refine ⟨(i+1,acc3++[(s.funcs.getD i default).name]),⟨by dsimp only;omega,?_⟩,by dsimp only;omega,?_⟩
   . dsimp only;rw [ha,List.take_succ_eq_append_getElem hlt',List.getD_eq_getElem?_getD,List.getElem?_eq_getElem hlt',List.map_append];simp
   refine StH.back [1,3,7] 1 2 2 rfl rfl rfl rfl rfl (by kernel_rfl) ?_;simp only
   conv=>simp (maxSteps:=2000000) (disch:=omega) only [go_sem,Nat.reduceAdd,Nat.reduceSub,Nat.reduceMul,Int.reduceToNat,Nat.reduceEqDiff,Nat.reduceBEq,Nat.reduceBneDiff,Nat.reduceLT,Int.reduceEq,Int.reduceLT,Int.reduceLE,Int.reduceNeg,Int.reduceAdd,Int.reduceSub,Int.reduceMul,List.length_append,List.length_singleton]
   exact StH.same svl (by simp only [xan,List.map_append,List.map_cons,List.map_nil];rfl)
 rw [List.take_of_length_le (show s.funcs.length<=i by omega)] at ha;rw [<-ha];clear ha hlt hi;refine hg ?_;refine wwt [1] (fun p:Nat×List ByteArray=>[(3,.one (.sl 1 1 0 p.2.length)),(8,.one (.dat (cI p.1)))]) (fun p=>[.box ((shtC s).map .dat) (some 31),.arr (xan p.2) 0 (some 9)])
  (fun p=>p.1<=s.cells.length/\p.2=acc3++(s.cells.take p.1).map Cel.name) (fun p=>s.cells.length-p.1) (0,acc3) ⟨Nat.zero_le _,by simp⟩ ?_ ?_
 . refine hg ?_;exact StH.same svl rfl
 rintro ⟨i,acc4⟩ ⟨hi,ha⟩;dsimp only at hi ha
 have hal:acc4.length<=5368709120:=by rw [ha];simp;omega
 refine hg ?_;refine zcl (fun hlt _=>?_) (fun hlt _=>?_)
 . have hlt':i<s.cells.length:=by omega
   refine hg ?_
   repeat' ((first | refine hfk ?_ ?_<;>intros | refine hik ?_)<;>refine hgS ?_)
   refine ⟨(i+1,acc4++[(s.cells.getD i default).name]),⟨by dsimp only;omega,?_⟩,by dsimp only;omega,?_⟩
   . dsimp only;rw [ha,List.take_succ_eq_append_getElem hlt',List.getD_eq_getElem?_getD,List.getElem?_eq_getElem hlt',List.map_append];simp
   refine StH.back [1,3,8] 1 2 2 rfl rfl rfl rfl rfl (by kernel_rfl) ?_;simp only
   conv=>simp (maxSteps:=2000000) (disch:=omega) only [go_sem,Nat.reduceAdd,Nat.reduceSub,Nat.reduceMul,Int.reduceToNat,Nat.reduceEqDiff,Nat.reduceBEq,Nat.reduceBneDiff,Nat.reduceLT,Int.reduceEq,Int.reduceLT,Int.reduceLE,Int.reduceNeg,Int.reduceAdd,Int.reduceSub,Int.reduceMul,List.length_append,List.length_singleton]
   exact StH.same svl (by simp only [xan,List.map_append,List.map_cons,List.map_nil];rfl)
 rw [List.take_of_length_le (show s.cells.length<=i by omega)] at ha;rw [<-ha];clear ha hlt hi;refine hg ?_;refine wwt [1] (fun p:Nat×List ByteArray=>[(3,.one (.sl 1 1 0 p.2.length)),(9,.one (.dat (cI p.1)))]) (fun p=>[.box ((shtC s).map .dat) (some 31),.arr (xan p.2) 0 (some 9)])
  (fun p=>p.1<=s.ports.length/\p.2=acc4++(s.ports.take p.1).map Por.name) (fun p=>s.ports.length-p.1) (0,acc4) ⟨Nat.zero_le _,by simp⟩ ?_ ?_
 . refine hg ?_;exact StH.same svl rfl
 rintro ⟨i,acc5⟩ ⟨hi,ha⟩;dsimp only at hi ha
 have hal:acc5.length<=6442450944:=by rw [ha];simp;omega
 refine hg ?_;refine zcl (fun hlt _=>?_) (fun hlt _=>?_)
 . have hlt':i<s.ports.length:=by omega
   refine hg ?_
   repeat' ((first | refine hfk ?_ ?_<;>intros | refine hik ?_)<;>refine hgS ?_)
   refine ⟨(i+1,acc5++[(s.ports.getD i default).name]),⟨by dsimp only;omega,?_⟩,by dsimp only;omega,?_⟩
   . dsimp only;rw [ha,List.take_succ_eq_append_getElem hlt',List.getD_eq_getElem?_getD,List.getElem?_eq_getElem hlt',List.map_append];simp
   refine StH.back [1,3,9] 1 2 2 rfl rfl rfl rfl rfl (by kernel_rfl) ?_;simp only
   conv=>simp (maxSteps:=2000000) (disch:=omega) only [go_sem,Nat.reduceAdd,Nat.reduceSub,Nat.reduceMul,Int.reduceToNat,Nat.reduceEqDiff,Nat.reduceBEq,Nat.reduceBneDiff,Nat.reduceLT,Int.reduceEq,Int.reduceLT,Int.reduceLE,Int.reduceNeg,Int.reduceAdd,Int.reduceSub,Int.reduceMul,List.length_append,List.length_singleton]
   exact StH.same svl (by simp only [xan,List.map_append,List.map_cons,List.map_nil];rfl)
 rw [List.take_of_length_le (show s.ports.length<=i by omega)] at ha;rw [<-ha];clear ha hlt hi;refine hg ?_;refine wwt [1] (fun p:Nat×List ByteArray=>[(3,.one (.sl 1 1 0 p.2.length)),(10,.one (.dat (cI p.1)))]) (fun p=>[.box ((shtC s).map .dat) (some 31),.arr (xan p.2) 0 (some 9)])
  (fun p=>p.1<=s.stores.length/\p.2=acc5++(s.stores.take p.1).map Sto.name) (fun p=>s.stores.length-p.1) (0,acc5) ⟨Nat.zero_le _,by simp⟩ ?_ ?_
 . refine hg ?_;exact StH.same svl rfl
 rintro ⟨i,acc6⟩ ⟨hi,ha⟩;dsimp only at hi ha
 have hal:acc6.length<=7516192768:=by rw [ha];simp;omega
 refine hg ?_;refine zcl (fun hlt _=>?_) (fun hlt _=>?_)
 . have hlt':i<s.stores.length:=by omega
   refine hg ?_
   repeat' ((first | refine hfk ?_ ?_<;>intros | refine hik ?_)<;>refine hgS ?_)
   refine ⟨(i+1,acc6++[(s.stores.getD i default).name]),⟨by dsimp only;omega,?_⟩,by dsimp only;omega,?_⟩
   . dsimp only;rw [ha,List.take_succ_eq_append_getElem hlt',List.getD_eq_getElem?_getD,List.getElem?_eq_getElem hlt',List.map_append];simp
   refine StH.back [1,3,10] 1 2 2 rfl rfl rfl rfl rfl (by kernel_rfl) ?_;simp only
   conv=>simp (maxSteps:=2000000) (disch:=omega) only [go_sem,Nat.reduceAdd,Nat.reduceSub,Nat.reduceMul,Int.reduceToNat,Nat.reduceEqDiff,Nat.reduceBEq,Nat.reduceBneDiff,Nat.reduceLT,Int.reduceEq,Int.reduceLT,Int.reduceLE,Int.reduceNeg,Int.reduceAdd,Int.reduceSub,Int.reduceMul,List.length_append,List.length_singleton]
   exact StH.same svl (by simp only [xan,List.map_append,List.map_cons,List.map_nil];rfl)
 rw [List.take_of_length_le (show s.stores.length<=i by omega)] at ha;rw [<-ha];clear ha hlt hi;refine hg ?_
 repeat' ((first | refine hfk ?_ ?_<;>intros | refine hik ?_)<;>refine hgS ?_)
 exact RLe.ofEq rfl
def okR (x:Rcp):Bool:=zp1 x.steps&&!decide (60<(x.kind.size:Int))
def okT (x:Tb):Bool:=!decide (110<(x.rows.length:Int))&&!decide (60<(x.unit.size:Int))
def okP (x:Prm):Bool:=!decide (60<(x.name.size:Int))&&!decide (60<(x.unit.size:Int))
def okF (x:Fnc):Bool:=!decide (8<(x.params.length:Int))&&(x8d x.body&&x.params.all okP)
def okC (x:Cel):Bool:=!decide (60<(x.unit.size:Int))&&x8d x.x
def few1 (s:Sht):Bool:=wa5 (v7l s) 105&&(!decide (8<(s.recipes.length:Int))&&!decide (60<(s.name.size:Int)))
def fewS (s:Sht):Bool:=few1 s&&(s.recipes.all okR&&(s.tables.all okT&&(s.funcs.all okF&&s.cells.all okC)))
theorem wch (s:Sht) (hs:s.Sm):CallsD Γ prog 9 [.agg (shtC s)] (.one (cB (fewS s))):=by
 have hn:=zau (Γ:=Γ) s hs
 have hnl:(v7l s).length<=8589934592:=by
  unfold v7l
  have:=hs.il;have:=hs.nl;have:=hs.tl;have:=hs.fl;have:=hs.cl;have:=hs.pl;have:=hs.sl
  simp;omega
 have hsh:=v00 (Γ:=Γ) (v7l s) 105 hnl;have hrl:=hs.rl;have htl:=hs.tl;have hfl:=hs.fl;have hcl:=hs.cl;generalize hR:fewS s=R
 have e1:few1 s=false->R=false:=fun h=>by rw [<-hR];unfold fewS;rw [h];rfl
 have e2:s.recipes.all okR=false->R=false:=fun h=>by rw [<-hR];unfold fewS;rw [h];simp
 have e3:s.tables.all okT=false->R=false:=fun h=>by rw [<-hR];unfold fewS;rw [h];simp
 have e4:s.funcs.all okF=false->R=false:=fun h=>by rw [<-hR];unfold fewS;rw [h];simp
 have e5:s.cells.all okC=false->R=false:=fun h=>by rw [<-hR];unfold fewS;rw [h];simp
 have e6:few1 s=true->s.recipes.all okR=true->s.tables.all okT=true->s.funcs.all okF=true->s.cells.all okC=true->R=true:=fun a b c d e=>by rw [<-hR];unfold fewS;rw [a,b,c,d,e];rfl
 clear hR;have f1:few1 s=(wa5 (v7l s) 105&&(!decide (8<(s.recipes.length:Int))&&!decide (60<(s.name.size:Int)))):=rfl;generalize few1 s=b0 at *;generalize wa5 (v7l s) 105=b1 at *;by_cases hb0:b0=false
 . have hRf:=e1 hb0;rw [hb0] at f1
   replace f1:=f1.symm
   clear e1 e2 e3 e4 e5 e6;rw [hRf];refine CallsD.run [] Go.Proofs.Tryz.func9 rfl rfl rfl ?_;simp only [Go.Proofs.Tryz.f9];refine hgR ?_
   repeat' ((first | refine hfk ?_ ?_<;>intros | refine hik ?_ | with_reducible first | refine y5k (hn) ?_ | refine x4p (hn) ?_ | refine y5k (hsh) ?_ | refine x4p (hsh) ?_)<;>refine hgS ?_)
   all_goals first
    | exact RLe.ofEq rfl
    | (exfalso;clear hn hsh hs;simp_all;done)
    | (exfalso;clear hn hsh hs;simp_all;omega)
 rw [Bool.not_eq_false] at hb0;have e6:=e6 hb0;rw [hb0] at f1;have f2:=f1.symm;clear f1 e1;simp only [Bool.and_eq_true,Bool.not_eq_true',decide_eq_false_iff_not] at f2;obtain ⟨rfl,f3,f4⟩:=f2;refine CallsD.run [] Go.Proofs.Tryz.func9 rfl rfl rfl ?_;simp only [Go.Proofs.Tryz.f9];refine hgR ?_
 repeat' ((first | refine hfk ?_ ?_<;>intros | refine hik ?_ | with_reducible first | refine y5k (hn) ?_ | refine x4p (hn) ?_ | refine y5k (hsh) ?_ | refine x4p (hsh) ?_)<;>refine hgS ?_)
 all_goals try (exfalso;omega)
 refine wwt [1] (fun i:Nat=>[(3,.one (.dat (cI i)))]) (fun _=>[.box ((shtC s).map .dat) (some 31)]) (fun i=>i<=s.recipes.length/\∀ j,j<i->okR (s.recipes.getD j default)=true) (fun i=>s.recipes.length-i) 0 ⟨Nat.zero_le _,fun j hj=>by omega⟩ ?_ ?_
 . refine hg ?_;exact StH.same svl rfl
 rintro i ⟨hi,hj⟩;refine hg ?_;refine zcl (fun hlt _=>?_) (fun hlt _=>?_)
 . have hlt':i<s.recipes.length:=by omega
   have eb:okR (s.recipes.getD i default)=false->R=false:=fun h=>e2 (zo4 hlt' h)
   have ed:okR (s.recipes.getD i default)=(zp1 (s.recipes.getD i default).steps&&!decide (60<((s.recipes.getD i default).kind.size:Int))):=rfl;have hy:=hs.r _ (wax hlt');have c1:=ypp (Γ:=Γ) (s.recipes.getD i default).steps hy.2.1 hy.2.2;generalize zp1 (s.recipes.getD i default).steps=q at *;clear e2 e3 e4 e5 e6;refine hg ?_
   repeat' ((first | refine hfk ?_ ?_<;>intros | refine hik ?_ | with_reducible first | refine y5k (c1) ?_ | refine x4p (c1) ?_)<;>refine hgS ?_)
   all_goals try (exfalso;omega)
   all_goals first
    | (refine ⟨i+1,⟨by omega,zbh hj (by rw [ed];simp [*,-List.getD_eq_getElem?_getD])⟩,by omega,StH.same svl rfl⟩)
    | (refine ⟨i+1,⟨by omega,zbh hj (by rw [ed];simp [*,-List.getD_eq_getElem?_getD];omega)⟩,by omega,StH.same svl rfl⟩)
    | exact RLe.ofEq rfl
    | exact RLe.ofEq (by rw [eb (by rw [ed];simp [*,-List.getD_eq_getElem?_getD])])
    | exact RLe.ofEq (by rw [eb (by rw [ed];simp [*,-List.getD_eq_getElem?_getD];omega)])
 have e6:=e6 (xyf (fun j hjl=>hj j (by omega)));clear e2 hj;refine hg ?_;refine wwt [1] (fun i:Nat=>[(4,.one (.dat (cI i)))]) (fun _=>[.box ((shtC s).map .dat) (some 31)]) (fun i=>i<=s.tables.length/\∀ j,j<i->okT (s.tables.getD j default)=true) (fun i=>s.tables.length-i) 0 ⟨Nat.zero_le _,fun j hj=>by omega⟩ ?_ ?_
 . refine hg ?_;exact StH.same svl rfl
 rintro i ⟨hi,hj⟩;refine hg ?_;refine zcl (fun hlt _=>?_) (fun hlt _=>?_)
 . have hlt':i<s.tables.length:=by omega
   have eb:okT (s.tables.getD i default)=false->R=false:=fun h=>e3 (zo4 hlt' h)
   have ed:okT (s.tables.getD i default)=(!decide (110<((s.tables.getD i default).rows.length:Int))&&!decide (60<((s.tables.getD i default).unit.size:Int))):=rfl;have hy:=hs.t _ (wax hlt');have hy2:=hy.r;clear e3 e4 e5 e6 hy;refine hg ?_
   repeat' ((first | refine hfk ?_ ?_<;>intros | refine hik ?_)<;>refine hgS ?_)
   all_goals try (exfalso;omega)
   all_goals first
    | (refine ⟨i+1,⟨by omega,zbh hj (by rw [ed];simp [*,-List.getD_eq_getElem?_getD])⟩,by omega,StH.same svl rfl⟩)
    | (refine ⟨i+1,⟨by omega,zbh hj (by rw [ed];simp [*,-List.getD_eq_getElem?_getD];omega)⟩,by omega,StH.same svl rfl⟩)
    | exact RLe.ofEq rfl
    | exact RLe.ofEq (by rw [eb (by rw [ed];simp [*,-List.getD_eq_getElem?_getD])])
    | exact RLe.ofEq (by rw [eb (by rw [ed];simp [*,-List.getD_eq_getElem?_getD];omega)])
 have e6:=e6 (xyf (fun j hjl=>hj j (by omega)));clear e3 hj;refine hg ?_;refine wwt [1] (fun i:Nat=>[(5,.one (.dat (cI i)))]) (fun _=>[.box ((shtC s).map .dat) (some 31)]) (fun i=>i<=s.funcs.length/\∀ j,j<i->okF (s.funcs.getD j default)=true) (fun i=>s.funcs.length-i) 0 ⟨Nat.zero_le _,fun j hj=>by omega⟩ ?_ ?_
 . refine hg ?_;exact StH.same svl rfl
 rintro i ⟨hi,hj⟩;refine hg ?_;refine zcl (fun hlt _=>?_) (fun hlt _=>?_)
 . have hlt':i<s.funcs.length:=by omega
   have eb:okF (s.funcs.getD i default)=false->R=false:=fun h=>e4 (zo4 hlt' h)
   have ed:okF (s.funcs.getD i default)=(!decide (8<((s.funcs.getD i default).params.length:Int))&&(x8d (s.funcs.getD i default).body&&(s.funcs.getD i default).params.all okP)):=rfl;have hy:=hs.f _ (wax hlt');have hpl:=hy.2.1;have c1:=zo8 (Γ:=Γ) (s.funcs.getD i default).body hy.2.2.2;generalize x8d (s.funcs.getD i default).body=q at *;clear e4 e5 e6;refine hg ?_
   repeat' ((first | refine hfk ?_ ?_<;>intros | refine hik ?_ | with_reducible first | refine y5k (c1) ?_ | refine x4p (c1) ?_)<;>refine hgS ?_)
   all_goals try (exfalso;omega)
   all_goals first
    | exact RLe.ofEq rfl
    | exact RLe.ofEq (by rw [eb (by rw [ed];simp [*,-List.getD_eq_getElem?_getD])])
    | exact RLe.ofEq (by rw [eb (by rw [ed];simp [*,-List.getD_eq_getElem?_getD];omega)])
    | skip
   refine wwt [1,5] (fun k:Nat=>[(6,.one (.dat (cI k)))]) (fun _=>[.box ((shtC s).map .dat) (some 31)]) (fun k=>k<=(s.funcs.getD i default).params.length/\∀ j,j<k->okP ((s.funcs.getD i default).params.getD j default)=true) (fun k=>(s.funcs.getD i default).params.length-k) 0 ⟨Nat.zero_le _,fun j hj=>by omega⟩ ?_ ?_
   . refine hg ?_;exact StH.same svl rfl
   rintro k ⟨hk,hkj⟩;refine hg ?_;refine zcl (fun hlt2 _=>?_) (fun hlt2 _=>?_)
   . have hlt3:k<(s.funcs.getD i default).params.length:=by omega
     have eb2:okP ((s.funcs.getD i default).params.getD k default)=false->R=false:=fun h=>eb (by rw [ed,zo4 hlt3 h];simp)
     have ed2:okP ((s.funcs.getD i default).params.getD k default)=(!decide (60<(((s.funcs.getD i default).params.getD k default).name.size:Int))&&!decide (60<(((s.funcs.getD i default).params.getD k default).unit.size:Int))):=rfl;clear eb ed;refine hg ?_
     repeat' ((first | refine hfk ?_ ?_<;>intros | refine hik ?_)<;>refine hgS ?_)
     all_goals try (exfalso;omega)
     all_goals first
      | (refine ⟨k+1,⟨by omega,zbh hkj (by rw [ed2];simp [*,-List.getD_eq_getElem?_getD])⟩,by omega,StH.same svl rfl⟩)
      | (refine ⟨k+1,⟨by omega,zbh hkj (by rw [ed2];simp [*,-List.getD_eq_getElem?_getD];omega)⟩,by omega,StH.same svl rfl⟩)
      | exact RLe.ofEq rfl
      | exact RLe.ofEq (by rw [eb2 (by rw [ed2];simp [*,-List.getD_eq_getElem?_getD])])
      | exact RLe.ofEq (by rw [eb2 (by rw [ed2];simp [*,-List.getD_eq_getElem?_getD];omega)])
   . have hall:(s.funcs.getD i default).params.all okP=true:=xyf (fun j hjl=>hkj j (by omega));clear eb;refine hg ?_
     repeat' ((first | refine hfk ?_ ?_<;>intros | refine hik ?_)<;>refine hgS ?_)
     first
      | exact ⟨i+1,⟨by omega,zbh hj (by rw [ed,hall];simp [*,-List.getD_eq_getElem?_getD])⟩,by omega,StH.same svl rfl⟩
      | exact ⟨i+1,⟨by omega,zbh hj (by rw [ed,hall];simp [*,-List.getD_eq_getElem?_getD];omega)⟩,by omega,StH.same svl rfl⟩
 have e6:=e6 (xyf (fun j hjl=>hj j (by omega)));clear e4 hj;refine hg ?_;refine wwt [1] (fun i:Nat=>[(7,.one (.dat (cI i)))]) (fun _=>[.box ((shtC s).map .dat) (some 31)]) (fun i=>i<=s.cells.length/\∀ j,j<i->okC (s.cells.getD j default)=true) (fun i=>s.cells.length-i) 0 ⟨Nat.zero_le _,fun j hj=>by omega⟩ ?_ ?_
 . refine hg ?_;exact StH.same svl rfl
 rintro i ⟨hi,hj⟩;refine hg ?_;refine zcl (fun hlt _=>?_) (fun hlt _=>?_)
 . have hlt':i<s.cells.length:=by omega
   have eb:okC (s.cells.getD i default)=false->R=false:=fun h=>e5 (zo4 hlt' h)
   have ed:okC (s.cells.getD i default)=(!decide (60<((s.cells.getD i default).unit.size:Int))&&x8d (s.cells.getD i default).x):=rfl;have hy:=hs.c _ (wax hlt');have c1:=zo8 (Γ:=Γ) (s.cells.getD i default).x hy.2.2;generalize x8d (s.cells.getD i default).x=q at *;clear e5 e6;refine hg ?_
   repeat' ((first | refine hfk ?_ ?_<;>intros | refine hik ?_ | with_reducible first | refine y5k (c1) ?_ | refine x4p (c1) ?_)<;>refine hgS ?_)
   all_goals try (exfalso;omega)
   all_goals first
    | (refine ⟨i+1,⟨by omega,zbh hj (by rw [ed];simp [*,-List.getD_eq_getElem?_getD])⟩,by omega,StH.same svl rfl⟩)
    | (refine ⟨i+1,⟨by omega,zbh hj (by rw [ed];simp [*,-List.getD_eq_getElem?_getD];omega)⟩,by omega,StH.same svl rfl⟩)
    | exact RLe.ofEq rfl
    | exact RLe.ofEq (by rw [eb (by rw [ed];simp [*,-List.getD_eq_getElem?_getD])])
    | exact RLe.ofEq (by rw [eb (by rw [ed];simp [*,-List.getD_eq_getElem?_getD];omega)])
 have e6:=e6 (xyf (fun j hjl=>hj j (by omega)));rw [e6];clear e5 hj e6;refine hg ?_
 repeat' ((first | refine hfk ?_ ?_<;>intros | refine hik ?_)<;>refine hgS ?_)
 exact RLe.ofEq rfl
end Go.Hp.T
namespace Go.Hp.T
open Go Go.RowKit Go.Slot Go.Hp Go.Slot.T
set_option maxRecDepth 10000
def szB (s:ByteArray):Bool:=decide (s.size<=1073741824)
def lnB {α:Type} (l:List α):Bool:=decide (l.length<=1073741824)
def exB (x:Ex):Bool:=x.args.isEmpty&&(szB x.unit&&szB x.name)
theorem zwm {x:Ex} (h:exB x=true):x.Sm:=by
 simp only [exB,szB,Bool.and_eq_true,decide_eq_true_eq,List.isEmpty_iff] at h;exact .mk x (by rw [h.1];decide) h.2.1 h.2.2 (fun y hy=>by rw [h.1] at hy;cases hy)
def stpB (x:Stp):Bool:=lnB x.inn&&(lnB x.out&&(lnB x.cells&&(x.inn.all szB&&(x.out.all szB&&(x.cells.all szB&&szB x.name)))))
theorem w7y {x:Stp} (h:stpB x=true):x.Sm:=by
 simp only [stpB,szB,lnB,Bool.and_eq_true,decide_eq_true_eq,List.all_eq_true] at h;exact ⟨h.1,h.2.1,h.2.2.1,h.2.2.2.1,h.2.2.2.2.1,h.2.2.2.2.2.1,h.2.2.2.2.2.2⟩
def shtB (s:Sht):Bool:=szB s.name&&(lnB s.imports&&(lnB s.inputs&&(s.tables.isEmpty&&(s.funcs.isEmpty&&(lnB s.cells&&(lnB s.ports&&(lnB s.stores&&(lnB s.recipes&&
 (s.imports.all (fun x=>szB x.name&&(szB x.unit&&szB x.port))&&(s.inputs.all (fun x=>szB x.name&&(szB x.unit&&szB x.kind))&&(s.cells.all (fun x=>szB x.name&&(szB x.unit&&exB x.x))&&
 (s.ports.all (fun x=>szB x.name&&szB x.unit)&&(s.stores.all (fun x=>szB x.name&&szB x.unit)&&s.recipes.all (fun x=>szB x.kind&&(lnB x.steps&&x.steps.all stpB)))))))))))))))
theorem xwb {s:Sht} (h:shtB s=true):s.Sm:=by
 simp only [shtB,szB,lnB,Bool.and_eq_true,decide_eq_true_eq,List.all_eq_true,List.isEmpty_iff] at h;obtain ⟨h1,h2,h3,h4,h5,h6,h7,h8,h9,i,n,c,p,o,r⟩:=h;exact ⟨h1,h2,h3,by rw [h4];decide,by rw [h5];decide,h6,h7,h8,h9,i,n,fun x hx=>(by rw [h4] at hx;cases hx),fun x hx=>(by rw [h5] at hx;cases hx),fun x hx=>⟨(c x hx).1,(c x hx).2.1,zwm (c x hx).2.2⟩,p,o,fun x hx=>⟨(r x hx).1,(r x hx).2.1,fun y hy=>w7y ((r x hx).2.2 y hy)⟩⟩
def vz4:ByteArray:=⟨#[115,104,101,101,116,32,97,32,123,32,105,109,112,111,114,116,32,102,108,111,117,114,32,34,107,103,34,32,53,32,61,32,49,32,58,32,102,108,111,117,114,32,58,32,49,32,59,32,105,110,112,117,116,32,103,97,115,32,34,107,87,104,34,32,99,111,50,32,59,32,99,101,108,108,32,119,32,34,34,32,61,32,49,32,59,32,99,101,108,108,32,118,32,34,34,32,61,32,50,32,59,32,112,111,114,116,32,98,114,101,97,100,32,34,107,103,34,32,52,32,59,32,115,116,111,114,101,32,115,105,108,111,32,34,107,103,34,32,102,105,114,115,116,32,59,32,114,101,99,105,112,101,32,99,111,50,32,123,32]⟩
def xnv:ByteArray:=⟨#[32,125,32,125]⟩
def ofT (t:ByteArray):ByteArray:=vz4++t++xnv
def okB (t:ByteArray) (k:Lk):Bool:=match w3y (ofT t) with
 | .inl L=>wln L&&match vuf L with
  | some s=>shtB s&&(y4x s&&decide (z4k s 0=k))
  | none=>false
 | .inr _=>false
theorem w2i {t:ByteArray} {k:Lk} (h:okB t k=true):∃ s,ysf (ofT t) s/\s.Sm/\y4x s=true/\z4k s 0=k:=by
 unfold okB at h
 cases h1:w3y (ofT t) with
 | inr _=>rw [h1] at h;cases h
 | inl L=>
  rw [h1] at h;dsimp only at h
  cases h2:vuf L with
  | none=>rw [h2] at h;simp at h
  | some s=>
   rw [h2] at h;simp only [Bool.and_eq_true,decide_eq_true_eq] at h;exact ⟨s,⟨L,h1,h.1,h2⟩,xwb h.2.1,h.2.2.1,h.2.2.2⟩
def tBeg:ByteArray:=⟨#[109,101,116,101,114,32,112,32,61,32,103,97,115,32,59,32,116,97,107,101,32,113,32,61,32,102,108,111,117,114,32,59,32,106,111,105,110,32,112,32,44,32,113,32,105,110,116,111,32,114,32,59,32,115,112,108,105,116,32,114,32,105,110,116,111,32,97,32,58,32,119,32,44,32,98,32,58,32,118,32,59,32,103,105,118,101,32,97,32,116,111,32,98,114,101,97,100,32,59,32]⟩
def tLb:ByteArray:=⟨#[108,111,115,101,32,98,32,97,115,32,104,101,97,116,32,59]⟩
def tLa:ByteArray:=⟨#[108,111,115,101,32,97,32,97,115,32,104,101,97,116,32,59]⟩
def tTwo:ByteArray:=⟨#[109,101,116,101,114,32,112,32,61,32,103,97,115,32,59,32,106,111,105,110,32,112,32,105,110,116,111,32,114,32,59,32,115,112,108,105,116,32,114,32,105,110,116,111,32,97,32,58,32,119,32,44,32,98,32,58,32,118,32,59,32,103,105,118,101,32,97,32,116,111,32,98,114,101,97,100,32,59,32,108,111,115,101,32,98,32,97,115,32,104,101,97,116,32,59]⟩
def tMf:ByteArray:=⟨#[109,101,116,101,114,32,112,32,61,32,102,108,111,117,114,32,59]⟩
def tMm:ByteArray:=⟨#[109,101,116,101,114,32,112,32,61,32,103,97,115,32,59,32,114,101,115,116,32,112,32,59,32,109,101,116,101,114,32,113,32,61,32,103,97,115,32,59]⟩
theorem ok1:okB (tBeg++tLb) (0,0,[])=true:=by kernel_rfl
theorem ok2:okB (tBeg++tLa) (5,5,[4,5])=true:=by kernel_rfl
theorem ok3:okB tBeg (21,5,[3])=true:=by kernel_rfl
theorem ok4:okB tTwo (21,5,[])=true:=by kernel_rfl
theorem ok5:okB tMf (4,0,[0])=true:=by kernel_rfl
theorem ok6:okB tMm (5,2,[0,2])=true:=by kernel_rfl
end Go.Hp.T
namespace Go.Hp.T
open Go Go.RowKit Go.Slot Go.Hp Go.Slot.T
open Go.Proofs.Tryz (prog)
attribute [local irreducible] hide RH
set_option maxRecDepth 10000
set_option maxHeartbeats 8000000
variable {Γ:List (Nat×List Cell)}
theorem x1o:({ data:=(([115,104,101,101,116,32,97,32,123,32,105,109,112,111,114,116,32,102,108,111,117,114,32,34,107,103,34,32,53,32,61,32,49,32,58,32,102,108,111].append [117,114,32,58,32,49,32,59,32,105,110,112,117,116,32,103,97,115,32,34,107,87,104,34,32,99,111,50,32,59,32,99,101,108,108,32,119,32,34,34]).append ([32,61,32,49,32,59,32,99,101,108,108,32,118,32,34,34,32,61,32,50,32,59,32,112,111,114,116,32,98,114,101,97,100,32,34,107,103,34,32,52].append [32,59,32,115,116,111,114,101,32,115,105,108,111,32,34,107,103,34,32,102,105,114,115,116,32,59,32,114,101,99,105,112,101,32,99,111,50,32,123,32])).toArray }:ByteArray)=vz4:=rfl
theorem ynu:(([(115:UInt8),104,101,101,116,32,97,32,123,32,105,109,112,111,114,116,32,102,108,111,117,114,32,34,107,103,34,32,53,32,61,32,49,32,58,32,102,108,111].append [117,114,32,58,32,49,32,59,32,105,110,112,117,116,32,103,97,115,32,34,107,87,104,34,32,99,111,50,32,59,32,99,101,108,108,32,119,32,34,34]).append ([32,61,32,49,32,59,32,99,101,108,108,32,118,32,34,34,32,61,32,50,32,59,32,112,111,114,116,32,98,114,101,97,100,32,34,107,103,34,32,52].append [32,59,32,115,116,111,114,101,32,115,105,108,111,32,34,107,103,34,32,102,105,114,115,116,32,59,32,114,101,99,105,112,101,32,99,111,50,32,123,32])).length=vz4.size:=rfl
theorem xoq:([32,125,32,125]:List UInt8).length=xnv.size:=rfl
theorem zat:({ data:=#[32,125,32,125] }:ByteArray)=xnv:=rfl
theorem cOf {t:ByteArray} {s:Sht} (hG:x7m Γ 0=.elt sgC) (ht:t.size<=1000) (h:ysf (ofT t) s) (hs:s.Sm) (hr:y4x s=true):CallsD Γ prog 49 [.one (cS t)] (.agg (shtC s)):=by
 have h1:vz4.size<=1000:=by decide +kernel
 have h2:xnv.size<=1000:=by decide +kernel
 have hl:(ofT t).size<=1073741824:=by
  unfold ofT;rw [ByteArray.size_append,ByteArray.size_append];omega
 have l1:(vz4.size+t.size<=9223372036854775807)=True:=eq_true (by omega);have l2:(vz4.size+t.size+xnv.size<=9223372036854775807)=True:=eq_true (by omega);have cr:=xqo (Γ:=Γ) s hs;rw [hr] at cr;have c:=yrz (Γ:=Γ) hG hl h cr;clear h cr hr hs;unfold ofT at c;refine CallsD.run [] Go.Proofs.Tryz.func49 rfl rfl rfl ?_;simp only [Go.Proofs.Tryz.f49];refine hgR ?_
 conv=>simp (maxSteps:=2000000) (disch:=omega) only [go_sem,Nat.reduceAdd,Nat.reduceSub,Nat.reduceMul,Int.reduceToNat,Nat.reduceEqDiff,Nat.reduceBEq,Nat.reduceBneDiff,Nat.reduceLT,Int.reduceEq,Int.reduceLT,Int.reduceLE,Int.reduceNeg,Int.reduceAdd,Int.reduceSub,Int.reduceMul,x1o,zat,ynu,xoq,l1,l2]
 repeat' ((first | refine hfk ?_ ?_<;>intros | refine hik ?_ | with_reducible first | refine y5k (c) ?_ | refine x4p (c) ?_)<;>refine hgS ?_)
 all_goals exact RLe.ofEq rfl
theorem whn:({ data:=([109,101,116,101,114,32,112,32,61,32,103,97,115,32,59,32,116,97,107,101,32,113,32,61,32,102,108,111,117,114,32,59,32,106,111,105,110,32,112,32,44,32,113,32,105,110,116,111,32,114].append [32,59,32,115,112,108,105,116,32,114,32,105,110,116,111,32,97,32,58,32,119,32,44,32,98,32,58,32,118,32,59,32,103,105,118,101,32,97,32,116,111,32,98,114,101,97,100,32,59,32]).toArray }:ByteArray)=tBeg:=rfl
theorem zs8:([(109:UInt8),101,116,101,114,32,112,32,61,32,103,97,115,32,59,32,116,97,107,101,32,113,32,61,32,102,108,111,117,114,32,59,32,106,111,105,110,32,112,32,44,32,113,32,105,110,116,111,32,114].append [32,59,32,115,112,108,105,116,32,114,32,105,110,116,111,32,97,32,58,32,119,32,44,32,98,32,58,32,118,32,59,32,103,105,118,101,32,97,32,116,111,32,98,114,101,97,100,32,59,32]).length=100:=rfl
theorem y26:({ data:=([109,101,116,101,114,32,112,32,61,32,103,97,115,32,59,32,106,111,105,110,32,112,32,105,110,116,111,32,114,32,59,32,115,112,108,105,116,32,114,32,105,110,116,111,32,97,32].append [58,32,119,32,44,32,98,32,58,32,118,32,59,32,103,105,118,101,32,97,32,116,111,32,98,114,101,97,100,32,59,32,108,111,115,101,32,98,32,97,115,32,104,101,97,116,32,59]).toArray }:ByteArray)=tTwo:=rfl
theorem xfz:({ data:=#[108,111,115,101,32,98,32,97,115,32,104,101,97,116,32,59] }:ByteArray)=tLb:=rfl
theorem woc:({ data:=#[108,111,115,101,32,97,32,97,115,32,104,101,97,116,32,59] }:ByteArray)=tLa:=rfl
theorem y1p:({ data:=#[109,101,116,101,114,32,112,32,61,32,102,108,111,117,114,32,59] }:ByteArray)=tMf:=rfl
theorem vbj:({ data:=#[109,101,116,101,114,32,112,32,61,32,103,97,115,32,59,32,114,101,115,116,32,112,32,59,32,109,101,116,101,114,32,113,32,61,32,103,97,115,32,59] }:ByteArray)=tMm:=rfl
theorem v85 {t:ByteArray} {e at':Int} {bl:List Int} (hG:x7m Γ 0=.elt sgC) (ht:t.size<=1000) (h:okB t (e,at',bl)=true) (hb:bl.length<=1000):CallsD Γ prog 25 [.one (cS t),.one (cI e),.one (cI at'),.one (.ints .i64 bl)] (.one (cB true)):=by
 obtain ⟨s,hp,hs,hr,hl⟩:=w2i h;have c1:=cOf (Γ:=Γ) hG ht hp hs hr;have c2:=zbj (Γ:=Γ) s 0 hs;have c3:=zvm (Γ:=Γ) s 0 hs;rw [hl] at c2 c3;dsimp only at c2 c3;clear h hp hs hr hl;refine CallsD.run [] Go.Proofs.Tryz.func25 rfl rfl rfl ?_;simp only [Go.Proofs.Tryz.f25];refine hgR ?_
 repeat' ((first | refine hfk ?_ ?_<;>intros | refine hik ?_ | with_reducible first | refine y5k (c1) ?_ | refine x4p (c1) ?_ | refine y5k (c2) ?_ | refine x4p (c2) ?_ | refine y5k (c3) ?_ | refine x4p (c3) ?_)<;>refine hgS ?_)
 refine wwt [3,9,10,11] (fun i:Nat=>[(12,.one (.dat (cI i)))]) (fun _=>[]) (fun i=>i<=bl.length) (fun i=>bl.length-i) 0 (Nat.zero_le _) ?_ ?_
 . refine hg ?_;exact StH.same svl rfl
 intro i hi;refine hg ?_;refine zcl (fun hlt _=>?_) (fun hlt _=>?_)
 . have hlt':i<bl.length:=by omega
   refine hg ?_
   repeat' ((first | refine hfk ?_ ?_<;>intros | refine hik ?_)<;>refine hgS ?_)
   refine ⟨i+1,by omega,by omega,StH.same svl rfl⟩
 . refine hg ?_
   repeat' ((first | refine hfk ?_ ?_<;>intros | refine hik ?_)<;>refine hgS ?_)
   exact RLe.ofEq rfl
theorem vea {t:ByteArray} {e at':Int} (hG:x7m Γ 0=.elt sgC) (ht:t.size<=1000) (h:okB t (e,at',[])=true):CallsD Γ prog 25 [.one (cS t),.one (cI e),.one (cI at'),.one (.raw (.slice none 0 0))] (.one (cB true)):=by
 obtain ⟨s,hp,hs,hr,hl⟩:=w2i h;have c1:=cOf (Γ:=Γ) hG ht hp hs hr;have c2:=zbj (Γ:=Γ) s 0 hs;have c3:=zvm (Γ:=Γ) s 0 hs;rw [hl] at c2 c3;dsimp only at c2 c3;clear h hp hs hr hl;refine CallsD.run [] Go.Proofs.Tryz.func25 rfl rfl rfl ?_;simp only [Go.Proofs.Tryz.f25];refine hgR ?_
 repeat' ((first | refine hfk ?_ ?_<;>intros | refine hik ?_ | with_reducible first | refine y5k (c1) ?_ | refine x4p (c1) ?_ | refine y5k (c2) ?_ | refine x4p (c2) ?_ | refine y5k (c3) ?_ | refine x4p (c3) ?_)<;>refine hgS ?_)
 refine wwt [3,9,10,11] (fun i:Nat=>[(12,.one (.dat (cI i)))]) (fun _=>[]) (fun i=>i=0) (fun i=>1) 0 rfl ?_ ?_
 . refine hg ?_;exact StH.same svl rfl
 rintro i rfl;refine hg ?_;refine zcl (fun hlt _=>?_) (fun hlt _=>?_)
 . exact absurd hlt (by decide)
 refine hg ?_
 repeat' ((first | refine hfk ?_ ?_<;>intros | refine hik ?_)<;>refine hgS ?_)
 exact RLe.ofEq rfl
theorem vru (hG:x7m Γ 0=.elt sgC):CallsD Γ prog 8 [] (.one (cB true)):=by
 have c1:=vea (Γ:=Γ) hG (by decide +kernel) ok1;have c2:=v85 (Γ:=Γ) hG (by decide +kernel) ok2 (by decide);have c3:=v85 (Γ:=Γ) hG (by decide +kernel) ok3 (by decide);have c4:=vea (Γ:=Γ) hG (by decide +kernel) ok4;have c5:=v85 (Γ:=Γ) hG (by decide +kernel) ok5 (by decide);have c6:=v85 (Γ:=Γ) hG (by decide +kernel) ok6 (by decide);have l1:(tBeg.size+tLb.size<=9223372036854775807)=True:=eq_true (by decide +kernel);have l2:(tBeg.size+tLa.size<=9223372036854775807)=True:=eq_true (by decide +kernel);refine CallsD.run [] Go.Proofs.Tryz.func8 rfl rfl rfl ?_;simp only [Go.Proofs.Tryz.f8];refine hgR ?_
 conv=>simp (maxSteps:=2000000) (disch:=omega) only [go_sem,Nat.reduceAdd,Nat.reduceSub,Nat.reduceMul,Int.reduceToNat,Nat.reduceEqDiff,Nat.reduceBEq,Nat.reduceBneDiff,Nat.reduceLT,Int.reduceEq,Int.reduceLT,Int.reduceLE,Int.reduceNeg,Int.reduceAdd,Int.reduceSub,Int.reduceMul,whn,zs8,Nat.reduceLeDiff,xfz,woc,y1p,vbj,y26,l1,l2]
 first | refine y5k c1 ?_ | refine x4p c1 ?_
 conv=>simp (maxSteps:=2000000) (disch:=omega) only [go_sem,Nat.reduceAdd,Nat.reduceSub,Nat.reduceMul,Int.reduceToNat,Nat.reduceEqDiff,Nat.reduceBEq,Nat.reduceBneDiff,Nat.reduceLT,Int.reduceEq,Int.reduceLT,Int.reduceLE,Int.reduceNeg,Int.reduceAdd,Int.reduceSub,Int.reduceMul,whn,zs8,Nat.reduceLeDiff,xfz,woc,y1p,vbj,y26,l1,l2]
 first | refine y5k c2 ?_ | refine x4p c2 ?_
 conv=>simp (maxSteps:=2000000) (disch:=omega) only [go_sem,Nat.reduceAdd,Nat.reduceSub,Nat.reduceMul,Int.reduceToNat,Nat.reduceEqDiff,Nat.reduceBEq,Nat.reduceBneDiff,Nat.reduceLT,Int.reduceEq,Int.reduceLT,Int.reduceLE,Int.reduceNeg,Int.reduceAdd,Int.reduceSub,Int.reduceMul,whn,zs8,Nat.reduceLeDiff,xfz,woc,y1p,vbj,y26,l1,l2]
 first | refine y5k c3 ?_ | refine x4p c3 ?_
 conv=>simp (maxSteps:=2000000) (disch:=omega) only [go_sem,Nat.reduceAdd,Nat.reduceSub,Nat.reduceMul,Int.reduceToNat,Nat.reduceEqDiff,Nat.reduceBEq,Nat.reduceBneDiff,Nat.reduceLT,Int.reduceEq,Int.reduceLT,Int.reduceLE,Int.reduceNeg,Int.reduceAdd,Int.reduceSub,Int.reduceMul,whn,zs8,Nat.reduceLeDiff,xfz,woc,y1p,vbj,y26,l1,l2]
 first | refine y5k c4 ?_ | refine x4p c4 ?_
 conv=>simp (maxSteps:=2000000) (disch:=omega) only [go_sem,Nat.reduceAdd,Nat.reduceSub,Nat.reduceMul,Int.reduceToNat,Nat.reduceEqDiff,Nat.reduceBEq,Nat.reduceBneDiff,Nat.reduceLT,Int.reduceEq,Int.reduceLT,Int.reduceLE,Int.reduceNeg,Int.reduceAdd,Int.reduceSub,Int.reduceMul,whn,zs8,Nat.reduceLeDiff,xfz,woc,y1p,vbj,y26,l1,l2]
 first | refine y5k c5 ?_ | refine x4p c5 ?_
 conv=>simp (maxSteps:=2000000) (disch:=omega) only [go_sem,Nat.reduceAdd,Nat.reduceSub,Nat.reduceMul,Int.reduceToNat,Nat.reduceEqDiff,Nat.reduceBEq,Nat.reduceBneDiff,Nat.reduceLT,Int.reduceEq,Int.reduceLT,Int.reduceLE,Int.reduceNeg,Int.reduceAdd,Int.reduceSub,Int.reduceMul,whn,zs8,Nat.reduceLeDiff,xfz,woc,y1p,vbj,y26,l1,l2]
 first | refine y5k c6 ?_ | refine x4p c6 ?_
 refine hg ?_
 repeat' ((first | refine hfk ?_ ?_<;>intros | refine hik ?_)<;>refine hgS ?_)
 exact RLe.ofEq rfl
end Go.Hp.T
