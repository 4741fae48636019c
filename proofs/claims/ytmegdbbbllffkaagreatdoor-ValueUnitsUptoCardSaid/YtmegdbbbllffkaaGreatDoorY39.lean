/- The proof, part Y39: Db, Df. -/
import Derived.Test.YtmegdbbbllffkaaGreatDoorY38
namespace Go.Hp.T
open Go Go.RowKit Go.Slot Go.Hp Go.Slot.T
open Go.Proofs.Tryz (prog)
set_option maxRecDepth 10000
set_option maxHeartbeats 4000000
variable {Γ:List (Nat×List Cell)}
def mlB (x:Ex) (n:Int) (u:ByteArray):Nat->List SB
 | 0=>[.box ((exC x).map .dat) (some 24),.box [.dat (cI 0),.dat (cI 0),.dat (cS ⟨⟨[]⟩⟩),.dat (cS ⟨⟨[]⟩⟩),.dat .zc] (some 24),.box [.dat (cI x.op),.dat (cI n),.dat (cS u),.dat (cS x.name),.dat (.raw (.slice none 0 0))] (some 24)]
 | k+1=>[.box ((exC x).map .dat) (some 24),.box [.dat (cI 0),.dat (cI 0),.dat (cS ⟨⟨[]⟩⟩),.dat (cS ⟨⟨[]⟩⟩),.dat .zc] (some 24),.box [.dat (cI x.op),.dat (cI n),.dat (cS u),.dat (cS x.name),.sl 3 5 0 (k+1)] (some 24),.arr (.sl 5 ((x.args.take (k+1)).map (Ex.cells∘Ex.zkd))) 0 (some 24)]
theorem zm4 {o n:Int} {u:ByteArray} (h:zdw o n u=true):1<=u.size:=by
 unfold zdw at h;simp only [Bool.and_eq_true,Bool.or_eq_true] at h
 rcases h.2.2.2 with h | h<;>rw [v7z h]<;>decide
theorem wwr:∀ x:Ex,x.Sm->CallsD Γ prog 14 [.agg (exC x)] (.agg (exC x.zkd)):=by
 refine Ex.ind (fun x ih hx=>?_);have hl:=hx.len;have hu:=hx.u;have hks:=zm4 (o:=x.op) (n:=x.n) (u:=x.unit);by_cases hnil:x.args.length=0
 . have ha:x.args=[]:=List.eq_nil_of_length_eq_zero hnil
   have he:x.zkd=bif zdw x.op x.n x.unit then .mk x.op (1000*x.n) (vae x.unit 1) x.name [] else .mk x.op x.n x.unit x.name []:=by rw [Ex.v17,ha];rfl
   rw [he];clear he
   cases hk:zdw x.op x.n x.unit with
   | true=>
    rw [cond_true];have hsz:=hks hk;unfold zdw sKg sKWh at hk;refine CallsD.nil5 ?_;clear hnil hks;refine CallsD.run [] Go.Proofs.Tryz.func14 rfl rfl rfl ?_;simp only [Go.Proofs.Tryz.f14];refine hgR ?_
    repeat' ((first | refine hfk ?_ ?_<;>intros | refine hik ?_)<;>refine hgS ?_)
    all_goals try (exfalso;simp_all;done)
    all_goals try rw [show cI 0=cI x.op by simp [*]]
    all_goals
     refine wgj ?_
     conv=>simp (maxSteps:=2000000) (disch:=omega) only [go_sem,Nat.reduceAdd,Nat.reduceSub,Nat.reduceMul,Int.reduceToNat,Nat.reduceEqDiff,Nat.reduceBEq,Nat.reduceBneDiff,Nat.reduceLT,Int.reduceEq,Int.reduceLT,Int.reduceLE,Int.reduceNeg,Int.reduceAdd,Int.reduceSub,Int.reduceMul,ha,List.length_nil,n0]
     exact RLe.ofEq rfl
   | false=>
    rw [cond_false];unfold zdw sKg sKWh at hk;refine CallsD.nil5 ?_;clear hnil hks;refine CallsD.run [] Go.Proofs.Tryz.func14 rfl rfl rfl ?_;simp only [Go.Proofs.Tryz.f14];refine hgR ?_
    repeat' ((first | refine hfk ?_ ?_<;>intros | refine hik ?_)<;>refine hgS ?_)
    all_goals try (exfalso;simp_all;done)
    all_goals try rw [show cI 0=cI x.op by simp [*]]
    all_goals
     refine wgj ?_
     conv=>simp (maxSteps:=2000000) (disch:=omega) only [go_sem,Nat.reduceAdd,Nat.reduceSub,Nat.reduceMul,Int.reduceToNat,Nat.reduceEqDiff,Nat.reduceBEq,Nat.reduceBneDiff,Nat.reduceLT,Int.reduceEq,Int.reduceLT,Int.reduceLE,Int.reduceNeg,Int.reduceAdd,Int.reduceSub,Int.reduceMul,ha,List.length_nil,n0]
     exact RLe.ofEq rfl
 . generalize hR:x.zkd=R;rw [Ex.v17] at hR
   cases hk:zdw x.op x.n x.unit with
   | true=>
    rw [hk,cond_true] at hR;have hsz:=hks hk;unfold zdw sKg sKWh at hk;clear hks;refine CallsD.run [] Go.Proofs.Tryz.func14 rfl rfl rfl ?_;simp only [Go.Proofs.Tryz.f14];refine hgR ?_
    repeat' ((first | refine hfk ?_ ?_<;>intros | refine hik ?_)<;>refine hgS ?_)
    all_goals try (exfalso;simp_all;done)
    all_goals try rw [show cI 0=cI x.op by simp [*]]
    all_goals
     refine y31 [1,2,3] (fun n:Nat=>[(4,.one (.dat (cI n)))]) (mlB x (1000*x.n) (vae x.unit 1)) (fun n=>n<=x.args.length) (fun n=>x.args.length-n) 0 (Nat.zero_le _) ?_ ?_
     . refine hg ?_;exact StH.same svl rfl
     intro n hn
     rcases n with _ | n
     . simp only [mlB];refine hg ?_
       repeat' ((first | refine hfk ?_ ?_<;>intros | refine hik ?_ | with_reducible first | refine y5m (ih _ (zkt (show 0<x.args.length by omega)) (hx.arg _ (zkt (show 0<x.args.length by omega)))) ?_ | refine vtc (ih _ (zkt (show 0<x.args.length by omega)) (hx.arg _ (zkt (show 0<x.args.length by omega)))) ?_)<;>refine hgS ?_)
       . refine ⟨1,by omega,by omega,StH.same svl ?_⟩
         have ht:(x.args.take (0+1)).map (Ex.cells∘Ex.zkd)=[exC (Ex.zkd (x.args.getD 0 default))]:=by
          rw [xm8 (by omega),List.take_zero];simp only [List.nil_append,List.map_cons,List.map_nil,Function.comp,Ex.yto]
         simp only [ht]
         try rfl
       . exfalso;omega
     . simp only [mlB]
       have hlen:(x.args.take (n+1)).length=n+1:=by rw [List.length_take];omega
       conv=>simp (maxSteps:=2000000) (disch:=omega) only [go_sem,Nat.reduceAdd,Nat.reduceSub,Nat.reduceMul,Int.reduceToNat,Nat.reduceEqDiff,Nat.reduceBEq,Nat.reduceBneDiff,Nat.reduceLT,Int.reduceEq,Int.reduceLT,Int.reduceLE,Int.reduceNeg,Int.reduceAdd,Int.reduceSub,Int.reduceMul,hlen]
       repeat' ((first | refine hfk ?_ ?_<;>intros | refine hik ?_ | with_reducible first | refine y5m (ih _ (zkt (show n+1<x.args.length by omega)) (hx.arg _ (zkt (show n+1<x.args.length by omega)))) ?_ | refine vtc (ih _ (zkt (show n+1<x.args.length by omega)) (hx.arg _ (zkt (show n+1<x.args.length by omega)))) ?_)<;>refine hgS ?_)
       . refine ⟨n+1+1,by omega,by omega,StH.back [1,2,3,4] 3 4 4 rfl rfl rfl rfl rfl (by kernel_rfl) (StH.same svl ?_)⟩
         have ht:(x.args.take (n+1+1)).map (Ex.cells∘Ex.zkd)=(x.args.take (n+1)).map (Ex.cells∘Ex.zkd)++[exC (Ex.zkd (x.args.getD (n+1) default))]:=by
          rw [xm8 (by omega)];simp only [List.map_append,List.map_cons,List.map_nil,Function.comp,Ex.yto]
         simp only [ht,List.length_append,List.length_map,List.length_singleton,hlen]
         try rfl
       . have e:x.args.take (n+1)=x.args:=List.take_of_length_le (by omega);exact RLe.ofEq (by rw [<-hR,e,<-List.map_map];first | rfl | (rw [show cI 0=cI x.op by simp [*]];rfl))
   | false=>
    rw [hk,cond_false] at hR;unfold zdw sKg sKWh at hk;clear hks;refine CallsD.run [] Go.Proofs.Tryz.func14 rfl rfl rfl ?_;simp only [Go.Proofs.Tryz.f14];refine hgR ?_
    repeat' ((first | refine hfk ?_ ?_<;>intros | refine hik ?_)<;>refine hgS ?_)
    all_goals try (exfalso;simp_all;done)
    all_goals try rw [show cI 0=cI x.op by simp [*]]
    all_goals
     refine y31 [1,2,3] (fun n:Nat=>[(4,.one (.dat (cI n)))]) (mlB x x.n x.unit) (fun n=>n<=x.args.length) (fun n=>x.args.length-n) 0 (Nat.zero_le _) ?_ ?_
     . refine hg ?_;exact StH.same svl rfl
     clear hk;intro n hn
     rcases n with _ | n
     . simp only [mlB];refine hg ?_
       repeat' ((first | refine hfk ?_ ?_<;>intros | refine hik ?_ | with_reducible first | refine y5m (ih _ (zkt (show 0<x.args.length by omega)) (hx.arg _ (zkt (show 0<x.args.length by omega)))) ?_ | refine vtc (ih _ (zkt (show 0<x.args.length by omega)) (hx.arg _ (zkt (show 0<x.args.length by omega)))) ?_)<;>refine hgS ?_)
       . refine ⟨1,by omega,by omega,StH.same svl ?_⟩
         have ht:(x.args.take (0+1)).map (Ex.cells∘Ex.zkd)=[exC (Ex.zkd (x.args.getD 0 default))]:=by
          rw [xm8 (by omega),List.take_zero];simp only [List.nil_append,List.map_cons,List.map_nil,Function.comp,Ex.yto]
         simp only [ht]
         try rfl
       . exfalso;omega
     . simp only [mlB]
       have hlen:(x.args.take (n+1)).length=n+1:=by rw [List.length_take];omega
       conv=>simp (maxSteps:=2000000) (disch:=omega) only [go_sem,Nat.reduceAdd,Nat.reduceSub,Nat.reduceMul,Int.reduceToNat,Nat.reduceEqDiff,Nat.reduceBEq,Nat.reduceBneDiff,Nat.reduceLT,Int.reduceEq,Int.reduceLT,Int.reduceLE,Int.reduceNeg,Int.reduceAdd,Int.reduceSub,Int.reduceMul,hlen]
       repeat' ((first | refine hfk ?_ ?_<;>intros | refine hik ?_ | with_reducible first | refine y5m (ih _ (zkt (show n+1<x.args.length by omega)) (hx.arg _ (zkt (show n+1<x.args.length by omega)))) ?_ | refine vtc (ih _ (zkt (show n+1<x.args.length by omega)) (hx.arg _ (zkt (show n+1<x.args.length by omega)))) ?_)<;>refine hgS ?_)
       . refine ⟨n+1+1,by omega,by omega,StH.back [1,2,3,4] 3 4 4 rfl rfl rfl rfl rfl (by kernel_rfl) (StH.same svl ?_)⟩
         have ht:(x.args.take (n+1+1)).map (Ex.cells∘Ex.zkd)=(x.args.take (n+1)).map (Ex.cells∘Ex.zkd)++[exC (Ex.zkd (x.args.getD (n+1) default))]:=by
          rw [xm8 (by omega)];simp only [List.map_append,List.map_cons,List.map_nil,Function.comp,Ex.yto]
         simp only [ht,List.length_append,List.length_map,List.length_singleton,hlen]
         try rfl
       . have e:x.args.take (n+1)=x.args:=List.take_of_length_le (by omega);exact RLe.ofEq (by rw [<-hR,e,<-List.map_map];first | rfl | (rw [show cI 0=cI x.op by simp [*]];rfl))
end Go.Hp.T

namespace Go.Hp.T
open Go Go.RowKit Go.Slot Go.Hp Go.Slot.T
open Go.Proofs.Tryz (prog)
set_option maxRecDepth 10000
set_option maxHeartbeats 4000000
theorem v3e (s:ByteArray) (i:Nat):(vae s i).size<=s.size:=by
 unfold vae;rw [ByteArray.size_extract];omega
theorem w0r:∀ x:Ex,x.Sm->x.zkd.Sm:=by
 refine Ex.ind (fun x ih hx=>?_);have hu:=v3e x.unit 1;rw [Ex.v17]
 cases zdw x.op x.n x.unit with
 | true=>
  refine .mk _ (by show (x.args.map _).length<=_;rw [List.length_map];exact hx.len) (Nat.le_trans hu hx.u) hx.s (fun z hz=>?_);obtain ⟨z',h1,rfl⟩:=List.mem_map.1 (show z∈x.args.map Ex.zkd from hz);exact ih z' h1 (hx.arg z' h1)
 | false=>
  refine .mk _ (by show (x.args.map _).length<=_;rw [List.length_map];exact hx.len) hx.u hx.s (fun z hz=>?_);obtain ⟨z',h1,rfl⟩:=List.mem_map.1 (show z∈x.args.map Ex.zkd from hz);exact ih z' h1 (hx.arg z' h1)
theorem zvo (x:Ex) (bs:List Bd) (ms:List Tb) (h:Ar16 x bs ms):CallsD Gs prog 4 [.agg (exC x),.one (.sl 5 (bs.map Bd.C)),.one (.sl 3 (ms.map Tb.C))] (.one (cB true)):=by
 have s1:=wkt;have f1:=y17 (Γ:=Gs) x bs ms h.x (by have:=h.b;omega) h.bs (by have:=h.m;omega) h.ms
 cases hf:vxr x bs ms with
 | false=>
  rw [hf] at f1;refine CallsD.run [] Go.Proofs.Tryz.func4 rfl rfl rfl ?_;simp only [Go.Proofs.Tryz.f4];refine hgR ?_
  repeat' ((first | refine hfk ?_ ?_<;>intros | refine hik ?_ | with_reducible first | refine y5m (s1) ?_ | refine vtc (s1) ?_ | refine y5m (f1) ?_ | refine vtc (f1) ?_)<;>refine hgS ?_)
  exact RLe.ofEq rfl
 | true=>
  rw [hf] at f1;have o1:=h.of hf (Γ:=Gs);have o2:=yqj (Γ:=Gs) x.zkd bs ms (w0r x h.x) (by have:=h.b;omega) (by have:=h.m;omega) (fun b hb=>⟨(h.bs b hb).n,Nat.le_trans ((vh0 hf).1 b hb) (by decide)⟩) h.ms;rw [ysa] at o2;have c1:=wwr (Γ:=Gs) x h.x;have hq:=zc5 (x:=x) hf;have L2:=x03 x bs ms
  have hR:=fun (a:(valF x bs ms).2≠2) (b:(valF x bs ms).2≠1)=>(yny a b).1
  have hu:=h.x.u;generalize x.zkd=y at c1 o2;generalize valF x bs ms=r at o1 o2 hq L2 hR;obtain ⟨r,e⟩:=r;have sm:=z2o (Γ:=Gs) r r hq hq;rw [decide_eq_true rfl] at sm;simp only at L2 hR;by_cases hx:x.op=0/\¬e=2/\¬e=1
  . obtain ⟨h0,h2,h1⟩:=hx;have L:=L2 h0 h2 h1;have hr:=hR h2 h1
    have hnode:z3f x=true:=by
     have:=z5e hr
     rw [Ex.yaj,Bool.and_eq_true] at this;exact this.1
    have hn:=vri hnode h0
    have hin:inI x.n:=by unfold inI;omega
    have hz:=wkd hin;have ho:=pInt (Γ:=Gs) x.n hin;have d0:decide (¬x.op=0)=false:=decide_eq_false (fun a=>a h0);clear L2 hR hr hnode h hf hn h0
    rcases xep x.unit with ⟨u,hu1,hu2⟩ | ⟨k,hk,hu1⟩
    . have hrd:=w3b (Γ:=Gs) hu hu1;have hm:=oMul (Γ:=Gs) (some (x.n:Rat)) (some u.f) (by omega) (by show qs u.f<=_;omega)
      have e1:y9e x.n x.unit=(⟨false,false,mulO (some (x.n:Rat)) (some u.f)⟩,0):=by unfold y9e facO;rw [hu1];rfl
      rw [e1] at L;obtain ⟨rfl,rfl⟩:r=⟨false,false,mulO (some (x.n:Rat)) (some u.f)⟩/\e=0:=⟨congrArg Prod.fst L,congrArg Prod.snd L⟩;clear L e1;refine CallsD.run [] Go.Proofs.Tryz.func4 rfl rfl rfl ?_;simp only [Go.Proofs.Tryz.f4];refine hgR ?_
      repeat' ((first | refine hfk ?_ ?_<;>intros | refine hik ?_ | with_reducible first | refine y5m (s1) ?_ | refine vtc (s1) ?_ | refine y5m (f1) ?_ | refine vtc (f1) ?_ | refine y5m (o1) ?_ | refine vtc (o1) ?_ | refine y5m (c1) ?_ | refine vtc (c1) ?_ | refine y5m (o2) ?_ | refine vtc (o2) ?_ | refine y5m (sm) ?_ | refine vtc (sm) ?_ | refine y5m (hrd) ?_ | refine vtc (hrd) ?_ | refine y5m (ho) ?_ | refine vtc (ho) ?_ | refine y5m (hm) ?_ | refine vtc (hm) ?_)<;>refine hgS ?_)
      all_goals first
       | (exfalso;omega)
       | (exfalso;simp_all;done)
       | (refine RLe.ofEq ?_;conv=>simp only [Bool.and_true,Bool.true_and,Bool.and_false,Bool.false_and,Bool.or_true,Bool.true_or,Bool.or_false,Bool.false_or,Bool.not_true,Bool.not_false,decide_true,decide_false,not_true_eq_false,not_false_eq_true,x9k,if_true,if_false,Bool.and_self,Bool.or_self,cond_true,cond_false,List.length_map,ne_eq,Int.reduceEq,Int.reduceLT,Int.reduceLE, *]);first | exact trivial | rfl
    . have hrd:=vtn (Γ:=Gs) x.unit hu;rw [hu1] at hrd
      have e1:y9e x.n x.unit=(Rs.zero,14):=by unfold y9e;rw [hu1];simp only [decide_eq_true hk,cond_true]
      rw [e1] at L;obtain ⟨rfl,rfl⟩:r=Rs.zero/\e=14:=⟨congrArg Prod.fst L,congrArg Prod.snd L⟩;clear L e1;refine CallsD.run [] Go.Proofs.Tryz.func4 rfl rfl rfl ?_;simp only [Go.Proofs.Tryz.f4];refine hgR ?_
      repeat' ((first | refine hfk ?_ ?_<;>intros | refine hik ?_ | with_reducible first | refine y5m (s1) ?_ | refine vtc (s1) ?_ | refine y5m (f1) ?_ | refine vtc (f1) ?_ | refine y5m (o1) ?_ | refine vtc (o1) ?_ | refine y5m (c1) ?_ | refine vtc (c1) ?_ | refine y5m (o2) ?_ | refine vtc (o2) ?_ | refine y5m (sm) ?_ | refine vtc (sm) ?_ | refine y5m (hrd) ?_ | refine vtc (hrd) ?_)<;>refine hgS ?_)
      all_goals first
       | (exfalso;omega)
       | (exfalso;simp_all;done)
       | (refine RLe.ofEq ?_;conv=>simp only [Bool.and_true,Bool.true_and,Bool.and_false,Bool.false_and,Bool.or_true,Bool.true_or,Bool.or_false,Bool.false_or,Bool.not_true,Bool.not_false,decide_true,decide_false,not_true_eq_false,not_false_eq_true,x9k,if_true,if_false,Bool.and_self,Bool.or_self,cond_true,cond_false,List.length_map,ne_eq,Int.reduceEq,Int.reduceLT,Int.reduceLE, *]);first | exact trivial | rfl
  . clear L2 hR;refine CallsD.run [] Go.Proofs.Tryz.func4 rfl rfl rfl ?_;simp only [Go.Proofs.Tryz.f4];refine hgR ?_
    repeat' ((first | refine hfk ?_ ?_<;>intros | refine hik ?_ | with_reducible first | refine y5m (s1) ?_ | refine vtc (s1) ?_ | refine y5m (f1) ?_ | refine vtc (f1) ?_ | refine y5m (o1) ?_ | refine vtc (o1) ?_ | refine y5m (c1) ?_ | refine vtc (c1) ?_ | refine y5m (o2) ?_ | refine vtc (o2) ?_ | refine y5m (sm) ?_ | refine vtc (sm) ?_)<;>refine hgS ?_)
    all_goals first
     | (exfalso;omega)
     | (exfalso;simp_all;done)
     | (refine RLe.ofEq ?_;conv=>simp only [Bool.and_true,Bool.true_and,Bool.and_false,Bool.false_and,Bool.or_true,Bool.true_or,Bool.or_false,Bool.false_or,Bool.not_true,Bool.not_false,decide_true,decide_false,not_true_eq_false,not_false_eq_true,x9k,if_true,if_false,Bool.and_self,Bool.or_self,cond_true,cond_false,List.length_map,ne_eq,Int.reduceEq,Int.reduceLT,Int.reduceLE, *]);first | exact trivial | rfl
end Go.Hp.T
