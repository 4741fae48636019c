/- The proof, part Z40: Ql. -/
import Derived.Test.YtjhbbadljohadaaGreatDoorZ39
import Derived.Test.YtjhbbadljohadaaGreatDoorZ38
namespace Go.Hp.T
open Go Go.RowKit Go.Slot Go.Hp Go.Slot.T
open Go.Proofs.Tryz (prog)
set_option maxRecDepth 10000
set_option maxHeartbeats 4000000
abbrev nmB (x:Ex) (v:Vr) (w:Tb) (rt:Ty):List SB:=[.box ((exC x).map .dat) (some 24),.box ((vrC v).map .dat) (some 38),.box ((tbC w).map .dat) (some 55),.box ((tyC rt).map .dat) (some 32)]
theorem wNames (x:Ex) (vs:List Vr) (ms:List Tb) (v:Vr) (w:Tb) (hx:x.Sm) (hv:vs.length≤1048576) (hm:ms.length≤1048576) (hvn:∀ v∈vs,v.name.size≤1073741824) (hms:∀ t∈ms,t.Sm) (hv1:v.name.size≤1073741824) (hw1:w.Sm) :
 CallsD Gs prog 6 [.agg (exC x),.one (.sl 7 (vs.map Vr.C)),.one (.sl 3 (ms.map Tb.C)),.agg (vrC v),.agg (tbC w)] (.one (cB true)):=by
 have s1:=cSane
 have f1:=rFew15 (Γ:=Gs) x hx (vs++[v]) (ms++[w]) (by simp;omega) (by simp;omega)
 have o1:=cInferOf (Γ:=Gs) x vs ms hx (by omega) (by omega) hvn hms
 have o2:=cInferOf (Γ:=Gs) x (vs++[v]) (ms++[w]) hx (by simp;omega) (by simp;omega) (fun u hu=>by
  rcases List.mem_append.1 hu with h | h
  · exact hvn u h
  · rw [List.mem_singleton.1 h];exact hv1) (fun u hu=>by
  rcases List.mem_append.1 hu with h | h
  · exact hms u h
  · rw [List.mem_singleton.1 h];exact hw1)
 have H0:=lawNames0 x vs ms
 have H1:=lawNames1 x vs ms
 have H2:=lawNames2 x vs ms v w
 have H3:=lawNames3 x vs ms
 have H4:=lawNames4 x vs ms
 have o3:∀ y∈x.args,CallsD Gs prog 9 [.agg (exC y),.one (.sl 7 (vs.map Vr.C)),.one (.sl 3 (ms.map Tb.C))] (tyR (ofF y vs ms)):=fun y hy=>cInferOf (Γ:=Gs) y vs ms (hx.arg y hy) (by omega) (by omega) hvn hms
 have o4:∀ i,i<vs.length→CallsD Gs prog 9 [.agg (exC x),.one (.sl 7 ((vs.map Vr.C).take i++(vs.map Vr.C).drop (i+1))),.one (.sl 3 (ms.map Tb.C))] (tyR (ofF x (vs.take i++vs.drop (i+1)) ms)):=fun i hi=>by
  have:=cInferOf (Γ:=Gs) x (vs.take i++vs.drop (i+1)) ms hx (by simp;omega) (by omega) (fun u hu=>hvn u ((less_sub vs i).subset hu)) hms
  rwa [List.map_append,List.map_take,List.map_drop] at this
 have o5:∀ i,i<ms.length→CallsD Gs prog 9 [.agg (exC x),.one (.sl 7 (vs.map Vr.C)),.one (.sl 3 ((ms.map Tb.C).take i++(ms.map Tb.C).drop (i+1)))] (tyR (ofF x vs (ms.take i++ms.drop (i+1)))):=fun i hi=>by
  have:=cInferOf (Γ:=Gs) x vs (ms.take i++ms.drop (i+1)) hx (by omega) (by simp;omega) hvn (fun u hu=>hms u ((less_sub ms i).subset hu))
  rwa [List.map_append,List.map_take,List.map_drop] at this
 have p1:∀ op nm,CallsD Gs prog 16 [.agg (exC x),.one (cI op),.one (cS nm)] (.one (cB (x.has op nm))):=fun op nm=>cHas (Γ:=Gs) op nm x hx
 have hl:=hx.len
 rw [List.map_append,List.map_append,List.map_cons,List.map_cons,List.map_nil,List.map_nil,Vr.C_eq,Tb.C_eq] at f1 o2
 generalize few15 x (vs++[v]) (ms++[w])=b1 at f1
 generalize ofF x (vs++[v]) (ms++[w])=r2 at o2 H2
 obtain ⟨r2t,r2e⟩:=r2
 simp only at o2 H2
 cases hr:ofF x vs ms with
 | mk rt re=>
 rw [hr] at o1 H0 H1 H2 H3 H4
 simp only at o1 H0 H1 H2 H3 H4
 clear hvn hms hv1 hw1 hr
 refine CallsD.run [(2,[.room 4]),(13,[.room 5]),(16,[.join]),(19,[.room 3]),(26,[.room 3])] Go.Proofs.Tryz.func6 rfl rfl rfl ?_;simp only [Go.Proofs.Tryz.f6];refine hgR ?_
 repeat' ((first | refine hfk ?_ ?_<;>intros | refine hik ?_ | with_reducible first | refine hcall (s1) ?_ | refine hcalle (s1) ?_ | refine hcall (f1) ?_ | refine hcalle (f1) ?_ | refine hcall (o1) ?_ | refine hcalle (o1) ?_)<;>refine hgS ?_)
 all_goals first
  | exact RLe.ofEq rfl
  | skip
 obtain rfl:re=0:=by omega
 refine hloop [1,2,5,8,9,11] (fun n:Nat=>[(12,.one (.ptr 3 0)),(14,.one (.dat (cI n)))]) (fun _=>nmB x v w rt) (fun n=>n≤x.args.length) (fun n=>x.args.length-n) 0 (Nat.zero_le _) ?_ ?_
 · simp only [nmB]
   refine hg ?_
   exact StH.back [1,2,5,8,9,11,12,14] 3 7 4 rfl rfl rfl rfl rfl (by kernel_rfl) (StH.same (by repeat' first | exact .nil | refine .cons (by first | exact .refl _ | exact .any _) ?_) rfl)
 intro n hn
 simp only [nmB]
 refine hg ?_
 refine condD (fun hlt _=>?_) (fun hlt _=>?_)
 · have hmem:=getD_mem (show n<x.args.length by omega)
   have c1:=o3 _ hmem
   have c2:=H1 rfl _ hmem
   generalize ofF (x.args.getD n default) vs ms=r3 at c1 c2
   obtain ⟨r3t,r3e⟩:=r3
   simp only at c1 c2
   subst c2
   refine hg ?_
   repeat' ((first | refine hfk ?_ ?_<;>intros | refine hik ?_ | with_reducible first | refine hcall (c1) ?_ | refine hcalle (c1) ?_)<;>refine hgS ?_)
   all_goals first
    | (exfalso;simp_all;done)
    | exact ⟨n+1,by omega,by omega,StH.back [1,2,5,8,9,11,12,14] 0 0 4 rfl rfl rfl rfl rfl (by kernel_rfl) (StH.same (by repeat' first | exact .nil | refine .cons (by first | exact .refl _ | exact .any _) ?_) rfl)⟩
    | trace_state
 refine hg ?_
 repeat' ((first | refine hfk ?_ ?_<;>intros | refine hik ?_ | with_reducible first | refine hcall (o2) ?_ | refine hcalle (o2) ?_)<;>refine hgS ?_)
 refine hjoin [1,2,5,8,9,11] (fun _:Unit=>[(12,.one (.ptr 3 0))]) (fun _=>nmB x v w rt) (fun _=>True) ?_ ?_
 · rcases H2 rfl with h | h
   · obtain ⟨rfl,rfl⟩:r2t=rt∧r2e=0:=⟨congrArg Prod.fst h,congrArg Prod.snd h⟩
     refine hg ?_
     repeat' ((first | refine hfk ?_ ?_<;>intros | refine hik ?_)<;>refine hgS ?_)
     all_goals try (exfalso;simp_all;done)
     all_goals refine ⟨(),?_⟩
     all_goals refine StH.back [1,2,5,8,9,11,12] 3 3 4 rfl rfl rfl rfl rfl (by kernel_rfl) (StH.same (by repeat' first | exact .nil | refine .cons (by first | exact .refl _ | exact .any _) ?_) rfl)
   · subst h
     refine hg ?_
     repeat' ((first | refine hfk ?_ ?_<;>intros | refine hik ?_)<;>refine hgS ?_)
     all_goals try (exfalso;simp_all;done)
     all_goals refine ⟨(),?_⟩
     all_goals refine StH.back [1,2,5,8,9,11,12] 3 3 4 rfl rfl rfl rfl rfl (by kernel_rfl) (StH.same (by repeat' first | exact .nil | refine .cons (by first | exact .refl _ | exact .any _) ?_) rfl)
 intro _ _
 simp only [nmB]
 refine hg ?_
 refine hloop [1,2,5,8,9,11,12] (fun n:Nat=>[(19,.one (.dat (cI n)))]) (fun _=>nmB x v w rt) (fun n=>n≤vs.length) (fun n=>vs.length-n) 0 (Nat.zero_le _) ?_ ?_
 · simp only [nmB]
   refine hg ?_
   exact StH.same (by repeat' first | exact .nil | refine .cons (by first | exact .refl _ | exact .any _) ?_) rfl
 intro n hn
 simp only [nmB]
 refine hg ?_
 refine condD (fun hlt _=>?_) (fun hlt _=>?_)
 · have hlt':n<vs.length:=by omega
   have c1:=o4 n hlt'
   have c2:=H3 rfl n hlt'
   have c3:=p1 1 (vs.getD n default).name
   have l0:n-0=n:=rfl
   have l1:(List.take n (List.map Vr.C vs)).length=n:=by simp;omega
   have l2:(List.drop (n+1) (List.map Vr.C vs)).length=vs.length-(n+1):=by simp
   have l3:List.take (vs.length-(n+1)) (List.drop (n+1) (List.map Vr.C vs))=List.drop (n+1) (List.map Vr.C vs):=List.take_of_length_le (by simp)
   rw [c2] at c1
   clear c2
   generalize x.has 1 (vs.getD n default).name=u at c1 c3
   cases u with
   | true=>
    simp only [cond_true] at c1
    refine hgS ?_
    repeat' ((first | refine hfk ?_ ?_<;>intros | refine hik ?_ | with_reducible first | refine hcall (c1) ?_ | refine hcalle (c1) ?_ | refine hcall (c3) ?_ | refine hcalle (c3) ?_)<;>refine hgS ?_)
    all_goals try (exfalso;simp_all;done)
    all_goals exact ⟨n+1,by omega,by omega,StH.back [1,2,5,8,9,11,12,19] 3 3 4 rfl rfl rfl rfl rfl (by kernel_rfl) (StH.same (by repeat' first | exact .nil | refine .cons (by first | exact .refl _ | exact .any _) ?_) rfl)⟩
   | false=>
    simp only [cond_false] at c1
    refine hgS ?_
    repeat' ((first | refine hfk ?_ ?_<;>intros | refine hik ?_ | with_reducible first | refine hcall (c1) ?_ | refine hcalle (c1) ?_ | refine hcall (c3) ?_ | refine hcalle (c3) ?_)<;>refine hgS ?_)
    all_goals try (exfalso;simp_all;done)
    all_goals exact ⟨n+1,by omega,by omega,StH.back [1,2,5,8,9,11,12,19] 3 3 4 rfl rfl rfl rfl rfl (by kernel_rfl) (StH.same (by repeat' first | exact .nil | refine .cons (by first | exact .refl _ | exact .any _) ?_) rfl)⟩
 refine hg ?_
 refine hloop [1,2,5,8,9,11,12] (fun n:Nat=>[(23,.one (.dat (cI n)))]) (fun _=>nmB x v w rt) (fun n=>n≤ms.length) (fun n=>ms.length-n) 0 (Nat.zero_le _) ?_ ?_
 · simp only [nmB]
   refine hg ?_
   exact StH.same (by repeat' first | exact .nil | refine .cons (by first | exact .refl _ | exact .any _) ?_) rfl
 intro n hn
 simp only [nmB]
 refine hg ?_
 refine condD (fun hlt _=>?_) (fun hlt _=>?_)
 · have hlt':n<ms.length:=by omega
   have c1:=o5 n hlt'
   have c2:=H4 rfl n hlt'
   have c3:=p1 2 (ms.getD n default).name
   have l0:n-0=n:=rfl
   have l1:(List.take n (List.map Tb.C ms)).length=n:=by simp;omega
   have l2:(List.drop (n+1) (List.map Tb.C ms)).length=ms.length-(n+1):=by simp
   have l3:List.take (ms.length-(n+1)) (List.drop (n+1) (List.map Tb.C ms))=List.drop (n+1) (List.map Tb.C ms):=List.take_of_length_le (by simp)
   rw [c2] at c1
   clear c2
   generalize x.has 2 (ms.getD n default).name=u at c1 c3
   cases u with
   | true=>
    simp only [cond_true] at c1
    refine hgS ?_
    repeat' ((first | refine hfk ?_ ?_<;>intros | refine hik ?_ | with_reducible first | refine hcall (c1) ?_ | refine hcalle (c1) ?_ | refine hcall (c3) ?_ | refine hcalle (c3) ?_)<;>refine hgS ?_)
    all_goals try (exfalso;simp_all;done)
    all_goals exact ⟨n+1,by omega,by omega,StH.back [1,2,5,8,9,11,12,23] 3 3 4 rfl rfl rfl rfl rfl (by kernel_rfl) (StH.same (by repeat' first | exact .nil | refine .cons (by first | exact .refl _ | exact .any _) ?_) rfl)⟩
   | false=>
    simp only [cond_false] at c1
    refine hgS ?_
    repeat' ((first | refine hfk ?_ ?_<;>intros | refine hik ?_ | with_reducible first | refine hcall (c1) ?_ | refine hcalle (c1) ?_ | refine hcall (c3) ?_ | refine hcalle (c3) ?_)<;>refine hgS ?_)
    all_goals try (exfalso;simp_all;done)
    all_goals exact ⟨n+1,by omega,by omega,StH.back [1,2,5,8,9,11,12,23] 3 3 4 rfl rfl rfl rfl rfl (by kernel_rfl) (StH.same (by repeat' first | exact .nil | refine .cons (by first | exact .refl _ | exact .any _) ?_) rfl)⟩
 refine hg ?_
 exact RLe.ofEq rfl
end Go.Hp.T
