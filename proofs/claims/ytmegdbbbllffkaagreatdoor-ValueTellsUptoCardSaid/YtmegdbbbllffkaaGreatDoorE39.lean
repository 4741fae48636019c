/- The proof, part E39: Xe, Un, Xf, Dd. -/
import Derived.Test.YtmegdbbbllffkaaGreatDoorE38
import Derived.Test.YtmegdbbbllffkaaGreatDoorE36
import Derived.Test.YtmegdbbbllffkaaGreatDoorE32
import Derived.Test.YtmegdbbbllffkaaGreatDoorE37
namespace Go.Hp.T
open Go Go.RowKit Go.Slot Go.Hp Go.Slot.T
open Go.Proofs.Tryz (prog)
set_option maxRecDepth 10000
set_option maxHeartbeats 4000000
variable {Γ:List (Nat×List Cell)}
theorem yu5 {x:Ex} (h:yxn x=true) (hne:x.args.length≠0) (h2:x.op≠2) (h3:x.op≠3) (h5:x.op≠5):(x.op=4/\x.args.length=1)\/(6<=x.op/\x.op<=15/\x.args.length=2):=by
 unfold yxn at h;by_cases a0:x.op=0
 . rw [decide_eq_true a0,cond_true] at h;simp only [Bool.and_eq_true,decide_eq_true_eq] at h;omega
 rw [decide_eq_false a0,cond_false] at h
 cases hb:(decide (¬x.n=0)||decide (¬x.unit.size=0)) with
 | true=>rw [hb,cond_true] at h;cases h
 | false=>
 rw [hb,cond_false] at h;by_cases a1:x.op=1
 . rw [decide_eq_true a1,cond_true] at h;simp only [Bool.and_eq_true,decide_eq_true_eq] at h;omega
 rw [decide_eq_false a1,cond_false] at h;by_cases a2:x.op=2
 . omega
 by_cases a3:x.op=3
 . omega
 by_cases a4:x.op=4
 . rw [decide_eq_false a2,decide_eq_false a3,decide_eq_true a4] at h;simp only [cond_false,cond_true,Bool.and_eq_true,decide_eq_true_eq] at h;omega
 by_cases a5:x.op=5
 . omega
 rw [decide_eq_false a2,decide_eq_false a3,decide_eq_false a4,decide_eq_false a5] at h;simp only [cond_false] at h;by_cases a6:x.op=10\/x.op=11
 . rw [show (decide (x.op=10)||decide (x.op=11))=true by rcases a6 with h | h<;>simp [h]] at h;simp only [cond_true,Bool.and_eq_true,decide_eq_true_eq] at h;omega
 rw [decide_eq_false (fun h=>a6 (.inl h)),decide_eq_false (fun h=>a6 (.inr h))] at h;simp only [Bool.or_self,cond_false,Bool.and_eq_true] at h;have h7:=h.1.1;unfold isOp at h7;simp only [Bool.or_eq_true,decide_eq_true_eq] at h7 h;omega
theorem y7r (V:Vq) (T:Vt) (x:Ex) (bs ms:Cell) (hl:3<=x.args.length) (hl2:x.args.length<=1073741824)
 (h:∀ i,i<3->CallsD Γ prog 36 [.agg (exC (x.args.getD i default)),.one bs,.one ms] (rsR ((x.args.getD i default).cal V T))) :
 CallsD Γ prog 76 [.agg (exC x),.one bs,.one ms] (rsR (chV (x.args.map (Ex.cal V T)))):=by
 have h0:=h 0 (by decide);have h1:=h 1 (by decide);have h2:=h 2 (by decide);clear h
 have e:chV (x.args.map (Ex.cal V T))=bif decide (¬((x.args.getD 0 default).cal V T).2=0) then (Rs.zero,((x.args.getD 0 default).cal V T).2) else bif !((x.args.getD 0 default).cal V T).1.t then (Rs.zero,13) else bif ((x.args.getD 0 default).cal V T).1.i then (x.args.getD 1 default).cal V T else (x.args.getD 2 default).cal V T:=by
  unfold chV;rw [getD_map (show 0<x.args.length by omega),getD_map (show 1<x.args.length by omega),getD_map (show 2<x.args.length by omega)]
 rw [e];generalize (x.args.getD 0 default).cal V T=r0 at h0;generalize (x.args.getD 1 default).cal V T=r1 at h1;generalize (x.args.getD 2 default).cal V T=r2 at h2;obtain ⟨⟨t0,i0,v0⟩,e0⟩:=r0;obtain ⟨⟨t1,i1,v1⟩,e1⟩:=r1;obtain ⟨⟨t2,i2,v2⟩,e2⟩:=r2;simp only at h0 h1 h2 ⊢;refine CallsD.run [] Go.Proofs.Tryz.func76 rfl rfl rfl ?_;simp only [Go.Proofs.Tryz.f76];refine hgR ?_
 repeat' ((first | refine hfk ?_ ?_<;>intros | refine hik ?_ | with_reducible first | refine v6l (h0) ?_ | refine vgi (h0) ?_ | refine v6l (h1) ?_ | refine vgi (h1) ?_ | refine v6l (h2) ?_ | refine vgi (h2) ?_)<;>refine hgS ?_)
 all_goals first
  | exact rsEq rfl
  | refine lfE ?_;first | exact trivial | rfl
theorem vhh {B:Nat} (hB:4300<=B) (bs:List Bd) (ms:List Tb) (V:Vq) (T:Vt) (hb:BdOk bs V) (hm:ms.length<=1073741824) (hV:Vsm B V) (hT:∀ s,ycr T s=fnd Tb.name ms s) (hTs:∀ s t,ycr T s=some t->t.Sm/\tbOk t=true):∀ x:Ex,x.Sm->x.shaped=true->x.xi4=false->B*x.nd<=67108864->CallsD Γ prog 36 [.agg (exC x),.one (.sl 5 (bs.map Bd.C)),.one (.sl 3 (ms.map Tb.C))] (rsR (x.cal V T)):=by
 refine Ex.ind (fun x ih hx hsh hcl hnd=>?_);have hl:=hx.len;have hcal:=Ex.yre V T x
 have hnode:yxn x=true:=by rw [Ex.xg3,Bool.and_eq_true] at hsh;exact hsh.1
 have hargs:∀ y∈x.args,y.shaped=true:=by rw [Ex.xg3,Bool.and_eq_true,List.all_eq_true] at hsh;exact hsh.2
 have hcalls:x.op≠3/\∀ y∈x.args,y.xi4=false:=by
  rw [Ex.wd9,Bool.or_eq_false_iff,decide_eq_false_iff_not,List.any_eq_false] at hcl;exact ⟨hcl.1,fun y hy=>by simpa using hcl.2 y hy⟩
 have hnds:∀ y∈x.args,B*y.nd<=67108864:=fun y hy=>Nat.le_trans (Nat.mul_le_mul_left _ (by have:=Ex.xka hy;have:=Ex.z1dq x;omega)) hnd
 have hih:∀ y∈x.args,CallsD Γ prog 36 [.agg (exC y),.one (.sl 5 (bs.map Bd.C)),.one (.sl 3 (ms.map Tb.C))] (rsR (y.cal V T)):=fun y hy=>ih y hy (hx.arg y hy) (hargs y hy) (hcalls.2 y hy) (hnds y hy)
 clear ih;by_cases hne:x.args.length=0
 . have h01:x.op=0\/x.op=1:=by
    unfold yxn at hnode;by_cases h0:x.op=0
    . exact .inl h0
    by_cases h1:x.op=1
    . exact .inr h1
    rw [decide_eq_false h0,decide_eq_false h1,hne] at hnode;simp [hcalls.1] at hnode
   have hin:inI x.n:=by
    rcases h01 with h | h
    . have:=z01q hnode h;unfold inI;omega
    . have:x.n=0:=by
       unfold yxn at hnode;rw [h] at hnode;simp at hnode;exact hnode.1.1
      rw [this];decide
   have hlf:=vfy (Γ:=Γ) x bs V hx hb h01 hin
   have e:x.cal V T=bif decide (x.op=0) then xoq x.n x.unit else y21 V x.name:=by
    rw [hcal]
    rcases h01 with h | h
    . rw [decide_eq_true h];rfl
    . rw [decide_eq_true h,decide_eq_false (by omega)];rfl
   rw [e];generalize (bif decide (x.op=0) then xoq x.n x.unit else y21 V x.name)=r at hlf;obtain ⟨⟨t,i,v⟩,n⟩:=r
   have hne':(x.args.length:Int)=0:=by omega
   refine CallsD.run [] Go.Proofs.Tryz.func36 rfl rfl rfl ?_;simp only [Go.Proofs.Tryz.f36];refine hgR ?_
   repeat' ((first | refine hfk ?_ ?_<;>intros | refine hik ?_ | with_reducible first | refine v6l (hlf) ?_ | refine vgi (hlf) ?_)<;>refine hgS ?_)
   all_goals first
    | (exfalso;omega)
    | refine lfE ?_;first | exact trivial | rfl
 obtain ⟨hl2,hl3⟩:=x6z hnode hcalls.1 hne
 have h0:¬x.op=0:=fun h0=>by
  unfold yxn at hnode;rw [decide_eq_true h0,decide_eq_false (show ¬(x.args.length:Int)=0 by omega)] at hnode;simp at hnode
 have h1:¬x.op=1:=fun h1=>by
  unfold yxn at hnode;rw [decide_eq_false h0,decide_eq_true h1,decide_eq_false (show ¬(x.args.length:Int)=0 by omega)] at hnode;simp at hnode
 rw [decide_eq_false h0,decide_eq_false h1,cond_false,cond_false] at hcal;have hops:=yl9 hnode hne;by_cases h5:x.op=5
 . rw [decide_eq_true h5,cond_true] at hcal;have hl3':=hl3 h5;have hch:=y7r (Γ:=Γ) V T x (.sl 5 (bs.map Bd.C)) (.sl 3 (ms.map Tb.C)) hl3' hl (fun i hi=>hih _ (w4t (show i<x.args.length by omega)));rw [hcal];generalize chV (x.args.map (Ex.cal V T))=r at hch;obtain ⟨⟨t,i,v⟩,n⟩:=r
   have hch:CallsD Γ prog 76 [.agg [cI 5,cI x.n,cS x.unit,cS x.name,.sl 5 (x.args.map Ex.cells)],.one (.sl 5 (bs.map Bd.C)),.one (.sl 3 (ms.map Tb.C))] (rsR (⟨t,i,v⟩,n)):=by rw [<-h5];exact hch
   refine CallsD.run [] Go.Proofs.Tryz.func36 rfl rfl rfl ?_;simp only [Go.Proofs.Tryz.f36];refine hgR ?_
   repeat' ((first | refine hfk ?_ ?_<;>intros | refine hik ?_ | with_reducible first | refine v6l (hch) ?_ | refine vgi (hch) ?_)<;>refine hgS ?_)
   all_goals first
    | (exfalso;omega)
    | refine lfE ?_;first | exact trivial | rfl
 rw [decide_eq_false h5,cond_false] at hcal
 have hqz:∀ y∈x.args,qz (y.cal V T).1.v<=67108864:=fun y hy=>Nat.le_trans (zau hB hV y (hargs y hy) (hcalls.2 y hy)) (hnds y hy)
 rw [hcal];clear hcal hnd hV;generalize hS:seqV (x.args.map (Ex.cal V T))=S;refine CallsD.run [] Go.Proofs.Tryz.func36 rfl rfl rfl ?_;simp only [Go.Proofs.Tryz.f36];refine hgR ?_
 repeat' ((first | refine hfk ?_ ?_<;>intros | refine hik ?_)<;>refine hgS ?_)
 all_goals try (exfalso;omega)
 refine y55 [1,2,3,6] (fun p:Nat×List Rs=>[(12,.one (.sl 2 6 0 p.2.length)),(13,.one (.dat (cI p.1)))])
  (fun p=>[.box ((exC x).map .dat) (some 24),.box ((rsZ false false).map .dat) (some 35),.arr (.sl 6 (p.2.map Rs.C)) 0 (some 35)])
  (fun p=>p.1<=x.args.length/\p.2.length=p.1/\(∀ r∈p.2,qz r.v<=67108864)/\S=match seqV ((x.args.drop p.1).map (Ex.cal V T)) with
    | .inl e=>.inl e
    | .inr r=>.inr (p.2++r)) (fun p=>x.args.length-p.1) (0,[]) ⟨Nat.zero_le _,rfl,fun r hr=>(by cases hr),by simp only [List.drop_zero,List.nil_append];rw [hS];cases S<;>rfl⟩ ?_ ?_
 . refine hg ?_;refine StH.trans (StH.empty (d:=12) (es:=6) (c:=.sl 6 []) (T:=some 35) rfl rfl (fun r hr=>by cases hr) rfl) ?_;refine hg ?_;exact StH.same svl rfl
 clear hS;rintro ⟨i,rs⟩ ⟨q1,q2,q3,q4⟩;simp only at q1 q2 q3 q4;refine hg ?_;refine vnx (fun hlt _=>?_) (fun hlt _=>?_)
 . have hlt':i<x.args.length:=by omega
   have hy:=w4t hlt';rw [xqz hlt',List.map_cons] at q4;have hqy:=hqz _ hy;have hc:=hih _ hy;refine hg ?_;generalize hr:Ex.cal V T (x.args.getD i default)=r at q4 hqy hc;obtain ⟨t,e⟩:=r;rw [seqV] at q4;simp only at q4 hqy hc;refine v6l hc ?_;refine hg ?_;refine vnx (fun he hd=>?_) (fun he hd=>?_)
   . refine hg ?_
     have q4':S=.inl e:=by rw [q4,show decide (¬e=0)=true from hd];rfl
     rw [q4'];exact rsEq rfl
   . refine hg ?_;rw [show decide (¬e=0)=false from hd,cond_false] at q4
     have q4':S=match seqV ((x.args.drop (i+1)).map (Ex.cal V T)) with
      | .inl e=>.inl e
      | .inr r=>.inr ((rs++[t])++r):=by
      rw [q4]
      cases seqV ((x.args.drop (i+1)).map (Ex.cal V T)) with
      | inl e=>rfl
      | inr r=>simp only [List.append_assoc,List.singleton_append]
     have hmap:rs.map Rs.C++[rsC t]=(rs++[t]).map Rs.C:=by simp;rfl
     rw [hmap]
     refine ⟨(i+1,rs++[t]),⟨by dsimp only;omega,by dsimp only;rw [List.length_append,List.length_singleton,q2],fun r hr'=>by
      rcases List.mem_append.1 hr' with h | h
      . exact q3 r h
      . rw [List.mem_singleton.1 h];exact hqy,q4'⟩,by dsimp only;omega,?_⟩
     refine StH.back [1,2,3,6,12,13] 2 4 3 rfl rfl rfl rfl rfl (by kernel_rfl) ?_;refine hg ?_;exact StH.same svl rfl
 . have q4':S=.inr rs:=by rw [q4,List.drop_eq_nil_of_le (by omega)];show (match seqV [] with | .inl e=>Sum.inl e | .inr r=>Sum.inr (rs++r))=_;rw [seqV];simp only [List.append_nil]
   rw [q4'];clear q4 q4' hih
   have hlen:rs.length=x.args.length:=by omega
   have hr0:=q3 _ (w4t (show 0<rs.length by omega))
   have hlen0:0<rs.length:=by omega
   by_cases h2:x.op=2
   . rw [show z03q T x.op x.name (.inr rs)=woh T x.name (rs.getD 0 default) by show opV T x.op x.name rs=_;unfold opV;rw [decide_eq_true h2];rfl];have hf:=zmt (Γ:=Γ) ms x.name hm;rw [<-hT x.name] at hf
     cases hlk:ycr T x.name with
     | none=>
      rw [hlk] at hf;rw [show woh T x.name (rs.getD 0 default)=(⟨false,false,none⟩,11) by unfold woh;rw [hlk];rfl];have hf:CallsD Γ prog 77 [.one (.sl 3 (ms.map Tb.C)),.one (cS x.name)] (.tup [.agg [cS ⟨⟨[]⟩⟩,cS ⟨⟨[]⟩⟩,.zc],.one (cB false)]):=hf;refine hg ?_
      repeat' ((first | refine hfk ?_ ?_<;>intros | refine hik ?_ | with_reducible first | refine v6l (hf) ?_ | refine vgi (hf) ?_)<;>refine hgS ?_)
      all_goals first
       | (exfalso;omega)
       | exact rsEq rfl
     | some t=>
      rw [hlk] at hf;have hf:CallsD Γ prog 77 [.one (.sl 3 (ms.map Tb.C)),.one (cS x.name)] (.tup [.agg (tbC t),.one (cB true)]):=hf;obtain ⟨t1,t2⟩:=hTs x.name t hlk;have hL:=z12q (Γ:=Γ) t (rs.getD 0 default).v hr0 t1.n t1.u t1.r;rw [show woh T x.name (rs.getD 0 default)=bif (rs.getD 0 default).t then (⟨false,false,none⟩,13) else numV (z0cq t (rs.getD 0 default).v).1 (z0cq t (rs.getD 0 default).v).2 by unfold woh;rw [hlk];rfl];generalize z0cq t (rs.getD 0 default).v=r at hL;obtain ⟨rv,re⟩:=r;simp only at hL;refine hg ?_
      repeat' ((first | refine hfk ?_ ?_<;>intros | refine hik ?_ | with_reducible first | refine v6l (hf) ?_ | refine vgi (hf) ?_ | refine v6l (hL) ?_ | refine vgi (hL) ?_ | refine v6l (wuu _ _) ?_ | refine vgi (wuu _ _) ?_)<;>refine hgS ?_)
      all_goals first
       | (exfalso;omega)
       | exact rsEq rfl
       | refine lfE ?_;first | exact trivial | rfl
   . have hj:=x0l (Γ:=Γ) x.op rs (by rw [hlen];exact yu5 hnode hne h2 hcalls.1 h5) q3;rw [show z03q T x.op x.name (.inr rs)=v3b x.op rs by show opV T x.op x.name rs=_;unfold opV v3b;rw [decide_eq_false h2];rfl];generalize v3b x.op rs=r at hj;obtain ⟨⟨t,i,v⟩,e⟩:=r;refine hg ?_
     repeat' ((first | refine hfk ?_ ?_<;>intros | refine hik ?_ | with_reducible first | refine v6l (hj) ?_ | refine vgi (hj) ?_)<;>refine hgS ?_)
     all_goals first
      | (exfalso;omega)
      | refine lfE ?_;first | exact trivial | rfl
end Go.Hp.T
namespace Go.Hp.T
open Go Go.RowKit Go.Slot Go.Hp
set_option maxRecDepth 10000
theorem w2b (x:Ex):xye x=yxn x:=by
 unfold xye yxn xyh isOp;by_cases h0:x.op=0
 . rw [decide_eq_true h0];rfl
 rw [decide_eq_false h0,cond_false,cond_false]
 cases hb:(decide (¬x.n=0)||decide (¬x.unit.size=0)) with
 | true=>rfl
 | false=>
  simp only [cond_false]
  have fin:∀ k:Int,0<k->(decide (x.name.size=0)&&decide (0<(x.args.length:Int))&&decide ((x.args.length:Int)=k))=(decide (x.name.size=0)&&decide ((x.args.length:Int)=k)):=fun k hk=>by
   by_cases h:(x.args.length:Int)=k
   . rw [decide_eq_true (show 0<(x.args.length:Int) by omega),Bool.and_true]
   . rw [decide_eq_false h,Bool.and_false,Bool.and_false]
  by_cases h1:x.op=1
  . rw [h1];rfl
  by_cases h2:x.op=2
  . rw [h2];rfl
  by_cases h3:x.op=3
  . rw [h3];rfl
  by_cases h4:x.op=4
  . rw [h4];exact fin 1 (by decide)
  by_cases h5:x.op=5
  . rw [h5];exact fin 3 (by decide)
  by_cases h6:x.op=6
  . rw [h6];exact fin 2 (by decide)
  by_cases h7:x.op=7
  . rw [h7];exact fin 2 (by decide)
  by_cases h8:x.op=8
  . rw [h8];exact fin 2 (by decide)
  by_cases h9:x.op=9
  . rw [h9];exact fin 2 (by decide)
  by_cases h10:x.op=10
  . rw [h10];exact fin 2 (by decide)
  by_cases h11:x.op=11
  . rw [h11];exact fin 2 (by decide)
  by_cases h12:x.op=12
  . rw [h12];exact fin 2 (by decide)
  by_cases h13:x.op=13
  . rw [h13];exact fin 2 (by decide)
  by_cases h14:x.op=14
  . rw [h14];exact fin 2 (by decide)
  by_cases h15:x.op=15
  . rw [h15];exact fin 2 (by decide)
  simp [h1,h2,h3,h4,h5,h6,h7,h8,h9,h10,h11,h12,h13,h14,h15]
  try omega
theorem zex:∀ x:Ex,x.rsh=x.shaped:=by
 refine Ex.ind (fun x ih=>?_);rw [Ex.xss,Ex.xg3,w2b]
 congr 1
 refine Bool.eq_iff_iff.2 ?_;rw [List.all_eq_true,List.all_eq_true];exact ⟨fun h y hy=>by rw [<-ih y hy];exact h y hy,fun h y hy=>by rw [ih y hy];exact h y hy⟩
theorem vc8:∀(x:Ex) (c d:Int),(x.cnt c d).1=decide (0<=x.rsz (200-c) (21-d))/\((x.cnt c d).1=true->(x.cnt c d).2=c+x.rsz (200-c) (21-d)):=by
 refine Ex.ind (fun x ih c d=>?_)
 have hL:∀ l:List Ex,(∀ z∈l,z∈x.args)->∀ c d k:Int,0<=k->(Ex.cntL l (c+k) (d+1)).1=decide (0<=Ex.rszL l (200-c) (21-d) k)/\((Ex.cntL l (c+k) (d+1)).1=true->(Ex.cntL l (c+k) (d+1)).2=c+Ex.rszL l (200-c) (21-d) k):=by
  intro l
  induction l with
  | nil=>intro _ c d k hk;rw [Ex.cntL,Ex.rszL];exact ⟨(decide_eq_true hk).symm,fun _=>rfl⟩
  | cons z l ihl=>
   intro hz c d k hk;obtain ⟨h1,h2⟩:=ih z (hz z (by simp)) (c+k) (d+1);rw [show (200:Int)-(c+k)=200-c-k by omega,show (21:Int)-(d+1)=21-d-1 by omega] at h1 h2;rw [Ex.cntL,Ex.rszL]
   cases hc:z.cnt (c+k) (d+1) with
   | mk b m=>
    rw [hc] at h1 h2;simp only at h1 h2;generalize z.rsz (200-c-k) (21-d-1)=r at h1 h2 ⊢
    cases b with
    | false=>
     have hr:r<0:=by
      have:=of_decide_eq_false h1.symm
      omega
     rw [decide_eq_true hr,cond_true];exact ⟨rfl,fun h=>by cases h⟩
    | true=>
     have hr:0<=r:=of_decide_eq_true h1.symm;rw [decide_eq_false (show ¬r<0 by omega),cond_false,h2 rfl];have h3:=ihl (fun w hw=>hz w (by simp [hw])) c d (k+r) (by omega);rw [show c+(k+r)=c+k+r by omega] at h3;exact h3
 rw [Ex.vrw,Ex.vj1];by_cases a1:200<c+1
 . rw [decide_eq_true a1,decide_eq_true (show 200-c<1 by omega)];exact ⟨rfl,fun h=>by cases h⟩
 . by_cases a2:20<d
   . rw [decide_eq_true a2,decide_eq_true (show 21-d<1 by omega),Bool.or_true,Bool.or_true];exact ⟨rfl,fun h=>by cases h⟩
   . rw [decide_eq_false a1,decide_eq_false a2,decide_eq_false (show ¬200-c<1 by omega),decide_eq_false (show ¬21-d<1 by omega)];exact hL x.args (fun z hz=>hz) c d 1 (by decide)
theorem z0fr (x:Ex):ykf x=xub x:=by
 unfold ykf xub;rw [(vc8 x 0 1).1,zex];rfl
end Go.Hp.T
namespace Go.Hp.T
open Go Go.RowKit Go.Slot Go.Hp Go.Slot.T
open Go.Proofs.Tryz (prog)
set_option maxRecDepth 10000
set_option maxHeartbeats 4000000
variable {Γ:List (Nat×List Cell)}
variable {l:List ByteArray}
def strC (s:ByteArray):List Cell:=[cS s]
theorem wkt (s:ByteArray):strC s=[cS s]:=rfl
attribute [go_sem] wkt
def okN (l:List ByteArray) (j:Nat):Prop:=isNamed (l.getD j default)=true/\∀ k,k<j->l.getD k default≠l.getD j default
theorem wtc:x6g l↔∀ j,j<l.length->okN l j:=by
 unfold x6g okN;constructor
 . rintro ⟨h1,h2⟩ j hj
   have e:l.getD j default=l[j]:=by simp [hj]
   refine ⟨by rw [e];exact h1 _ (List.getElem_mem hj),fun k hk=>?_⟩
   have e2:l.getD k default=l[k]:=by simp [show k<l.length by omega]
   rw [e,e2];exact List.pairwise_iff_getElem.1 h2 k j (by omega) hj hk
 . intro h;refine ⟨fun s hs=>?_,?_⟩
   . obtain ⟨j,hj,rfl⟩:=List.getElem_of_mem hs
     have:=(h j hj).1
     rwa [show l.getD j default=l[j] by simp [hj]] at this
   . refine List.pairwise_iff_getElem.2 (fun i j hi hj hij=>?_)
     have:=(h j hj).2 i hij
     rwa [show l.getD j default=l[j] by simp [hj],show l.getD i default=l[i] by simp [hi]] at this
theorem zzs {j:Nat} (hj:j<l.length) (h:¬okN l j):decide (x6g l)=false:=decide_eq_false (fun hg=>h (wtc.1 hg j hj))
theorem x16 (names:List ByteArray) (ms:List Tb) (hn:names.length<=1048576) (hm:ms.length<=1048576) (hns:∀ s∈names,s.size<=1073741824) (hms:∀ t∈ms,t.Sm):CallsD Γ prog 49 [.one (.sl 1 (names.map strC)),.one (.sl 3 (ms.map Tb.C))] (.one (cB (ms.all tbOk&&decide (x6g (names++ms.map Tb.name))))):=by
 generalize hR:(ms.all tbOk&&decide (x6g (names++ms.map Tb.name)))=R;refine CallsD.run [] Go.Proofs.Tryz.func49 rfl rfl rfl ?_;simp only [Go.Proofs.Tryz.f49];refine hgR ?_;refine y55 [1] (fun n:Nat=>[(5,.one (.sl 0 1 0 (names.length+n))),(6,.one (.dat (cI n)))]) (fun n=>[.arr (.sl 1 ((names++(ms.take n).map Tb.name).map strC)) 0 (some 9)])
  (fun n=>n<=ms.length/\∀ j,j<n->tbOk (ms.getD j default)=true) (fun n=>ms.length-n) 0 ⟨Nat.zero_le _,fun j hj=>by omega⟩ ?_ ?_
 . refine hg ?_;exact StH.same svl (by simp)
 rintro n ⟨hn,hj⟩
 have hlenA:(names++(ms.take n).map Tb.name).length=names.length+n:=by simp;omega
 refine hg ?_;refine vnx (fun hlt _=>?_) (fun hlt _=>?_)
 . have hlt':n<ms.length:=by omega
   have hy:=hms _ (w4t hlt');have hc:=vf2 (Γ:=Γ) _ hy.n hy.u hy.r
   have hbad:tbOk (ms.getD n default)=false->R=false:=fun h=>by
    rw [<-hR,show ms.all tbOk=false by
     cases hall:ms.all tbOk with
     | false=>rfl
     | true=>rw [List.all_eq_true.1 hall _ (w4t hlt')] at h;cases h]
    rfl
   have ht:(names++(ms.take n).map Tb.name).map strC++[[cS (ms.getD n default).name]]=(names++(ms.take (n+1)).map Tb.name).map strC:=by
    rw [z4f hlt'];simp only [List.map_append,List.append_assoc,List.map_cons,List.map_nil];rfl
   have hl2:((names++(ms.take (n+1)).map Tb.name).map strC).length=names.length+(n+1):=by simp;omega
   clear hR
   cases hT:tbOk (ms.getD n default) with
   | false=>
    have hT':zi4 (fun s=>(zte s).2) (ms.getD n default)=false:=hT;rw [hbad hT];rw [hT'] at hc;clear hbad ht;refine hg ?_
    repeat' ((first | refine hfk ?_ ?_<;>intros | refine hik ?_ | with_reducible first | refine v6l (hc) ?_ | refine vgi (hc) ?_)<;>refine hgS ?_)
    exact RLe.ofEq rfl
   | true=>
    have hT':zi4 (fun s=>(zte s).2) (ms.getD n default)=true:=hT;rw [hT'] at hc;have hnext:=xf4 (p:=fun j=>tbOk (ms.getD j default)=true) hj hT;clear hbad hj hT hT';refine hg ?_
    repeat' ((first | refine hfk ?_ ?_<;>intros | refine hik ?_ | with_reducible first | refine v6l (hc) ?_ | refine vgi (hc) ?_)<;>refine hgS ?_)
    refine ⟨n+1,⟨by omega,hnext⟩,by omega,?_⟩
    try simp only [ht,hl2]
    exact StH.back [1,5,6] 0 1 1 rfl rfl rfl rfl rfl (by kernel_rfl) (StH.same svl rfl)
 . have e:n=ms.length:=by omega
   subst e
   have hall:ms.all tbOk=true:=by
    rw [List.all_eq_true];intro t ht;obtain ⟨j,hj',rfl⟩:=List.getElem_of_mem ht
    have:=hj j hj'
    rwa [show ms.getD j default=ms[j] from by simp [hj']] at this
   rw [hall,Bool.true_and] at hR;rw [List.take_length] at hlenA ⊢
   have hsz:∀ j,j<(names++ms.map Tb.name).length->((names++ms.map Tb.name).getD j default).size<=1073741824:=fun j hj=>by
    rcases List.mem_append.1 (w4t hj) with h | h
    . exact hns _ h
    . obtain ⟨t,ht,e⟩:=List.mem_map.1 h;rw [<-e];exact (hms t ht).n
   clear hall hj hns hms;generalize names++ms.map Tb.name=L at *;rw [<-hlenA]
   have hL:L.length<=2097152:=by omega
   clear hlenA;refine hg ?_;refine y55 [5] (fun j:Nat=>[(7,.one (.dat (cI j)))]) (fun _=>[.arr (.sl 1 (L.map strC)) 0 (some 9)]) (fun j=>j<=L.length/\∀ k,k<j->okN L k) (fun j=>L.length-j) 0 ⟨Nat.zero_le _,fun k hk=>by omega⟩ ?_ ?_
   . refine hg ?_;exact StH.same svl rfl
   rintro j ⟨hj,hk⟩;refine hg ?_;refine vnx (fun hlt _=>?_) (fun hlt _=>?_)
   . have hlt':j<L.length:=by omega
     have c1:=z2u (Γ:=Γ) (L.getD j default) (hsz j hlt');have c2:=x1b (Γ:=Γ) (L.getD j default)
     cases hN:isName (L.getD j default) with
     | false=>
      rw [hN] at c1;rw [<-hR,zzs hlt' (fun h'=>by have:=h'.1;unfold isNamed at this;rw [hN] at this;cases this)];clear hR;refine hg ?_
      repeat' ((first | refine hfk ?_ ?_<;>intros | refine hik ?_ | with_reducible first | refine v6l (c1) ?_ | refine vgi (c1) ?_)<;>refine hgS ?_)
      exact RLe.ofEq rfl
     | true=>cases hW:isWord (L.getD j default) with
      | true=>
       rw [hN] at c1;rw [hW] at c2;rw [<-hR,zzs hlt' (fun h'=>by have:=h'.1;unfold isNamed at this;rw [hN,hW] at this;cases this)];clear hR;refine hg ?_
       repeat' ((first | refine hfk ?_ ?_<;>intros | refine hik ?_ | with_reducible first | refine v6l (c1) ?_ | refine vgi (c1) ?_ | refine v6l (c2) ?_ | refine vgi (c2) ?_)<;>refine hgS ?_)
       exact RLe.ofEq rfl
      | false=>
       rw [hN] at c1;rw [hW] at c2
       have hnm:isNamed (L.getD j default)=true:=by unfold isNamed;rw [hN,hW];rfl
       clear hN hW;refine hg ?_
       repeat' ((first | refine hfk ?_ ?_<;>intros | refine hik ?_ | with_reducible first | refine v6l (c1) ?_ | refine vgi (c1) ?_ | refine v6l (c2) ?_ | refine vgi (c2) ?_)<;>refine hgS ?_)
       refine y55 [5,7] (fun k:Nat=>[(8,.one (.dat (cI k)))]) (fun _=>[.arr (.sl 1 (L.map strC)) 0 (some 9)]) (fun k=>k<=j/\∀ i,i<k->L.getD i default≠L.getD j default) (fun k=>j-k) 0 ⟨Nat.zero_le _,fun i hi=>by omega⟩ ?_ ?_
       . refine hg ?_;exact StH.same svl rfl
       rintro k ⟨hkj,hne⟩;refine hg ?_;refine vnx (fun hkl _=>?_) (fun hkl _=>?_)
       . refine hg ?_
         repeat' ((first | refine hfk ?_ ?_<;>intros | refine hik ?_)<;>refine hgS ?_)
         . rename_i h;rw [<-hR,zzs hlt' (fun h'=>h'.2 k (by omega) (vyd h))];exact RLe.ofEq rfl
         . rename_i h;exact ⟨k+1,⟨by omega,xf4 hne (fun e=>by rw [e,zfk] at h;cases h)⟩,by omega,StH.same svl rfl⟩
       . have hkj':k=j:=by omega
         have hok:okN L j:=⟨hnm,fun i hi=>hne i (by omega)⟩;have hnext:=xf4 (p:=okN L) hk hok;clear hne hok hk;refine hg ?_;exact ⟨j+1,⟨by omega,hnext⟩,by omega,StH.same svl rfl⟩
   . have hgd:x6g L:=wtc.2 (fun k hk'=>hk k (by omega));rw [<-hR,decide_eq_true hgd];refine hg ?_;exact RLe.ofEq rfl
theorem z0dr (bs:List Bd) (ms:List Tb) (hb:bs.length<=1048576) (hm:ms.length<=1048576) (hbs:∀ b∈bs,b.Sm) (hq:∀ b∈bs,b.v.sz<=268435456) (hms:∀ t∈ms,t.Sm):CallsD Γ prog 20 [.one (.sl 5 (bs.map Bd.C)),.one (.sl 3 (ms.map Tb.C))] (.one (cB (entF bs ms).isSome)):=by
 have hf:=x16 (Γ:=Γ) (bs.map Bd.name) ms (by rw [List.length_map];exact hb) hm (fun s hs=>by
  obtain ⟨b,hb',e⟩:=List.mem_map.1 hs
  rw [<-e];exact (hbs b hb').n) hms
 have hR:(entF bs ms).isSome=(bs.all (fun b=>decide b.v.ok)&&(ms.all tbOk&&decide (x6g (bs.map Bd.name++ms.map Tb.name)))):=by
  rw [show (entF bs ms).isSome=_ from yee,Bool.and_assoc]
 rw [hR];generalize (ms.all tbOk&&decide (x6g (bs.map Bd.name++ms.map Tb.name)))=F at hf;clear hR hms;generalize hR:(bs.all (fun b=>decide b.v.ok)&&F)=R;rw [List.map_map] at hf;refine CallsD.run [] Go.Proofs.Tryz.func20 rfl rfl rfl ?_;simp only [Go.Proofs.Tryz.f20];refine hgR ?_;refine y55 [0,1] (fun n:Nat=>[(5,.one (.sl 0 1 0 n)),(6,.one (.dat (cI n)))]) (fun n=>[.arr (.sl 1 ((bs.take n).map (strC∘Bd.name))) 0 (some 9)])
  (fun n=>n<=bs.length/\∀ j,j<n->(bs.getD j default).v.ok) (fun n=>bs.length-n) 0 ⟨Nat.zero_le _,fun j hj=>by omega⟩ ?_ ?_
 . refine hg ?_;refine StH.trans (StH.empty (d:=5) (es:=1) (c:=.sl 1 []) (T:=some 9) rfl rfl (fun r hr=>by cases hr) rfl) ?_;refine hg ?_;exact StH.same svl rfl
 rintro n ⟨hn,hj⟩
 have hlenA:(bs.take n).length=n:=by rw [List.length_take];omega
 refine hg ?_;refine vnx (fun hlt _=>?_) (fun hlt _=>?_)
 . have hlt':n<bs.length:=by omega
   have hc:CallsD Γ prog 48 [.agg [.raw (.int .i64 (bs.getD n default).v.s),.ints .i64 (bs.getD n default).v.L,.raw (.int .i64 (bs.getD n default).v.t),.ints .i64 (bs.getD n default).v.M]] (.one (cB (decide (bs.getD n default).v.ok))):=xy2 _ (hq _ (w4t hlt'))
   have ht:(bs.take n).map (strC∘Bd.name)++[[cS (bs.getD n default).name]]=(bs.take (n+1)).map (strC∘Bd.name):=by
    rw [z4f hlt',List.map_append];rfl
   have hl2:((bs.take (n+1)).map (strC∘Bd.name)).length=n+1:=by simp;omega
   by_cases hok:(bs.getD n default).v.ok
   . rw [decide_eq_true hok] at hc;have hnext:=xf4 (p:=fun j=>(bs.getD j default).v.ok) hj hok;clear hj hok hR;refine hg ?_
     repeat' ((first | refine hfk ?_ ?_<;>intros | refine hik ?_ | with_reducible first | refine v6l (hc) ?_ | refine vgi (hc) ?_)<;>refine hgS ?_)
     refine ⟨n+1,⟨by omega,hnext⟩,by omega,?_⟩
     try simp only [ht,hl2]
     exact StH.back [0,1,5,6] 0 1 1 rfl rfl rfl rfl rfl (by kernel_rfl) (StH.same svl rfl)
   . rw [decide_eq_false hok] at hc
     rw [<-hR,show bs.all (fun b=>decide b.v.ok)=false by
      cases hall:bs.all (fun b=>decide b.v.ok) with
      | false=>rfl
      | true=>exact absurd (of_decide_eq_true (List.all_eq_true.1 hall _ (w4t hlt'))) hok]
     clear hR ht hok hj;refine hg ?_
     repeat' ((first | refine hfk ?_ ?_<;>intros | refine hik ?_ | with_reducible first | refine v6l (hc) ?_ | refine vgi (hc) ?_)<;>refine hgS ?_)
     exact RLe.ofEq rfl
 . have e:n=bs.length:=by omega
   subst e
   rw [<-hR,show bs.all (fun b=>decide b.v.ok)=true by
    rw [List.all_eq_true];intro b hb';obtain ⟨j,hj',rfl⟩:=List.getElem_of_mem hb'
    have:=hj j hj'
    rw [show bs.getD j default=bs[j] from by simp [hj']] at this
    exact decide_eq_true this,List.take_length,Bool.true_and]
   clear hR hj;refine hg ?_
   repeat' ((first | refine hfk ?_ ?_<;>intros | refine hik ?_ | with_reducible first | refine v6l (hf) ?_ | refine vgi (hf) ?_)<;>refine hgS ?_)
   exact RLe.ofEq rfl
theorem ve4 {bs:List Bd} {ms:List Tb} {V:Vq} {T:Vt} (hb:bs.length<=1048576) (h:entF bs ms=some (V,T)):BdOk bs V:=by
 obtain ⟨h1,_,_,h4,_⟩:=vxk h;exact ⟨by omega,fun b hb'=>xp2 (of_decide_eq_true (h1 b hb')),h4⟩
theorem zzt (x:Ex) (bs:List Bd) (ms:List Tb) (hx:x.Sm) (hb:bs.length<=1048576) (hm:ms.length<=1048576) (hbs:∀ b∈bs,b.Sm) (hms:∀ t∈ms,t.Sm) (hq:∀ b∈bs,b.v.sz<=4):CallsD Γ prog 12 [.agg (exC x),.one (.sl 5 (bs.map Bd.C)),.one (.sl 3 (ms.map Tb.C))] (rsR (valF x bs ms)):=by
 have c1:=zox (Γ:=Γ) x hx;rw [z0fr] at c1;have c2:=xz1 (Γ:=Γ) x hx;have c3:=z0dr (Γ:=Γ) bs ms hb hm hbs (fun b h=>Nat.le_trans (hq b h) (by decide)) hms;unfold valF
 cases h1:xub x with
 | false=>
  rw [h1] at c1;refine CallsD.run [] Go.Proofs.Tryz.func12 rfl rfl rfl ?_;simp only [Go.Proofs.Tryz.f12];refine hgR ?_
  repeat' ((first | refine hfk ?_ ?_<;>intros | refine hik ?_ | with_reducible first | refine v6l (c1) ?_ | refine vgi (c1) ?_)<;>refine hgS ?_)
  exact rsEq rfl
 | true=>cases h2:x.xi4 with
  | true=>
   rw [h1] at c1;rw [h2] at c2;refine CallsD.run [] Go.Proofs.Tryz.func12 rfl rfl rfl ?_;simp only [Go.Proofs.Tryz.f12];refine hgR ?_
   repeat' ((first | refine hfk ?_ ?_<;>intros | refine hik ?_ | with_reducible first | refine v6l (c1) ?_ | refine vgi (c1) ?_ | refine v6l (c2) ?_ | refine vgi (c2) ?_)<;>refine hgS ?_)
   exact rsEq rfl
  | false=>
   rw [h1] at c1;rw [h2] at c2
   cases h3:entF bs ms with
   | none=>
    rw [h3] at c3;have c3:CallsD Γ prog 20 [.one (.sl 5 (bs.map Bd.C)),.one (.sl 3 (ms.map Tb.C))] (.one (cB false)):=c3;refine CallsD.run [] Go.Proofs.Tryz.func12 rfl rfl rfl ?_;simp only [Go.Proofs.Tryz.f12];refine hgR ?_
    repeat' ((first | refine hfk ?_ ?_<;>intros | refine hik ?_ | with_reducible first | refine v6l (c1) ?_ | refine vgi (c1) ?_ | refine v6l (c2) ?_ | refine vgi (c2) ?_ | refine v6l (c3) ?_ | refine vgi (c3) ?_)<;>refine hgS ?_)
    exact rsEq rfl
   | some p=>
    obtain ⟨V,T⟩:=p;rw [h3] at c3;have c3:CallsD Γ prog 20 [.one (.sl 5 (bs.map Bd.C)),.one (.sl 3 (ms.map Tb.C))] (.one (cB true)):=c3
    have hsh:x.shaped=true:=by unfold xub at h1;rw [Bool.and_eq_true] at h1;exact h1.2
    have c4:=vhh (Γ:=Γ) (B:=4300) (by decide) bs ms V T (ve4 hb h3) (by omega) (x98 h3 (fun b h=>by have:=hq b h;omega)) (fun s=>(vxk h3).2.2.2.2 s) (wed h3 hms) x hx hsh h2 (Nat.le_trans (Nat.mul_le_mul_left _ (zvr h1)) (by decide));show CallsD _ _ _ _ (rsR (x.cal V T));generalize x.cal V T=r at c4;obtain ⟨⟨t,i,v⟩,e⟩:=r;refine CallsD.run [] Go.Proofs.Tryz.func12 rfl rfl rfl ?_;simp only [Go.Proofs.Tryz.f12];refine hgR ?_
    repeat' ((first | refine hfk ?_ ?_<;>intros | refine hik ?_ | with_reducible first | refine v6l (c1) ?_ | refine vgi (c1) ?_ | refine v6l (c2) ?_ | refine vgi (c2) ?_ | refine v6l (c3) ?_ | refine vgi (c3) ?_ | refine v6l (c4) ?_ | refine vgi (c4) ?_)<;>refine hgS ?_)
    refine lfE ?_;first | exact trivial | rfl
end Go.Hp.T
namespace Go.Hp.T
open Go Go.RowKit Go.Slot Go.Hp Go.Slot.T
open Go.Proofs.Tryz (prog)
set_option maxRecDepth 10000
set_option maxHeartbeats 4000000
variable {x:Ex} {bs:List Bd} {ms:List Tb}
structure Ar16 (x:Ex) (bs:List Bd) (ms:List Tb):Prop where
 x:x.Sm
 b:bs.length<=1048576
 m:ms.length<=1048576
 bs:∀ b∈bs,b.Sm
 ms:∀ t∈ms,t.Sm
theorem x4h (h:yra x bs ms=true):(∀ b∈bs,b.v.sz<=4)/\bs.length<=12:=by
 unfold yra at h;simp only [Bool.and_eq_true,decide_eq_true_eq] at h
 have hl:bs.length<=12:=by omega
 refine ⟨fun b hb=>?_,hl⟩
 have:=h.2.1
 rw [List.take_of_length_le (by omega),List.all_eq_true] at this
 have:=this b hb
 unfold w3k at this;simp only [Bool.and_eq_true,decide_eq_true_eq] at this;exact this.2
theorem Ar16.of (h:Ar16 x bs ms) (hf:yra x bs ms=true) {Γ:List (Nat×List Cell)}:CallsD Γ prog 11 [.agg (exC x),.one (.sl 5 (bs.map Bd.C)),.one (.sl 3 (ms.map Tb.C))] (rsR (valF x bs ms)):=
 vpt x bs ms h.x (by have:=h.b;omega) (by have:=h.m;omega) (fun b hb=>⟨(h.bs b hb).n,Nat.le_trans ((x4h hf).1 b hb) (by decide)⟩) h.ms
theorem z15r {y:Ex} (hf:yra y bs ms=true):qz (valF x bs ms).1.v<=67108864:=
 Nat.le_trans (z03r (B:=4300) (by decide) (fun b hb=>by have:=(x4h hf).1 b hb;omega)) (by decide)
theorem waq (x:Ex) (bs:List Bd) (ms:List Tb) (h:Ar16 x bs ms):CallsD Gs prog 3 [.agg (exC x),.one (.sl 5 (bs.map Bd.C)),.one (.sl 3 (ms.map Tb.C))] (.one (cB true)):=by
 have s1:=x4g;have f1:=y5f (Γ:=Gs) x bs ms h.x (by have:=h.b;omega) h.bs (by have:=h.m;omega) h.ms
 cases hf:yra x bs ms with
 | false=>
  rw [hf] at f1;refine CallsD.run [] Go.Proofs.Tryz.func3 rfl rfl rfl ?_;simp only [Go.Proofs.Tryz.f3];refine hgR ?_
  repeat' ((first | refine hfk ?_ ?_<;>intros | refine hik ?_ | with_reducible first | refine v6l (s1) ?_ | refine vgi (s1) ?_ | refine v6l (f1) ?_ | refine vgi (f1) ?_)<;>refine hgS ?_)
  exact RLe.ofEq rfl
 | true=>
  rw [hf] at f1;have o1:=h.of hf (Γ:=Gs);have o2:=zzt (Γ:=Gs) x bs ms h.x h.b h.m h.bs h.ms (fun b hb=>(x4h hf).1 b hb);have hq:=z15r (x:=x) hf;generalize valF x bs ms=r at o1 o2 hq;obtain ⟨r,e⟩:=r;have sm:=x2q (Γ:=Gs) r r hq hq;rw [decide_eq_true rfl] at sm;obtain ⟨t,i,v⟩:=r;refine CallsD.run [] Go.Proofs.Tryz.func3 rfl rfl rfl ?_;simp only [Go.Proofs.Tryz.f3];refine hgR ?_
  repeat' ((first | refine hfk ?_ ?_<;>intros | refine hik ?_ | with_reducible first | refine v6l (s1) ?_ | refine vgi (s1) ?_ | refine v6l (f1) ?_ | refine vgi (f1) ?_ | refine v6l (o1) ?_ | refine vgi (o1) ?_ | refine v6l (o2) ?_ | refine vgi (o2) ?_ | refine v6l (sm) ?_ | refine vgi (sm) ?_)<;>refine hgS ?_)
  all_goals refine lfE ?_;first | exact trivial | rfl
end Go.Hp.T
