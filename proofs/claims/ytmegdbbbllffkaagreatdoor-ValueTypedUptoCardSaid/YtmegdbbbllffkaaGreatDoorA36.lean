/- The proof, part A36: Gh, Gf, Da, Qpa, Qpb, Qpc, Qpd, Qpe, Qpf, Qpg, Qph, Qpi, Qpj, Qpk, Qpl, Qpm, Dc, Xc, Xg, Xe, Un, Xf. -/
import Derived.Test.YtmegdbbbllffkaaGreatDoorA35
import Derived.Test.YtmegdbbbllffkaaGreatDoorA26
import Derived.Test.YtmegdbbbllffkaaGreatDoorA34
import Derived.Test.YtmegdbbbllffkaaGreatDoorA31
import Derived.Test.YtmegdbbbllffkaaGreatDoorA32
namespace Go.Hp.T
open Go Go.RowKit Go.Slot Go.Hp Go.Slot.T
open Go.Proofs.Tryz (prog)
set_option maxRecDepth 10000
set_option maxHeartbeats 4000000
variable {Γ:List (Nat×List Cell)}
abbrev scB:SB:=.box [.mp 1,.mp 2] (some 79)
theorem vyh (V:Vq) (T:Vt) (s:ByteArray) (hs:s.size<=1073741824) (a c d:SB):vfe Γ prog 64 [a,mQ V,mB T,scB,c,d] [.one (.dat (cS s)),.one (.ptr 3 0)] [a,mQ V,mB T,scB,c,d] (.one (.dat (cB (!((ycr V s).isSome||(ycr T s).isSome||!isName s||isWord s))))):=by
 cases h1:ycr V s with
 | none=>cases h2:ycr T s with
  | none=>
   refine vfe.run [] Go.Proofs.Tryz.func64 rfl rfl ?_;simp only [Go.Proofs.Tryz.f64];refine hgR ?_;refine hg2 @h1 @h2 ?_
   repeat' ((first | refine hfk ?_ ?_<;>intros | refine hik ?_ | with_reducible first | refine v6l (vv6 s (by omega)) ?_ | refine vgi (vv6 s (by omega)) ?_ | refine v6l (v7c s) ?_ | refine vgi (v7c s) ?_)<;>refine hgS ?_)
   all_goals exact StH.zx4 rfl (by kernel_rfl) (by (((conv=>simp only [Bool.and_true,Bool.true_and,Bool.and_false,Bool.false_and,Bool.or_true,Bool.true_or,Bool.or_false,Bool.false_or,Bool.not_true,Bool.not_false,decide_true,decide_false,not_true_eq_false,not_false_eq_true,wgp,if_true,if_false,Bool.and_self,Bool.or_self,cond_true,cond_false,List.length_map,ne_eq,Int.reduceEq,Int.reduceLT,Int.reduceLE, *,h1,h2,Option.isSome])<;>try exact trivial))<;>first | rfl | trivial)
  | some t=>
   refine vfe.run [] Go.Proofs.Tryz.func64 rfl rfl ?_;simp only [Go.Proofs.Tryz.f64];refine hgR ?_;refine hg2 @h1 @h2 ?_
   repeat' ((first | refine hfk ?_ ?_<;>intros | refine hik ?_ | with_reducible first | refine v6l (vv6 s (by omega)) ?_ | refine vgi (vv6 s (by omega)) ?_ | refine v6l (v7c s) ?_ | refine vgi (v7c s) ?_)<;>refine hgS ?_)
   all_goals exact StH.zx4 rfl (by kernel_rfl) (by (((conv=>simp only [Bool.and_true,Bool.true_and,Bool.and_false,Bool.false_and,Bool.or_true,Bool.true_or,Bool.or_false,Bool.false_or,Bool.not_true,Bool.not_false,decide_true,decide_false,not_true_eq_false,not_false_eq_true,wgp,if_true,if_false,Bool.and_self,Bool.or_self,cond_true,cond_false,List.length_map,ne_eq,Int.reduceEq,Int.reduceLT,Int.reduceLE, *,h1,h2,Option.isSome])<;>try exact trivial))<;>first | rfl | trivial)
 | some q=>cases h2:ycr T s with
  | none=>
   refine vfe.run [] Go.Proofs.Tryz.func64 rfl rfl ?_;simp only [Go.Proofs.Tryz.f64];refine hgR ?_;refine hg2 @h1 @h2 ?_
   repeat' ((first | refine hfk ?_ ?_<;>intros | refine hik ?_ | with_reducible first | refine v6l (vv6 s (by omega)) ?_ | refine vgi (vv6 s (by omega)) ?_ | refine v6l (v7c s) ?_ | refine vgi (v7c s) ?_)<;>refine hgS ?_)
   all_goals exact StH.zx4 rfl (by kernel_rfl) (by (((conv=>simp only [Bool.and_true,Bool.true_and,Bool.and_false,Bool.false_and,Bool.or_true,Bool.true_or,Bool.or_false,Bool.false_or,Bool.not_true,Bool.not_false,decide_true,decide_false,not_true_eq_false,not_false_eq_true,wgp,if_true,if_false,Bool.and_self,Bool.or_self,cond_true,cond_false,List.length_map,ne_eq,Int.reduceEq,Int.reduceLT,Int.reduceLE, *,h1,h2,Option.isSome])<;>try exact trivial))<;>first | rfl | trivial)
  | some t=>
   refine vfe.run [] Go.Proofs.Tryz.func64 rfl rfl ?_;simp only [Go.Proofs.Tryz.f64];refine hgR ?_;refine hg2 @h1 @h2 ?_
   repeat' ((first | refine hfk ?_ ?_<;>intros | refine hik ?_ | with_reducible first | refine v6l (vv6 s (by omega)) ?_ | refine vgi (vv6 s (by omega)) ?_ | refine v6l (v7c s) ?_ | refine vgi (v7c s) ?_)<;>refine hgS ?_)
   all_goals exact StH.zx4 rfl (by kernel_rfl) (by (((conv=>simp only [Bool.and_true,Bool.true_and,Bool.and_false,Bool.false_and,Bool.or_true,Bool.true_or,Bool.or_false,Bool.false_or,Bool.not_true,Bool.not_false,decide_true,decide_false,not_true_eq_false,not_false_eq_true,wgp,if_true,if_false,Bool.and_self,Bool.or_self,cond_true,cond_false,List.length_map,ne_eq,Int.reduceEq,Int.reduceLT,Int.reduceLE, *,h1,h2,Option.isSome])<;>try exact trivial))<;>first | rfl | trivial)
theorem xhs (V:Vq) (T:Vt) (x:Ex) (hl:3<=x.args.length) (hl2:x.args.length<=1073741824)
 (h:∀ i,i<3->vfe Γ prog 34 [mQ V,mB T] [.agg [.mp 0,.mp 1],.agg ((exC (x.args.getD i default)).map .dat)] [mQ V,mB T] (rsS ((x.args.getD i default).cal V T))) :
 vfe Γ prog 70 [mQ V,mB T] [.agg [.mp 0,.mp 1],.agg ((exC x).map .dat)] [mQ V,mB T] (rsS (chV (x.args.map (Ex.cal V T)))):=by
 have h0:=h 0 (by decide);have h1:=h 1 (by decide);have h2:=h 2 (by decide);clear h
 have e:chV (x.args.map (Ex.cal V T))=bif decide (¬((x.args.getD 0 default).cal V T).2=0) then (Rs.zero,((x.args.getD 0 default).cal V T).2) else bif !((x.args.getD 0 default).cal V T).1.t then (Rs.zero,13) else bif ((x.args.getD 0 default).cal V T).1.i then (x.args.getD 1 default).cal V T else (x.args.getD 2 default).cal V T:=by
  unfold chV;rw [getD_map (show 0<x.args.length by omega),getD_map (show 1<x.args.length by omega),getD_map (show 2<x.args.length by omega)]
 rw [e];generalize (x.args.getD 0 default).cal V T=r0 at h0;generalize (x.args.getD 1 default).cal V T=r1 at h1;generalize (x.args.getD 2 default).cal V T=r2 at h2;obtain ⟨⟨t0,i0,v0⟩,e0⟩:=r0;simp only at h0 ⊢;refine vfe.run [] Go.Proofs.Tryz.func70 rfl rfl ?_;simp only [Go.Proofs.Tryz.f70];refine hgR ?_;refine hg ?_;refine zjb 2 (fun ξ=>vfe.pre h0 (wlf V T) rfl rfl) rfl rfl ?_;clear h0;refine hg ?_
 repeat' ((first | refine hfk ?_ ?_<;>intros | refine hik ?_)<;>refine hgS ?_)
 . exact StH.yzu rfl (by kernel_rfl) rfl rfl
 . exact StH.yzu rfl (by kernel_rfl) rfl rfl
 . refine zjb 2 (fun ξ=>vfe.pre h1 (wlf V T) rfl rfl) rfl rfl ?_;refine hg ?_
   repeat' ((first | refine hfk ?_ ?_<;>intros | refine hik ?_)<;>refine hgS ?_)
   exact StH.zx4 rfl (by kernel_rfl) rfl
 . refine zjb 2 (fun ξ=>vfe.pre h2 (wlf V T) rfl rfl) rfl rfl ?_;refine hg ?_
   repeat' ((first | refine hfk ?_ ?_<;>intros | refine hik ?_)<;>refine hgS ?_)
   exact StH.zx4 rfl (by kernel_rfl) rfl
theorem zz4 {B:Nat} (hB:4300<=B) (V:Vq) (T:Vt) (hV:Vsm B V) (hT:∀ s t,ycr T s=some t->t.Sm/\tbOk t=true):∀ x:Ex,x.Sm->x.shaped=true->x.xi4=false->B*x.nd<=67108864->vfe Γ prog 34 [mQ V,mB T] [.agg [.mp 0,.mp 1],.agg ((exC x).map .dat)] [mQ V,mB T] (rsS (x.cal V T)):=by
 refine Ex.ind (fun x ih hx hsh hcl hnd=>?_);have hl:=hx.len;have hu:=hx.u;have hcal:=Ex.vwk V T x
 have hnode:yxn x=true:=by rw [Ex.xg3,Bool.and_eq_true] at hsh;exact hsh.1
 have hargs:∀ y∈x.args,y.shaped=true:=by rw [Ex.xg3,Bool.and_eq_true,List.all_eq_true] at hsh;exact hsh.2
 have hcalls:x.op≠3/\∀ y∈x.args,y.xi4=false:=by
  rw [Ex.wd9,Bool.or_eq_false_iff,decide_eq_false_iff_not,List.any_eq_false] at hcl;exact ⟨hcl.1,fun y hy=>by simpa using hcl.2 y hy⟩
 have hnds:∀ y∈x.args,B*y.nd<=67108864:=fun y hy=>Nat.le_trans (Nat.mul_le_mul_left _ (by have:=Ex.xks hy;have:=Ex.yuy x;omega)) hnd
 by_cases h0:x.op=0
 . rw [decide_eq_true h0,cond_true] at hcal;have hn:=zta hnode h0
   have hin:inI x.n:=by unfold inI;omega
   have hz:=wtn hin;have ho:=oInt (Γ:=Γ) x.n hin;rw [hcal]
   rcases v4u x.unit with ⟨u,h,hq⟩ | ⟨e,he,h⟩
   . have hr:=v1q (Γ:=Γ) hu h
     have e1:v43 x.n x.unit=numV (mulO (some (x.n:Rat)) (some u.f)) (erO (some (x.n:Rat)) (some u.f)):=by unfold v43 facO;rw [h];rfl
     have hm:=oMul (Γ:=Γ) (some (x.n:Rat)) (some u.f) (by omega) (by show qs u.f<=_;omega);rw [e1];refine vfe.run [] Go.Proofs.Tryz.func34 rfl rfl ?_;simp only [Go.Proofs.Tryz.f34];refine hgR ?_
     repeat' ((first | refine hfk ?_ ?_<;>intros | refine hik ?_ | with_reducible first | refine v6l (hr) ?_ | refine vgi (hr) ?_ | refine v6l (ho) ?_ | refine vgi (ho) ?_ | refine v6l (hm) ?_ | refine vgi (hm) ?_ | refine v6l (w3m _ _) ?_ | refine vgi (w3m _ _) ?_)<;>refine hgS ?_)
     all_goals first
      | (exfalso;omega)
      | exact StH.zx4 rfl (by kernel_rfl) rfl
   . have hr:=vqa (Γ:=Γ) x.unit hu;rw [h] at hr
     have e1:v43 x.n x.unit=(⟨false,false,none⟩,14):=by unfold v43;rw [h];simp only [decide_eq_true he,cond_true];rfl
     rw [e1];refine vfe.run [] Go.Proofs.Tryz.func34 rfl rfl ?_;simp only [Go.Proofs.Tryz.f34];refine hgR ?_
     repeat' ((first | refine hfk ?_ ?_<;>intros | refine hik ?_ | with_reducible first | refine v6l (hr) ?_ | refine vgi (hr) ?_)<;>refine hgS ?_)
     all_goals first
      | (exfalso;omega)
      | exact StH.yzu rfl (by kernel_rfl) rfl rfl
 rw [decide_eq_false h0,cond_false] at hcal;by_cases h1:x.op=1
 . rw [decide_eq_true h1,cond_true] at hcal;rw [hcal];unfold ztc
   cases hlk:ycr V x.name with
   | none=>
    show vfe _ _ _ _ _ _ (rsS (⟨false,false,none⟩,11));refine vfe.run [] Go.Proofs.Tryz.func34 rfl rfl ?_;simp only [Go.Proofs.Tryz.f34];refine hgR ?_
    repeat' ((first | refine hfk ?_ ?_<;>intros | refine hik ?_)<;>refine hgS ?_)
    all_goals try (exfalso;omega)
    refine hg1 @hlk ?_
    repeat' ((first | refine hfk ?_ ?_<;>intros | refine hik ?_)<;>refine hgS ?_)
    all_goals first
     | (exfalso;omega)
     | exact StH.yzu rfl (by kernel_rfl) rfl rfl
   | some q=>
    have hq:=hV _ _ hlk;have ho:=oInt (Γ:=Γ) 0 (by decide);have hz:=wtn (n:=0) (by decide);have ha:=oAdd (Γ:=Γ) (some q) (some ((0:Int):Rat)) (by show qs q<=_;have:=Ex.yuy x;have:B<=B*x.nd:=Nat.le_mul_of_pos_right _ (by omega);omega) (by omega);show vfe _ _ _ _ _ _ (rsS (numV (addO (some q) (some ((0:Int):Rat))) 0));refine vfe.run [] Go.Proofs.Tryz.func34 rfl rfl ?_;simp only [Go.Proofs.Tryz.f34];refine hgR ?_
    repeat' ((first | refine hfk ?_ ?_<;>intros | refine hik ?_)<;>refine hgS ?_)
    all_goals try (exfalso;omega)
    refine hg1 @hlk ?_
    repeat' ((first | refine hfk ?_ ?_<;>intros | refine hik ?_ | with_reducible first | refine v6l (ho) ?_ | refine vgi (ho) ?_ | refine v6l (ha) ?_ | refine vgi (ha) ?_ | refine v6l (w3m _ _) ?_ | refine vgi (w3m _ _) ?_)<;>refine hgS ?_)
    all_goals first
     | (exfalso;omega)
     | exact StH.zx4 rfl (by kernel_rfl) rfl
 rw [decide_eq_false h1,cond_false] at hcal
 have hne:x.args.length≠0:=fun h=>by
  unfold yxn at hnode;rw [decide_eq_false h0,decide_eq_false h1,h] at hnode;simp at hnode
 obtain ⟨hl2,hl3⟩:=x6z hnode hcalls.1 hne;by_cases h5:x.op=5
 . rw [decide_eq_true h5,cond_true] at hcal;rw [hcal];have hl3':=hl3 h5
   have hch:=xhs (Γ:=Γ) V T x hl3' hl (fun i hi=>by
    have hm:=w4t (show i<x.args.length by omega)
    exact ih _ hm (hx.arg _ hm) (hargs _ hm) (hcalls.2 _ hm) (hnds _ hm))
   refine vfe.run [] Go.Proofs.Tryz.func34 rfl rfl ?_;simp only [Go.Proofs.Tryz.f34];refine hgR ?_
   repeat' ((first | refine hfk ?_ ?_<;>intros | refine hik ?_)<;>refine hgS ?_)
   all_goals try (exfalso;omega)
   rw [show cI 5=cI x.op by rw [h5]];refine xwg (vfe.pre hch (wlf V T) rfl rfl) ?_;refine hg ?_;exact StH.zx4 rfl (by kernel_rfl) rfl
 rw [decide_eq_false h5,cond_false] at hcal
 have hqz:∀ y∈x.args,qz (y.cal V T).1.v<=67108864:=fun y hy=>Nat.le_trans (v6n hB hV y (hargs y hy) (hcalls.2 y hy)) (hnds y hy)
 rw [hcal];clear hcal hu hnd hV;generalize hS:seqV (x.args.map (Ex.cal V T))=S;refine vfe.run [] Go.Proofs.Tryz.func34 rfl rfl ?_;simp only [Go.Proofs.Tryz.f34];refine hgR ?_
 repeat' ((first | refine hfk ?_ ?_<;>intros | refine hik ?_)<;>refine hgS ?_)
 all_goals try (exfalso;omega)
 refine y55 [2,3,4,68,69] (fun p:Nat×List Rs=>[(10,.one (.sl 5 6 0 p.2.length)),(70,.one (.dat (cI p.1)))])
  (fun p=>[mQ V,mB T,.box [.mp 0,.mp 1] (some 79),.box ((exC x).map .dat) (some 24),.box ((rsZ false false).map .dat) (some 35),.arr (.sl 6 (p.2.map Rs.C)) 0 (some 35)])
  (fun p=>p.1<=x.args.length/\p.2.length=p.1/\(∀ r∈p.2,qz r.v<=67108864)/\S=match seqV ((x.args.drop p.1).map (Ex.cal V T)) with
    | .inl e=>.inl e
    | .inr r=>.inr (p.2++r)) (fun p=>x.args.length-p.1) (0,[]) ⟨Nat.zero_le _,rfl,fun r hr=>(by cases hr),by simp only [List.drop_zero,List.nil_append];rw [hS];cases S<;>rfl⟩ ?_ ?_
 . refine hg ?_;refine StH.trans (StH.empty (d:=10) (es:=6) (c:=.sl 6 []) (T:=some 35) rfl rfl (fun r hr=>by cases hr) rfl) ?_;refine hg ?_;exact StH.same svl rfl
 clear hS;rintro ⟨i,rs⟩ ⟨q1,q2,q3,q4⟩;simp only at q1 q2 q3 q4;refine hg ?_;refine vnx (fun hlt _=>?_) (fun hlt _=>?_)
 . have hlt':i<x.args.length:=by omega
   have hy:=w4t hlt';rw [xqz hlt',List.map_cons] at q4;have hqy:=hqz _ hy;refine hg ?_;refine xwg (vfe.pre (ih _ hy (hx.arg _ hy) (hargs _ hy) (hcalls.2 _ hy) (hnds _ hy)) (wlf V T) rfl rfl) ?_;generalize hr:Ex.cal V T (x.args.getD i default)=r at q4 hqy ⊢;obtain ⟨t,e⟩:=r;rw [seqV] at q4;simp only at q4 hqy;refine hg ?_;refine vnx (fun he hd=>?_) (fun he hd=>?_)
   . refine hg ?_
     have q4':S=.inl e:=by rw [q4,show decide (¬e=0)=true from hd];rfl
     rw [q4'];exact StH.yzu rfl (by kernel_rfl) rfl rfl
   . refine hg ?_;rw [show decide (¬e=0)=false from hd,cond_false] at q4
     have q4':S=match seqV ((x.args.drop (i+1)).map (Ex.cal V T)) with
      | .inl e=>.inl e
      | .inr r=>.inr ((rs++[t])++r):=by
      rw [q4]
      cases seqV ((x.args.drop (i+1)).map (Ex.cal V T)) with
      | inl e=>rfl
      | inr r=>simp only [List.append_assoc,List.singleton_append]
     have hmap:rs.map Rs.C++[rsC t]=(rs++[t]).map Rs.C:=by simp;rfl
     rw [hmap]
     refine ⟨(i+1,rs++[t]),⟨by dsimp only;omega,by dsimp only;rw [List.length_append,List.length_singleton,q2],fun r hr'=>by
      rcases List.mem_append.1 hr' with h | h
      . exact q3 r h
      . rw [List.mem_singleton.1 h];exact hqy,q4'⟩,by dsimp only;omega,?_⟩
     refine StH.xuw [2,3,4,10,68,69,70] 5 8 6 rfl rfl rfl rfl rfl rfl rfl (by kernel_rfl) ?_;refine hg ?_;exact StH.same svl rfl
 . have q4':S=.inr rs:=by rw [q4,List.drop_eq_nil_of_le (by omega)];show (match seqV [] with | .inl e=>Sum.inl e | .inr r=>Sum.inr (rs++r))=_;rw [seqV];simp only [List.append_nil]
   rw [q4'];clear q4 q4' ih
   have hlen:rs.length=x.args.length:=by omega
   have hr0:=q3 _ (w4t (show 0<rs.length by omega))
   have hlen0:0<rs.length:=by omega
   by_cases h2:x.op=2
   . have hk:=xrw (Γ:=Γ) V T x.name (rs.getD 0 default) hT hr0;rw [show xem T x.op x.name (.inr rs)=woh T x.name (rs.getD 0 default) by show opV T x.op x.name rs=_;unfold opV;rw [decide_eq_true h2];rfl];refine hg ?_
     repeat' ((first | refine hfk ?_ ?_<;>intros | refine hik ?_)<;>refine hgS ?_)
     all_goals try (exfalso;omega)
     refine zjb 2 (fun ξ=>vfe.pre hk (wlf V T) rfl rfl) rfl rfl ?_;generalize woh T x.name (rs.getD 0 default)=r;obtain ⟨⟨t,i,v⟩,e⟩:=r;refine hg ?_
     repeat' ((first | refine hfk ?_ ?_<;>intros | refine hik ?_)<;>refine hgS ?_)
     exact StH.zx4 rfl (by kernel_rfl) rfl
   by_cases h4:x.op=4\/x.op=14\/x.op=15
   . have hk:=yvk (Γ:=Γ) x.op rs (by omega)
     rw [show xem T x.op x.name (.inr rs)=logV x.op rs by
      show opV T x.op x.name rs=_;unfold opV
      rw [decide_eq_false h2,show (decide (x.op=4)||decide (x.op=14)||decide (x.op=15))=true by rcases h4 with h | h | h<;>simp [h]];rfl]
     generalize logV x.op rs=r at hk;obtain ⟨⟨t,i,v⟩,e⟩:=r;refine hg ?_
     rcases h4 with h4 | h4 | h4
     all_goals
      rw [h4] at hk
      repeat' ((first | refine hfk ?_ ?_<;>intros | refine hik ?_ | with_reducible first | refine v6l (hk) ?_ | refine vgi (hk) ?_)<;>refine hgS ?_)
      all_goals first
       | (exfalso;omega)
       | exact StH.zx4 rfl (by kernel_rfl) rfl
   . have hl:=hl2 h2 (fun h=>h4 (.inl h))
     have hlen1:1<rs.length:=by omega
     have hr1:=q3 _ (w4t hlen1);have hk:=x5u (Γ:=Γ) x.op (rs.getD 0 default) (rs.getD 1 default) hr0 hr1
     rw [show xem T x.op x.name (.inr rs)=ariV x.op (rs.getD 0 default) (rs.getD 1 default) by
      show opV T x.op x.name rs=_;unfold opV
      rw [decide_eq_false h2,show (decide (x.op=4)||decide (x.op=14)||decide (x.op=15))=false by simp only [Bool.or_eq_false_iff,decide_eq_false_iff_not];exact ⟨⟨fun h=>h4 (.inl h),fun h=>h4 (.inr (.inl h))⟩,fun h=>h4 (.inr (.inr h))⟩];rfl]
     generalize ariV x.op (rs.getD 0 default) (rs.getD 1 default)=r at hk;obtain ⟨⟨t,i,v⟩,e⟩:=r;refine hg ?_
     repeat' ((first | refine hfk ?_ ?_<;>intros | refine hik ?_ | with_reducible first | refine v6l (hk) ?_ | refine vgi (hk) ?_)<;>refine hgS ?_)
     all_goals first
      | (exfalso;omega)
      | exact StH.zx4 rfl (by kernel_rfl) rfl
theorem xuz (f:FuncId) (l:List SV):z0y (.clo f l)=l.flatMap vp6:=rfl
attribute [go_sem] xuz
theorem v7h (V:Vq) (T:Vt) (a c d:SB) (b:Bool):StH Γ [] [SV.tup [.agg [.mp 1,.mp 2],.one (.dat (cB b))]] [a,mQ V,mB T,c,d] [SV.tup [.agg [.mp 0,.mp 1],.one (.dat (cB b))]] [mQ V,mB T]:=by
 have e1:swL 0 1 [a,mQ V,mB T,c,d]=[mQ V,swSB 0 1 a,mB T,swSB 0 1 c,swSB 0 1 d]:=by
  show [swSB 0 1 (mQ V),swSB 0 1 a,swSB 0 1 (mB T),swSB 0 1 c,swSB 0 1 d]=_;rw [v9y,w2a]
 have e2:swL 1 2 [mQ V,swSB 0 1 a,mB T,swSB 0 1 c,swSB 0 1 d]=[mQ V,mB T,swSB 1 2 (swSB 0 1 a),swSB 1 2 (swSB 0 1 c),swSB 1 2 (swSB 0 1 d)]:=by
  show [swSB 1 2 (mQ V),swSB 1 2 (mB T),swSB 1 2 (swSB 0 1 a),swSB 1 2 (swSB 0 1 c),swSB 1 2 (swSB 0 1 d)]=_;rw [v9y,w2a]
 have h1:=StH.xn1 (Γ:=Γ) (e:=[]) (σ:=[SV.tup [.agg [.mp 1,.mp 2],.one (.dat (cB b))]]) (η:=[a,mQ V,mB T,c,d]) (i:=0) (j:=1) (by decide) (by decide) (by simp) (by simp);have h2:=StH.xn1 (Γ:=Γ) (e:=[]) (σ:=[SV.tup [.agg [.mp 0,.mp 2],.one (.dat (cB b))]]) (η:=[mQ V,swSB 0 1 a,mB T,swSB 0 1 c,swSB 0 1 d]) (i:=1) (j:=2) (by decide) (by decide) (by simp) (by simp)
 have h3:=StH.cutB (Γ:=Γ) (e:=[]) (σ:=[SV.tup [.agg [.mp 0,.mp 1],.one (.dat (cB b))]]) (η:=[mQ V,mB T,swSB 1 2 (swSB 0 1 a),swSB 1 2 (swSB 0 1 c),swSB 1 2 (swSB 0 1 d)]) 2 (by decide) (by
  unfold x2g;show (_&&([mQ V,mB T].all fun x=>(z0y x).all fun b=>Nat.blt b 2))=true
  simp only [List.all_cons,xia,y7o,List.all_nil];rfl)
 rw [e1] at h1;rw [e2] at h2;exact h1.trans (h2.trans h3)
def entB:Option (Vq×Vt)->List SB
 | none=>[]
 | some p=>[mQ p.1,mB p.2]
def entR:Option (Vq×Vt)->SV
 | none=>.tup [.agg [.any,.any],.one (.dat (cB false))]
 | some _=>.tup [.agg [.mp 0,.mp 1],.one (.dat (cB true))]
theorem z2w (bs:List Bd) (ms:List Tb) (hb:bs.length<=1073741824) (hm:ms.length<=1073741824) (hbs:∀ b∈bs,b.name.size<=1073741824/\b.v.sz<=268435456) (hms:∀ t∈ms,t.Sm) :
 vfe Γ prog 33 [] [.one (.dat (.sl 5 (bs.map Bd.C))),.one (.dat (.sl 3 (ms.map Tb.C)))] (entB (entF bs ms)) (entR (entF bs ms)):=by
 refine vfe.run [(2,[.clo])] Go.Proofs.Tryz.func33 rfl rfl ?_;simp only [Go.Proofs.Tryz.f33];refine hgR ?_;refine y55 [0,1,4,6,7,16,17] (fun p:Nat×Vq=>[(18,.one (.dat (cI p.1)))]) (fun p=>[.box [.dat (.raw (.map none)),.dat (.raw (.map none))] (some 79),mQ p.2,mB [],scB,.clo 64 [.one (.ptr 3 0)]])
  (fun p=>p.1<=bs.length/\rB [] bs=rB p.2 (bs.drop p.1)) (fun p=>bs.length-p.1) (0,[]) ⟨Nat.zero_le _,rfl⟩ ?_ ?_
 . refine hg ?_;exact StH.same svl rfl
 rintro ⟨i,V⟩ ⟨h1,h2⟩;simp only at h1 h2;refine hg ?_;refine vnx (fun hlt _=>?_) (fun hlt _=>?_)
 . have hlt':i<bs.length:=by omega
   have hy:=hbs _ (w4t hlt');rw [xqz hlt'] at h2
   have hbad:rB [] bs=none->entF bs ms=none:=fun h=>by unfold entF entG;rw [show gE Bd.name (fun b=>decide b.v.ok) (fun b=>b.v.val) (fun _=>false) [] bs=none from h]
   refine hg ?_;refine xwg (vyh V [] (bs.getD i default).name hy.1 _ _ _) ?_
   have h2':rB [] bs=bif ((ycr V (bs.getD i default).name).isSome||(ycr ([]:Vt) (bs.getD i default).name).isSome||!isName (bs.getD i default).name||isWord (bs.getD i default).name)||!decide (bs.getD i default).v.ok then none else rB (updF V (bs.getD i default).name (bs.getD i default).v.val) (bs.drop (i+1)):=h2
   clear h2;generalize ((ycr V (bs.getD i default).name).isSome||(ycr ([]:Vt) (bs.getD i default).name).isSome||!isName (bs.getD i default).name||isWord (bs.getD i default).name)=X at *;generalize bs.getD i default=b at *;obtain ⟨nm,v⟩:=b;simp only at hy h2';by_cases hok:v.ok
   . obtain ⟨q,rfl⟩:=xp2 hok;have hr:CallsD Γ prog 26 [.agg (qC (some q))] (.one (cB true)):=wi6 (some q) hy.2;rw [decide_eq_true hok,show (qF (some q)).val=q from Fc.w2h q] at h2';clear hok
     cases X with
     | true=>
      rw [hbad h2'];refine hg ?_
      repeat' ((first | refine hfk ?_ ?_<;>intros | refine hik ?_)<;>refine hgS ?_)
      exact wvc
     | false=>
      refine hg ?_
      repeat' ((first | refine hfk ?_ ?_<;>intros | refine hik ?_ | with_reducible first | refine v6l (hr) ?_ | refine vgi (hr) ?_)<;>refine hgS ?_)
      refine ⟨(i+1,updF V nm q),⟨by dsimp only;omega,by first | exact h2' | rfl⟩,by dsimp only;omega,?_⟩;refine StH.cutN [0,1,4,6,7,16,17,18] 5 rfl ?_ ?_
      . refine hg ?_;exact trivial
      exact StH.same svl rfl
   . have hr:CallsD Γ prog 26 [.agg [.raw (.int .i64 v.s),.ints .i64 v.L,.raw (.int .i64 v.t),.ints .i64 v.M]] (.one (cB false)):=by
      have:=xau (Γ:=Γ) v hy.2
      rw [decide_eq_false hok] at this;exact this
     rw [hbad (by rw [h2',decide_eq_false hok];cases X<;>rfl)];clear hbad h2' hok
     cases X with
     | true=>
      refine hg ?_
      repeat' ((first | refine hfk ?_ ?_<;>intros | refine hik ?_)<;>refine hgS ?_)
      exact wvc
     | false=>
      refine hg ?_
      repeat' ((first | refine hfk ?_ ?_<;>intros | refine hik ?_ | with_reducible first | refine v6l (hr) ?_ | refine vgi (hr) ?_)<;>refine hgS ?_)
      exact wvc
 . have hV:rB [] bs=some V:=by rw [h2,List.drop_eq_nil_of_le (by omega)];rfl
   clear h2 h1 hlt hbs
   have hbad:rTb V [] ms=none->entF bs ms=none:=fun h=>by
    unfold entF entG;rw [show gE Bd.name (fun b=>decide b.v.ok) (fun b=>b.v.val) (fun _=>false) [] bs=some V from hV];show Option.map _ (rTb V [] ms)=none;rw [h];rfl
   have hgood:∀ T,rTb V [] ms=some T->entF bs ms=some (V,T):=fun T h=>by
    unfold entF entG;rw [show gE Bd.name (fun b=>decide b.v.ok) (fun b=>b.v.val) (fun _=>false) [] bs=some V from hV];show Option.map _ (rTb V [] ms)=_;rw [h];rfl
   clear hV;refine hg ?_;refine y55 [4,6,7,41,42] (fun p:Nat×Vt=>[(43,.one (.dat (cI p.1)))]) (fun p=>[.box [.dat (.raw (.map none)),.dat (.raw (.map none))] (some 79),mQ V,mB p.2,scB,.clo 64 [.one (.ptr 3 0)]])
    (fun p=>p.1<=ms.length/\rTb V [] ms=rTb V p.2 (ms.drop p.1)) (fun p=>ms.length-p.1) (0,[]) ⟨Nat.zero_le _,rfl⟩ ?_ ?_
   . refine hg ?_;exact StH.same svl rfl
   rintro ⟨j,T⟩ ⟨h1,h2⟩;simp only at h1 h2;refine hg ?_;refine vnx (fun hlt _=>?_) (fun hlt _=>?_)
   . have hlt':j<ms.length:=by omega
     have hy:=hms _ (w4t hlt');rw [xqz hlt'] at h2;have hr:=vv4 (Γ:=Γ) _ hy.n hy.u hy.r;refine hg ?_;refine xwg (vyh V T (ms.getD j default).name hy.n _ _ _) ?_
     have h3:rTb V [] ms=bif ((ycr T (ms.getD j default).name).isSome||(ycr V (ms.getD j default).name).isSome||!isName (ms.getD j default).name||isWord (ms.getD j default).name)||!zi4 (fun s=>(zte s).2) (ms.getD j default) then none else rTb V (updF T (ms.getD j default).name (ms.getD j default)) (ms.drop (j+1)):=h2
     have h2':rTb V [] ms=bif ((ycr V (ms.getD j default).name).isSome||(ycr T (ms.getD j default).name).isSome||!isName (ms.getD j default).name||isWord (ms.getD j default).name)||!zi4 (fun s=>(zte s).2) (ms.getD j default) then none else rTb V (updF T (ms.getD j default).name (ms.getD j default)) (ms.drop (j+1)):=by
      rw [h3,Bool.or_comm (ycr T (ms.getD j default).name).isSome]
     clear h3;clear h2 hy;generalize ((ycr V (ms.getD j default).name).isSome||(ycr T (ms.getD j default).name).isSome||!isName (ms.getD j default).name||isWord (ms.getD j default).name)=X at *;generalize zi4 (fun s=>(zte s).2) (ms.getD j default)=Y at *
     cases X with
     | true=>
      rw [hbad h2'];refine hg ?_
      repeat' ((first | refine hfk ?_ ?_<;>intros | refine hik ?_)<;>refine hgS ?_)
      exact wvc
     | false=>cases Y with
      | false=>
       rw [hbad h2'];refine hg ?_
       repeat' ((first | refine hfk ?_ ?_<;>intros | refine hik ?_ | with_reducible first | refine v6l (hr) ?_ | refine vgi (hr) ?_)<;>refine hgS ?_)
       exact wvc
      | true=>
       refine hg ?_
       repeat' ((first | refine hfk ?_ ?_<;>intros | refine hik ?_ | with_reducible first | refine v6l (hr) ?_ | refine vgi (hr) ?_)<;>refine hgS ?_)
       refine ⟨(j+1,updF T (ms.getD j default).name (ms.getD j default)),⟨by dsimp only;omega,by first | exact h2' | rfl⟩,by dsimp only;omega,?_⟩;refine StH.cutN [4,6,7,41,42,43] 5 rfl ?_ ?_
       . refine hg ?_;exact trivial
       exact StH.same svl rfl
   . have hT:rTb V [] ms=some T:=by rw [h2,List.drop_eq_nil_of_le (by omega)];rfl
     rw [hgood T hT];clear h2 h1 hlt hbad hgood hT;refine hg ?_;exact v7h V T _ _ _ true
theorem vsb (x:Ex) (bs:List Bd) (ms:List Tb) (hx:x.Sm) (hb:bs.length<=1073741824) (hm:ms.length<=1073741824) (hbs:∀ b∈bs,b.name.size<=1073741824/\b.v.sz<=330000) (hms:∀ t∈ms,t.Sm) :
 CallsD Γ prog 11 [.agg (exC x),.one (.sl 5 (bs.map Bd.C)),.one (.sl 3 (ms.map Tb.C))] (rsR (valF x bs ms)):=by
 have hr:=z2w (Γ:=Γ) bs ms hb hm (fun b h=>⟨(hbs b h).1,Nat.le_trans (hbs b h).2 (by decide)⟩) hms;have c1:=xz2 (Γ:=Γ) x hx;have c2:=xqt (Γ:=Γ) x hx
 cases hr1:xub x with
 | false=>
  rw [hr1] at c1;rw [show valF x bs ms=(⟨false,false,none⟩,2) by unfold valF;rw [hr1];rfl];refine CallsD.run [] Go.Proofs.Tryz.func11 rfl rfl rfl ?_;simp only [Go.Proofs.Tryz.f11];refine hgR ?_
  repeat' ((first | refine hfk ?_ ?_<;>intros | refine hik ?_ | with_reducible first | refine v6l (c1) ?_ | refine vgi (c1) ?_)<;>refine hgS ?_)
  exact rsEq rfl
 | true=>cases hc1:x.xi4 with
  | true=>
   rw [hr1] at c1;rw [hc1] at c2;rw [show valF x bs ms=(⟨false,false,none⟩,2) by unfold valF;rw [hr1,hc1];rfl];refine CallsD.run [] Go.Proofs.Tryz.func11 rfl rfl rfl ?_;simp only [Go.Proofs.Tryz.f11];refine hgR ?_
   repeat' ((first | refine hfk ?_ ?_<;>intros | refine hik ?_ | with_reducible first | refine v6l (c1) ?_ | refine vgi (c1) ?_ | refine v6l (c2) ?_ | refine vgi (c2) ?_)<;>refine hgS ?_)
   exact rsEq rfl
  | false=>
   rw [hr1] at c1;rw [hc1] at c2
   have hsh:x.shaped=true:=by unfold xub at hr1;rw [Bool.and_eq_true] at hr1;exact hr1.2
   cases hrd:entF bs ms with
   | none=>
    rw [hrd] at hr;rw [show valF x bs ms=(⟨false,false,none⟩,1) by unfold valF;rw [hr1,hc1,hrd];rfl]
    have hr2:∀ a b:SB,vfe Γ prog 33 [a,b] [.one (.dat (.sl 5 (bs.map Bd.C))),.one (.dat (.sl 3 (ms.map Tb.C)))] [a,b] (.tup [.agg [.any,.any],.one (.dat (cB false))]):=fun a b=>vfe.at [] (η:=[a,b]) hr (by decide) rfl rfl rfl
    refine CallsD.run [] Go.Proofs.Tryz.func11 rfl rfl rfl ?_;simp only [Go.Proofs.Tryz.f11];refine hgR ?_
    repeat' ((first | refine hfk ?_ ?_<;>intros | refine hik ?_ | with_reducible first | refine v6l (c1) ?_ | refine vgi (c1) ?_ | refine v6l (c2) ?_ | refine vgi (c2) ?_)<;>refine hgS ?_)
    refine xc5 (hr2 _ _) rfl ?_;refine hg ?_
    repeat' ((first | refine hfk ?_ ?_<;>intros | refine hik ?_)<;>refine hgS ?_)
    exact rsEq rfl
   | some p=>
    obtain ⟨V,T⟩:=p;rw [hrd] at hr;rw [show valF x bs ms=x.cal V T by unfold valF;rw [hr1,hc1,hrd];rfl]
    have hr2:∀ a b:SB,vfe Γ prog 33 [a,b] [.one (.dat (.sl 5 (bs.map Bd.C))),.one (.dat (.sl 3 (ms.map Tb.C)))] [a,b,mQ V,mB T] (.tup [.agg [.mp 2,.mp 3],.one (.dat (cB true))]):=fun a b=>by
     have h:=vfe.at [] (η:=[a,b]) hr (by decide) rfl rfl rfl
     have e:putR [] [a,b] (entB (some (V,T)))=[a,b,mQ V,mB T]:=by
      show [a,b,rnSB _ (mQ V),rnSB _ (mB T)]=_;rw [y5z,xqg]
     rw [e] at h;exact h
    have hnd:=wl8 hr1;have hB:(335000:Nat)*x.nd<=67108864:=Nat.le_trans (Nat.mul_le_mul_left _ hnd) (by decide);have hc:=zz4 (Γ:=Γ) (B:=335000) (by decide) V T (y2d hrd (fun b h=>by have:=(hbs b h).2;omega)) (xhm hrd hms) x hx hsh hc1 hB;refine CallsD.run [] Go.Proofs.Tryz.func11 rfl rfl rfl ?_;simp only [Go.Proofs.Tryz.f11];refine hgR ?_
    repeat' ((first | refine hfk ?_ ?_<;>intros | refine hik ?_ | with_reducible first | refine v6l (c1) ?_ | refine vgi (c1) ?_ | refine v6l (c2) ?_ | refine vgi (c2) ?_)<;>refine hgS ?_)
    refine xc5 (hr2 _ _) rfl ?_;refine hg ?_;refine xwg (vfe.ro [2,3] hc (wlf V T) (by decide) rfl rfl) ?_;refine hg ?_;exact RLe.ofEq rfl
end Go.Hp.T
namespace Go.Hp.T
open Go Go.RowKit Go.Slot Go.Hp Go.Slot.T
open Go.Proofs.Tryz (prog)
set_option maxRecDepth 100000
set_option maxHeartbeats 4000000
variable {Γ:List (Nat×List Cell)}
def bs16:List Bd:=[⟨⟨#[97]⟩,qF (some ((6:Int):Rat))⟩,⟨⟨#[98]⟩,qF (some ((4000:Int):Rat))⟩,⟨⟨#[122]⟩,qF (some ((0:Int):Rat))⟩]
def ms16:List Tb:=[⟨⟨#[103,114,105,100]⟩,⟨#[103]⟩,[⟨0,5⟩,⟨10,7⟩]⟩]
theorem zkh:CallsD Gs prog 60 [] (.one (.sl 5 (bs16.map Bd.C))):=by
 refine CallsD.run [] Go.Proofs.Tryz.func60 rfl rfl rfl ?_;simp only [Go.Proofs.Tryz.f60];refine hgR ?_
 repeat' ((first | refine hfk ?_ ?_<;>intros | refine hik ?_ | with_reducible first | refine v6l (pInt 6 (by decide)) ?_ | refine vgi (pInt 6 (by decide)) ?_ | refine v6l (pInt 4000 (by decide)) ?_ | refine vgi (pInt 4000 (by decide)) ?_ | refine v6l (pInt 0 (by decide)) ?_ | refine vgi (pInt 0 (by decide)) ?_)<;>refine hgS ?_)
 all_goals exact RLe.ofEq rfl
theorem z2l:CallsD Gs prog 61 [] (.one (.sl 3 (ms16.map Tb.C))):=by
 refine CallsD.run [] Go.Proofs.Tryz.func61 rfl rfl rfl ?_;simp only [Go.Proofs.Tryz.f61];refine hgR ?_
 repeat' ((first | refine hfk ?_ ?_<;>intros | refine hik ?_)<;>refine hgS ?_)
 all_goals exact RLe.ofEq rfl
theorem xnq:∀ b∈bs16,b.name.size<=1073741824/\b.v.sz<=4:=by
 intro b hb
 have hb':b=⟨⟨#[97]⟩,qF (some ((6:Int):Rat))⟩\/b=⟨⟨#[98]⟩,qF (some ((4000:Int):Rat))⟩\/b=⟨⟨#[122]⟩,qF (some ((0:Int):Rat))⟩:=by simpa [bs16] using hb
 rcases hb' with rfl | rfl | rfl
 . exact ⟨by decide,wtn (by decide)⟩
 . exact ⟨by decide,wtn (by decide)⟩
 . exact ⟨by decide,wtn (by decide)⟩
theorem cV16 (x:Ex) (hx:x.Sm):CallsD Gs prog 11 [.agg (exC x),.one (.sl 5 (bs16.map Bd.C)),.one (.sl 3 (ms16.map Tb.C))] (rsR (valF x bs16 ms16)):=
 vsb x bs16 ms16 hx (by decide) (by decide) (fun b hb=>⟨(xnq b hb).1,by have:=(xnq b hb).2;omega⟩) (fun t ht=>by
  cases List.mem_singleton.1 ht
  exact ⟨by decide,by decide,by decide⟩)
theorem qz16 (x:Ex):qz (valF x bs16 ms16).1.v<=67108864:=Nat.le_trans (vkw (B:=4300) (Nat.le_refl _) (fun b hb=>by have:=(xnq b hb).2;omega)) (by decide)
theorem CallsD.x53 {P:Program} {f:FuncId} {args args':List AV} {res:AV} (h:CallsD Γ P f args' res) (hle:LeS args args'):CallsD Γ P f args res:=⟨h.1,fun M w vs hM hg hr=>h.2 M w vs hM hg (RdBL.le hle hr)⟩
theorem vag (a:Rs) (ha:qz a.v<=67108864):CallsD Γ prog 13 [.agg (rsC a),.agg (rsZ false false)] (.one (cB (decide (a=Rs.zero)))):=
 CallsD.x53 (x6g a Rs.zero ha (by decide)) (.cons (.refl _) (.cons rsLe .nil))
theorem xjb (s:ByteArray) (x:Ex) (hp:CallsD Gs prog 59 [.one (cS s)] (parR x)) (hx:x.Sm):CallsD Gs prog 28 [.one (cS s)] (rsR (valF x bs16 ms16)):=by
 have h1:=cV16 x hx;generalize valF x bs16 ms16=r at h1 ⊢;refine CallsD.run [] Go.Proofs.Tryz.func28 rfl rfl rfl ?_;simp only [Go.Proofs.Tryz.f28];refine hgR ?_
 repeat' ((first | refine hfk ?_ ?_<;>intros | refine hik ?_ | with_reducible first | refine v6l (hp) ?_ | refine vgi (hp) ?_ | refine v6l (zkh) ?_ | refine vgi (zkh) ?_ | refine v6l (z2l) ?_ | refine vgi (z2l) ?_ | refine v6l (h1) ?_ | refine vgi (h1) ?_)<;>refine hgS ?_)
 all_goals refine lfE ?_;first | exact trivial | rfl
theorem yk8 (s:ByteArray) (x:Ex) (p q:Int) (hq:0<q) (hi:inI p) (hj:inI q) (hp:CallsD Gs prog 59 [.one (cS s)] (parR x)) (hx:x.Sm) (e:valF x bs16 ms16=(⟨false,false,some (Rat.divInt p q)⟩,0)):CallsD Gs prog 29 [.one (cS s),.one (cI p),.one (cI q)] (.one (cB true)):=by
 have h1:=xjb s x hp hx;have h3:=qz16 x;rw [e] at h1 h3;obtain ⟨n,rfl⟩:∃ n:Nat,q=n:=⟨q.toNat,by omega⟩;have h2:=s5Of (Γ:=Gs) p n hi hj (by omega);have h4:=x6g (Γ:=Gs) ⟨false,false,some (Rat.divInt p n)⟩ ⟨false,false,some (Rat.divInt p n)⟩ h3 h3;rw [decide_eq_true rfl] at h4;have h2:CallsD Gs prog 45 [.one (cI p),.one (cI n)] (.tup [.agg (qC (some (Rat.divInt p n))),.one (cI 0)]):=h2;refine CallsD.run [] Go.Proofs.Tryz.func29 rfl rfl rfl ?_;simp only [Go.Proofs.Tryz.f29];refine hgR ?_
 repeat' ((first | refine hfk ?_ ?_<;>intros | refine hik ?_ | with_reducible first | refine v6l (h1) ?_ | refine vgi (h1) ?_ | refine v6l (h2) ?_ | refine vgi (h2) ?_ | refine v6l (h4) ?_ | refine vgi (h4) ?_)<;>refine hgS ?_)
 all_goals refine lfE ?_;first | exact trivial | rfl
theorem xcb (s:ByteArray) (x:Ex) (n:Int) (hp:CallsD Gs prog 59 [.one (cS s)] (parR x)) (hx:x.Sm) (e:valF x bs16 ms16=(Rs.zero,n)):CallsD Gs prog 30 [.one (cS s),.one (cI n)] (.one (cB true)):=by
 have h1:=xjb s x hp hx;rw [e] at h1;have h4:=vag (Γ:=Gs) Rs.zero (by decide);rw [decide_eq_true rfl] at h4;refine CallsD.run [] Go.Proofs.Tryz.func30 rfl rfl rfl ?_;simp only [Go.Proofs.Tryz.f30];refine hgR ?_
 repeat' ((first | refine hfk ?_ ?_<;>intros | refine hik ?_ | with_reducible first | refine v6l (h1) ?_ | refine vgi (h1) ?_ | refine v6l (h4) ?_ | refine vgi (h4) ?_)<;>refine hgS ?_)
 all_goals first
  | (exfalso;omega)
  | refine lfE ?_;first | exact trivial | rfl
end Go.Hp.T
namespace Go.Hp.T
open Go Go.RowKit Go.Slot Go.Hp
open Go.Proofs.Tryz (prog)
set_option maxRecDepth 100000
theorem par0:CallsD Gs prog 59 [wa2 sx0] (parR ex0):=
 CallsD.uzE 5 (cs:=[cI 12,cI 0,zS,zS,(.sl 5 [[cI 1,cI 0,zS,cS ⟨⟨[98]⟩⟩,.zc],[cI 0,cI 5,cS ⟨⟨[107,103]⟩⟩,zS,.zc]])]) (CallsD.fv (N:=1000) (n:=60) OkD.none (by kernel_rfl)) (by kernel_rfl)
theorem par1:CallsD Gs prog 59 [wa2 sx1] (parR ex1):=
 CallsD.uzE 5 (cs:=[cI 6,cI 0,zS,zS,(.sl 5 [[cI 1,cI 0,zS,cS ⟨⟨[97]⟩⟩,.zc],[cI 0,cI 2,zS,zS,.zc]])]) (CallsD.fv (N:=1000) (n:=60) OkD.none (by kernel_rfl)) (by kernel_rfl)
theorem par2:CallsD Gs prog 59 [wa2 sx2] (parR ex2):=
 CallsD.uzE 5 (cs:=[cI 9,cI 0,zS,zS,(.sl 5 [[cI 7,cI 0,zS,zS,(.sl 5 [[cI 1,cI 0,zS,cS ⟨⟨[97]⟩⟩,.zc],[cI 1,cI 0,zS,cS ⟨⟨[122]⟩⟩,.zc]])],[cI 0,cI 4,zS,zS,.zc]])]) (CallsD.fv (N:=1000) (n:=60) OkD.none (by kernel_rfl)) (by kernel_rfl)
theorem par3:CallsD Gs prog 59 [wa2 sx3] (parR ex3):=
 CallsD.uzE 5 (cs:=[cI 2,cI 0,zS,cS ⟨⟨[103,114,105,100]⟩⟩,(.sl 5 [[cI 1,cI 0,zS,cS ⟨⟨[97]⟩⟩,.zc]])]) (CallsD.fv (N:=1000) (n:=60) OkD.none (by kernel_rfl)) (by kernel_rfl)
theorem par4:CallsD Gs prog 59 [wa2 sx4] (parR ex4):=
 CallsD.uzE 5 (cs:=[cI 2,cI 0,zS,cS ⟨⟨[103,114,105,100]⟩⟩,(.sl 5 [[cI 7,cI 0,zS,zS,(.sl 5 [[cI 0,cI 0,zS,zS,.zc],[cI 1,cI 0,zS,cS ⟨⟨[97]⟩⟩,.zc]])]])]) (CallsD.fv (N:=1000) (n:=60) OkD.none (by kernel_rfl)) (by kernel_rfl)
theorem par5:CallsD Gs prog 59 [wa2 sx5] (parR ex5):=
 CallsD.uzE 5 (cs:=[cI 9,cI 0,zS,zS,(.sl 5 [[cI 1,cI 0,zS,cS ⟨⟨[97]⟩⟩,.zc],[cI 1,cI 0,zS,cS ⟨⟨[122]⟩⟩,.zc]])]) (CallsD.fv (N:=1000) (n:=60) OkD.none (by kernel_rfl)) (by kernel_rfl)
theorem par6:CallsD Gs prog 59 [wa2 sx6] (parR ex6):=
 CallsD.uzE 5 (cs:=[cI 5,cI 0,zS,zS,(.sl 5 [[cI 13,cI 0,zS,zS,(.sl 5 [[cI 1,cI 0,zS,cS ⟨⟨[122]⟩⟩,.zc],[cI 0,cI 0,zS,zS,.zc]])],[cI 1,cI 0,zS,cS ⟨⟨[97]⟩⟩,.zc],[cI 9,cI 0,zS,zS,(.sl 5 [[cI 1,cI 0,zS,cS ⟨⟨[97]⟩⟩,.zc],[cI 1,cI 0,zS,cS ⟨⟨[122]⟩⟩,.zc]])]])]) (CallsD.fv (N:=1000) (n:=60) OkD.none (by kernel_rfl)) (by kernel_rfl)
theorem par7:CallsD Gs prog 59 [wa2 sx7] (parR ex7):=
 CallsD.uzE 5 (cs:=[cI 6,cI 0,zS,zS,(.sl 5 [[cI 9,cI 0,zS,zS,(.sl 5 [[cI 0,cI 1,zS,zS,.zc],[cI 1,cI 0,zS,cS ⟨⟨[122]⟩⟩,.zc]])],[cI 14,cI 0,zS,zS,(.sl 5 [[cI 1,cI 0,zS,cS ⟨⟨[97]⟩⟩,.zc],[cI 1,cI 0,zS,cS ⟨⟨[97]⟩⟩,.zc]])]])]) (CallsD.fv (N:=1000) (n:=60) OkD.none (by kernel_rfl)) (by kernel_rfl)
theorem par8:CallsD Gs prog 59 [wa2 sx8] (parR ex8):=
 CallsD.uzE 5 (cs:=[cI 6,cI 0,zS,zS,(.sl 5 [[cI 14,cI 0,zS,zS,(.sl 5 [[cI 1,cI 0,zS,cS ⟨⟨[97]⟩⟩,.zc],[cI 1,cI 0,zS,cS ⟨⟨[97]⟩⟩,.zc]])],[cI 9,cI 0,zS,zS,(.sl 5 [[cI 0,cI 1,zS,zS,.zc],[cI 1,cI 0,zS,cS ⟨⟨[122]⟩⟩,.zc]])]])]) (CallsD.fv (N:=1000) (n:=60) OkD.none (by kernel_rfl)) (by kernel_rfl)
theorem par9:CallsD Gs prog 59 [wa2 sx9] (parR ex9):=
 CallsD.uzE 5 (cs:=[cI 1,cI 0,zS,cS ⟨⟨[99]⟩⟩,.zc]) (CallsD.fv (N:=1000) (n:=60) OkD.none (by kernel_rfl)) (by kernel_rfl)
theorem yjy:CallsD Gs prog 59 [wa2 sx10] (parR ex10):=
 CallsD.uzE 5 (cs:=[cI 0,cI 5,cS ⟨⟨[107,120]⟩⟩,zS,.zc]) (CallsD.fv (N:=1000) (n:=60) OkD.none (by kernel_rfl)) (by kernel_rfl)
theorem xp8:CallsD Gs prog 59 [wa2 sx11] (parR ex11):=
 CallsD.uzE 5 (cs:=[cI 5,cI 0,zS,zS,(.sl 5 [[cI 1,cI 0,zS,cS ⟨⟨[97]⟩⟩,.zc],[cI 1,cI 0,zS,cS ⟨⟨[99]⟩⟩,.zc],[cI 1,cI 0,zS,cS ⟨⟨[99]⟩⟩,.zc]])]) (CallsD.fv (N:=1000) (n:=60) OkD.none (by kernel_rfl)) (by kernel_rfl)
theorem z3w:CallsD Gs prog 59 [wa2 sx12] (parR ex12):=
 CallsD.uzE 5 (cs:=[cI 3,cI 0,zS,cS ⟨⟨[102]⟩⟩,(.sl 5 [[cI 1,cI 0,zS,cS ⟨⟨[97]⟩⟩,.zc]])]) (CallsD.fv (N:=1000) (n:=60) OkD.none (by kernel_rfl)) (by kernel_rfl)
end Go.Hp.T
namespace Go.Hp.T
open Go Go.RowKit Go.Slot Go.Hp Go.Slot.T
open Go.Proofs.Tryz (prog)
set_option maxRecDepth 100000
set_option maxHeartbeats 4000000
mutual
def Ex.smB:Ex->Bool
 | .mk _ _ u s l=>Nat.ble l.length 1073741824&&Nat.ble u.size 1073741824&&Nat.ble s.size 1073741824&&Ex.smBL l
def Ex.smBL:List Ex->Bool
 | []=>true
 | x::l=>Ex.smB x&&Ex.smBL l
end
theorem Ex.z5h:∀ l:List Ex,Ex.smBL l=l.all Ex.smB
 | []=>by rw [Ex.smBL];rfl
 | x::l=>by rw [Ex.smBL,Ex.z5h l];rfl
theorem Ex.Sm.of:∀ x:Ex,x.smB=true->x.Sm:=by
 refine Ex.ind ?_;intro x ih h
 cases x with
 | mk o n u s l=>
  rw [Ex.smB,Ex.z5h] at h;simp only [Bool.and_eq_true,Nat.ble_eq,List.all_eq_true] at h;obtain ⟨⟨⟨h1,h2⟩,h3⟩,h4⟩:=h;exact .mk _ h1 h2 h3 (fun y hy=>ih y hy (h4 y hy))
def wu7 (a b:Rs×Int):Bool:=a.1.t==b.1.t&&a.1.i==b.1.i&&decide (a.1.v.map (·.num)=b.1.v.map (·.num))&&decide (a.1.v.map (·.den)=b.1.v.map (·.den))&&decide (a.2=b.2)
theorem wub {a b:Rs×Int} (h:wu7 a b=true):a=b:=by
 obtain ⟨⟨t,i,v⟩,e⟩:=a;obtain ⟨⟨t',i',v'⟩,e'⟩:=b;unfold wu7 at h;simp only [Bool.and_eq_true,beq_iff_eq,decide_eq_true_eq] at h;obtain ⟨⟨⟨⟨rfl,rfl⟩,h1⟩,h2⟩,rfl⟩:=h
 have:v=v':=by
  cases v<;>cases v'<;>simp at h1 h2
  . rfl
  . rw [Rat.ext h1 h2]
 rw [this]
theorem tn0:CallsD Gs prog 28 [.one (cS ⟨⟨[98,32,60,32,53,32,34,107,103,34]⟩⟩)] (rsR (⟨true,true,none⟩,0)):=by
 have h:=xjb ⟨⟨sx0⟩⟩ ex0 par0 (Ex.Sm.of _ (by kernel_rfl));rw [show valF ex0 bs16 ms16=(⟨true,true,none⟩,0) from wub (by kernel_rfl)] at h;exact h
theorem tn1:CallsD Gs prog 29 [.one (cS ⟨⟨[97,32,43,32,50]⟩⟩),.one (cI 8),.one (cI 1)] (.one (cB true)):=yk8 ⟨⟨sx1⟩⟩ ex1 8 1 (by decide) (by decide) (by decide) par1 (Ex.Sm.of _ (by kernel_rfl)) (wub (by kernel_rfl))
theorem tn2:CallsD Gs prog 29 [.one (cS ⟨⟨[40,97,32,45,32,122,41,32,47,32,52]⟩⟩),.one (cI 3),.one (cI 2)] (.one (cB true)):=yk8 ⟨⟨sx2⟩⟩ ex2 3 2 (by decide) (by decide) (by decide) par2 (Ex.Sm.of _ (by kernel_rfl)) (wub (by kernel_rfl))
theorem tn3:CallsD Gs prog 29 [.one (cS ⟨⟨[108,111,111,107,40,103,114,105,100,44,32,97,41]⟩⟩),.one (cI 5),.one (cI 1)] (.one (cB true)):=yk8 ⟨⟨sx3⟩⟩ ex3 5 1 (by decide) (by decide) (by decide) par3 (Ex.Sm.of _ (by kernel_rfl)) (wub (by kernel_rfl))
theorem tn4:CallsD Gs prog 30 [.one (cS ⟨⟨[108,111,111,107,40,103,114,105,100,44,32,48,32,45,32,97,41]⟩⟩),.one (cI 4)] (.one (cB true)):=xcb ⟨⟨sx4⟩⟩ ex4 4 par4 (Ex.Sm.of _ (by kernel_rfl)) (wub (by kernel_rfl))
theorem tn5:CallsD Gs prog 30 [.one (cS ⟨⟨[97,32,47,32,122]⟩⟩),.one (cI 15)] (.one (cB true)):=xcb ⟨⟨sx5⟩⟩ ex5 15 par5 (Ex.Sm.of _ (by kernel_rfl)) (wub (by kernel_rfl))
theorem tn6:CallsD Gs prog 29 [.one (cS ⟨⟨[105,102,32,40,122,32,61,32,48,41,32,116,104,101,110,32,97,32,101,108,115,101,32,40,97,32,47,32,122,41]⟩⟩),.one (cI 6),.one (cI 1)] (.one (cB true)):=yk8 ⟨⟨sx6⟩⟩ ex6 6 1 (by decide) (by decide) (by decide) par6 (Ex.Sm.of _ (by kernel_rfl)) (wub (by kernel_rfl))
theorem tn7:CallsD Gs prog 30 [.one (cS ⟨⟨[40,49,32,47,32,122,41,32,43,32,40,97,32,97,110,100,32,97,41]⟩⟩),.one (cI 15)] (.one (cB true)):=xcb ⟨⟨sx7⟩⟩ ex7 15 par7 (Ex.Sm.of _ (by kernel_rfl)) (wub (by kernel_rfl))
theorem tn8:CallsD Gs prog 30 [.one (cS ⟨⟨[40,97,32,97,110,100,32,97,41,32,43,32,40,49,32,47,32,122,41]⟩⟩),.one (cI 13)] (.one (cB true)):=xcb ⟨⟨sx8⟩⟩ ex8 13 par8 (Ex.Sm.of _ (by kernel_rfl)) (wub (by kernel_rfl))
theorem tn9:CallsD Gs prog 30 [.one (cS ⟨⟨[99]⟩⟩),.one (cI 11)] (.one (cB true)):=xcb ⟨⟨sx9⟩⟩ ex9 11 par9 (Ex.Sm.of _ (by kernel_rfl)) (wub (by kernel_rfl))
theorem tn10:CallsD Gs prog 30 [.one (cS ⟨⟨[53,32,34,107,120,34]⟩⟩),.one (cI 14)] (.one (cB true)):=xcb ⟨⟨sx10⟩⟩ ex10 14 yjy (Ex.Sm.of _ (by kernel_rfl)) (wub (by kernel_rfl))
theorem tn11:CallsD Gs prog 30 [.one (cS ⟨⟨[105,102,32,97,32,116,104,101,110,32,99,32,101,108,115,101,32,99]⟩⟩),.one (cI 13)] (.one (cB true)):=xcb ⟨⟨sx11⟩⟩ ex11 13 xp8 (Ex.Sm.of _ (by kernel_rfl)) (wub (by kernel_rfl))
theorem tn12:CallsD Gs prog 30 [.one (cS ⟨⟨[102,40,97,41]⟩⟩),.one (cI 2)] (.one (cB true)):=xcb ⟨⟨sx12⟩⟩ ex12 2 z3w (Ex.Sm.of _ (by kernel_rfl)) (wub (by kernel_rfl))
theorem zcg:CallsD Gs prog 9 [] (.one (cB true)):=by
 refine CallsD.run [] Go.Proofs.Tryz.func9 rfl rfl rfl ?_;simp only [Go.Proofs.Tryz.f9];refine hgR ?_
 repeat' ((first | refine hfk ?_ ?_<;>intros | refine hik ?_ | with_reducible first | refine v6l (tn0) ?_ | refine vgi (tn0) ?_ | refine v6l (tn1) ?_ | refine vgi (tn1) ?_ | refine v6l (tn2) ?_ | refine vgi (tn2) ?_ | refine v6l (tn3) ?_ | refine vgi (tn3) ?_ | refine v6l (tn4) ?_ | refine vgi (tn4) ?_ | refine v6l (tn5) ?_ | refine vgi (tn5) ?_ | refine v6l (tn6) ?_ | refine vgi (tn6) ?_ | refine v6l (tn7) ?_ | refine vgi (tn7) ?_ | refine v6l (tn8) ?_ | refine vgi (tn8) ?_ | refine v6l (tn9) ?_ | refine vgi (tn9) ?_ | refine v6l (tn10) ?_ | refine vgi (tn10) ?_ | refine v6l (tn11) ?_ | refine vgi (tn11) ?_ | refine v6l (tn12) ?_ | refine vgi (tn12) ?_)<;>refine hgS ?_)
 all_goals refine lfE ?_;first | exact trivial | rfl
end Go.Hp.T
namespace Go.Hp.T
open Go Go.RowKit Go.Slot Go.Hp Go.Slot.T
open Go.Proofs.Tryz (prog)
set_option maxRecDepth 10000
set_option maxHeartbeats 4000000
variable {Γ:List (Nat×List Cell)}
end Go.Hp.T
namespace Go.Hp.T
open Go Go.RowKit Go.Slot Go.Hp
set_option maxRecDepth 10000
end Go.Hp.T
namespace Go.Hp.T
open Go Go.RowKit Go.Slot Go.Hp Go.Slot.T
open Go.Proofs.Tryz (prog)
set_option maxRecDepth 10000
set_option maxHeartbeats 4000000
variable {Γ:List (Nat×List Cell)}
end Go.Hp.T
