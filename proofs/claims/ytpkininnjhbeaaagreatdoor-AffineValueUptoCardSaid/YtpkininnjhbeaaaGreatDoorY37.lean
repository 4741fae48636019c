import Derived.Test.YtpkininnjhbeaaaGreatDoorY33
import Derived.Test.YtpkininnjhbeaaaGreatDoorY11
import Derived.WalkKit
import Derived.ProofKit
import Derived.OpenShut
import Derived.JoinedCond
import Derived.ChangeBook
import Derived.ChangeStays
namespace Go.Hp.T
open Go Go.RowKit Go.Slot Go.Hp Go.Slot.T
open Go.Proofs.Tryz (prog)
set_option maxRecDepth 10000
set_option maxHeartbeats 0
variable {Γ:List (Nat×List Cell)}
abbrev scB:SB:=.box [.mp 1,.mp 2] (some 97)
theorem z3l (V:Vq) (T:Vt) (s:ByteArray) (hs:s.size<=1073741824) (a c d:SB):xpp Γ prog 103 [a,mQ V,mB T,scB,c,d] [.one (.dat (cS s)),.one (.ptr 3 0)] [a,mQ V,mB T,scB,c,d] (.one (.dat (cB (!((z2f V s).isSome||(z2f T s).isSome||!isName s||isWord s))))):=by
 cases h1:z2f V s with
 | none=>cases h2:z2f T s with
  | none=>
   refine xpp.run [] Go.Proofs.Tryz.func103 rfl rfl ?_;simp only [Go.Proofs.Tryz.f103];refine hgR ?_;refine hg2 @h1 @h2 ?_
   repeat' ((first | refine hfk ?_ ?_<;>intros | refine hik ?_ | with_reducible first | refine wml (vfk s (by omega)) ?_ | refine ysj (vfk s (by omega)) ?_ | refine wml (yko s) ?_ | refine ysj (yko s) ?_)<;>refine hgS ?_)
   all_goals exact StH.vzq rfl (by kernel_rfl) (by (((conv=>simp only [Bool.and_true,Bool.true_and,Bool.and_false,Bool.false_and,Bool.or_true,Bool.true_or,Bool.or_false,Bool.false_or,Bool.not_true,Bool.not_false,decide_true,decide_false,not_true_eq_false,not_false_eq_true,wiu,if_true,if_false,Bool.and_self,Bool.or_self,cond_true,cond_false,List.length_map,ne_eq,Int.reduceEq,Int.reduceLT,Int.reduceLE, *,h1,h2,Option.isSome])<;>try exact trivial))<;>first | rfl | trivial)
  | some t=>
   refine xpp.run [] Go.Proofs.Tryz.func103 rfl rfl ?_;simp only [Go.Proofs.Tryz.f103];refine hgR ?_;refine hg2 @h1 @h2 ?_
   repeat' ((first | refine hfk ?_ ?_<;>intros | refine hik ?_ | with_reducible first | refine wml (vfk s (by omega)) ?_ | refine ysj (vfk s (by omega)) ?_ | refine wml (yko s) ?_ | refine ysj (yko s) ?_)<;>refine hgS ?_)
   all_goals exact StH.vzq rfl (by kernel_rfl) (by (((conv=>simp only [Bool.and_true,Bool.true_and,Bool.and_false,Bool.false_and,Bool.or_true,Bool.true_or,Bool.or_false,Bool.false_or,Bool.not_true,Bool.not_false,decide_true,decide_false,not_true_eq_false,not_false_eq_true,wiu,if_true,if_false,Bool.and_self,Bool.or_self,cond_true,cond_false,List.length_map,ne_eq,Int.reduceEq,Int.reduceLT,Int.reduceLE, *,h1,h2,Option.isSome])<;>try exact trivial))<;>first | rfl | trivial)
 | some q=>cases h2:z2f T s with
  | none=>
   refine xpp.run [] Go.Proofs.Tryz.func103 rfl rfl ?_;simp only [Go.Proofs.Tryz.f103];refine hgR ?_;refine hg2 @h1 @h2 ?_
   repeat' ((first | refine hfk ?_ ?_<;>intros | refine hik ?_ | with_reducible first | refine wml (vfk s (by omega)) ?_ | refine ysj (vfk s (by omega)) ?_ | refine wml (yko s) ?_ | refine ysj (yko s) ?_)<;>refine hgS ?_)
   all_goals exact StH.vzq rfl (by kernel_rfl) (by (((conv=>simp only [Bool.and_true,Bool.true_and,Bool.and_false,Bool.false_and,Bool.or_true,Bool.true_or,Bool.or_false,Bool.false_or,Bool.not_true,Bool.not_false,decide_true,decide_false,not_true_eq_false,not_false_eq_true,wiu,if_true,if_false,Bool.and_self,Bool.or_self,cond_true,cond_false,List.length_map,ne_eq,Int.reduceEq,Int.reduceLT,Int.reduceLE, *,h1,h2,Option.isSome])<;>try exact trivial))<;>first | rfl | trivial)
  | some t=>
   refine xpp.run [] Go.Proofs.Tryz.func103 rfl rfl ?_;simp only [Go.Proofs.Tryz.f103];refine hgR ?_;refine hg2 @h1 @h2 ?_
   repeat' ((first | refine hfk ?_ ?_<;>intros | refine hik ?_ | with_reducible first | refine wml (vfk s (by omega)) ?_ | refine ysj (vfk s (by omega)) ?_ | refine wml (yko s) ?_ | refine ysj (yko s) ?_)<;>refine hgS ?_)
   all_goals exact StH.vzq rfl (by kernel_rfl) (by (((conv=>simp only [Bool.and_true,Bool.true_and,Bool.and_false,Bool.false_and,Bool.or_true,Bool.true_or,Bool.or_false,Bool.false_or,Bool.not_true,Bool.not_false,decide_true,decide_false,not_true_eq_false,not_false_eq_true,wiu,if_true,if_false,Bool.and_self,Bool.or_self,cond_true,cond_false,List.length_map,ne_eq,Int.reduceEq,Int.reduceLT,Int.reduceLE, *,h1,h2,Option.isSome])<;>try exact trivial))<;>first | rfl | trivial)
theorem wv3 (V:Vq) (T:Vt) (x:Ex) (hl:3<=x.args.length) (hl2:x.args.length<=1073741824)
 (h:∀ i,i<3->xpp Γ prog 59 [mQ V,mB T] [.agg [.mp 0,.mp 1],.agg ((exC (x.args.getD i default)).map .dat)] [mQ V,mB T] (rsS ((x.args.getD i default).cal V T))) :
 xpp Γ prog 106 [mQ V,mB T] [.agg [.mp 0,.mp 1],.agg ((exC x).map .dat)] [mQ V,mB T] (rsS (chV (x.args.map (Ex.cal V T)))):=by
 have h0:=h 0 (by decide);have h1:=h 1 (by decide);have h2:=h 2 (by decide);clear h
 have e:chV (x.args.map (Ex.cal V T))=bif decide (¬((x.args.getD 0 default).cal V T).2=0) then (Rs.zero,((x.args.getD 0 default).cal V T).2) else bif !((x.args.getD 0 default).cal V T).1.t then (Rs.zero,13) else bif ((x.args.getD 0 default).cal V T).1.i then (x.args.getD 1 default).cal V T else (x.args.getD 2 default).cal V T:=by
  unfold chV;rw [getD_map (show 0<x.args.length by omega),getD_map (show 1<x.args.length by omega),getD_map (show 2<x.args.length by omega)]
 rw [e];generalize (x.args.getD 0 default).cal V T=r0 at h0;generalize (x.args.getD 1 default).cal V T=r1 at h1;generalize (x.args.getD 2 default).cal V T=r2 at h2;obtain ⟨⟨t0,i0,v0⟩,e0⟩:=r0;simp only at h0 ⊢;refine xpp.run [] Go.Proofs.Tryz.func106 rfl rfl ?_;simp only [Go.Proofs.Tryz.f106];refine hgR ?_;refine hg ?_;refine xhw 2 (fun ξ=>xpp.pre h0 (zcx V T) rfl rfl) rfl rfl ?_;clear h0;refine hg ?_
 repeat' ((first | refine hfk ?_ ?_<;>intros | refine hik ?_)<;>refine hgS ?_)
 . exact StH.yaz rfl (by kernel_rfl) rfl rfl
 . exact StH.yaz rfl (by kernel_rfl) rfl rfl
 . refine xhw 2 (fun ξ=>xpp.pre h1 (zcx V T) rfl rfl) rfl rfl ?_;refine hg ?_
   repeat' ((first | refine hfk ?_ ?_<;>intros | refine hik ?_)<;>refine hgS ?_)
   exact StH.vzq rfl (by kernel_rfl) rfl
 . refine xhw 2 (fun ξ=>xpp.pre h2 (zcx V T) rfl rfl) rfl rfl ?_;refine hg ?_
   repeat' ((first | refine hfk ?_ ?_<;>intros | refine hik ?_)<;>refine hgS ?_)
   exact StH.vzq rfl (by kernel_rfl) rfl
theorem xr1 {B:Nat} (hB:4300<=B) (V:Vq) (T:Vt) (hV:Vsm B V) (hT:∀ s t,z2f T s=some t->t.Sm/\tbOk t=true):∀ x:Ex,x.Sm->x.shaped=true->x.wqm=false->B*x.nd<=67108864->xpp Γ prog 59 [mQ V,mB T] [.agg [.mp 0,.mp 1],.agg ((exC x).map .dat)] [mQ V,mB T] (rsS (x.cal V T)):=by
 refine Ex.ind (fun x ih hx hsh hcl hnd=>?_);have hl:=hx.len;have hu:=hx.u;have hcal:=Ex.yre V T x
 have hnode:xer x=true:=by rw [Ex.ypb,Bool.and_eq_true] at hsh;exact hsh.1
 have hargs:∀ y∈x.args,y.shaped=true:=by rw [Ex.ypb,Bool.and_eq_true,List.all_eq_true] at hsh;exact hsh.2
 have hcalls:x.op≠3/\∀ y∈x.args,y.wqm=false:=by
  rw [Ex.xrx,Bool.or_eq_false_iff,decide_eq_false_iff_not,List.any_eq_false] at hcl;exact ⟨hcl.1,fun y hy=>by simpa using hcl.2 y hy⟩
 have hnds:∀ y∈x.args,B*y.nd<=67108864:=fun y hy=>Nat.le_trans (Nat.mul_le_mul_left _ (by have:=Ex.xka hy;have:=Ex.xk0 x;omega)) hnd
 by_cases h0:x.op=0
 . rw [decide_eq_true h0,cond_true] at hcal;have hn:=xsm hnode h0
   have hin:inI x.n:=by unfold inI;omega
   have hz:=x10 hin;have ho:=oInt (Γ:=Γ) x.n hin;rw [hcal]
   rcases veq x.unit with ⟨u,h,hq⟩ | ⟨e,he,h⟩
   . have hr:=xyv (Γ:=Γ) hu h
     have e1:xoq x.n x.unit=numV (mulO (some (x.n:Rat)) (some u.f)) (erO (some (x.n:Rat)) (some u.f)):=by unfold xoq facO;rw [h];rfl
     have hm:=oMul (Γ:=Γ) (some (x.n:Rat)) (some u.f) (by omega) (by show qs u.f<=_;omega);rw [e1];refine xpp.run [] Go.Proofs.Tryz.func59 rfl rfl ?_;simp only [Go.Proofs.Tryz.f59];refine hgR ?_
     repeat' ((first | refine hfk ?_ ?_<;>intros | refine hik ?_ | with_reducible first | refine hcA ?_ | refine hcB ?_ | refine wml (x7x _ _) ?_ | refine ysj (x7x _ _) ?_)<;>refine hgS ?_)
     all_goals first
      | (exfalso;omega)
      | exact StH.vzq rfl (by kernel_rfl) rfl
   . have hr:=xmw (Γ:=Γ) x.unit hu;rw [h] at hr
     have e1:xoq x.n x.unit=(⟨false,false,none⟩,14):=by unfold xoq;rw [h];simp only [decide_eq_true he,cond_true];rfl
     rw [e1];refine xpp.run [] Go.Proofs.Tryz.func59 rfl rfl ?_;simp only [Go.Proofs.Tryz.f59];refine hgR ?_
     repeat' ((first | refine hfk ?_ ?_<;>intros | refine hik ?_ | with_reducible first | refine hcA ?_ | refine hcB ?_)<;>refine hgS ?_)
     all_goals first
      | (exfalso;omega)
      | exact StH.yaz rfl (by kernel_rfl) rfl rfl
 rw [decide_eq_false h0,cond_false] at hcal;by_cases h1:x.op=1
 . rw [decide_eq_true h1,cond_true] at hcal;rw [hcal];unfold y21
   cases hlk:z2f V x.name with
   | none=>
    show xpp _ _ _ _ _ _ (rsS (⟨false,false,none⟩,11));refine xpp.run [] Go.Proofs.Tryz.func59 rfl rfl ?_;simp only [Go.Proofs.Tryz.f59];refine hgR ?_
    repeat' ((first | refine hfk ?_ ?_<;>intros | refine hik ?_)<;>refine hgS ?_)
    all_goals try (exfalso;omega)
    refine hg1 @hlk ?_
    repeat' ((first | refine hfk ?_ ?_<;>intros | refine hik ?_)<;>refine hgS ?_)
    all_goals first
     | (exfalso;omega)
     | exact StH.yaz rfl (by kernel_rfl) rfl rfl
   | some q=>
    have hq:=hV _ _ hlk;have ho:=oInt (Γ:=Γ) 0 (by decide);have hz:=x10 (n:=0) (by decide);have ha:=oAdd (Γ:=Γ) (some q) (some ((0:Int):Rat)) (by show qs q<=_;have:=Ex.xk0 x;have:B<=B*x.nd:=Nat.le_mul_of_pos_right _ (by omega);omega) (by omega);show xpp _ _ _ _ _ _ (rsS (numV (addO (some q) (some ((0:Int):Rat))) 0));refine xpp.run [] Go.Proofs.Tryz.func59 rfl rfl ?_;simp only [Go.Proofs.Tryz.f59];refine hgR ?_
    repeat' ((first | refine hfk ?_ ?_<;>intros | refine hik ?_)<;>refine hgS ?_)
    all_goals try (exfalso;omega)
    refine hg1 @hlk ?_
    repeat' ((first | refine hfk ?_ ?_<;>intros | refine hik ?_ | with_reducible first | refine hcA ?_ | refine hcB ?_ | refine wml (x7x _ _) ?_ | refine ysj (x7x _ _) ?_)<;>refine hgS ?_)
    all_goals first
     | (exfalso;omega)
     | exact StH.vzq rfl (by kernel_rfl) rfl
 rw [decide_eq_false h1,cond_false] at hcal
 have hne:x.args.length≠0:=fun h=>by
  unfold xer at hnode;rw [decide_eq_false h0,decide_eq_false h1,h] at hnode;simp at hnode
 obtain ⟨hl2,hl3⟩:=zd3 hnode hcalls.1 hne;by_cases h5:x.op=5
 . rw [decide_eq_true h5,cond_true] at hcal;rw [hcal];have hl3':=hl3 h5
   have hch:=wv3 (Γ:=Γ) V T x hl3' hl (fun i hi=>by
    have hm:=y7p (show i<x.args.length by omega)
    exact ih _ hm (hx.arg _ hm) (hargs _ hm) (hcalls.2 _ hm) (hnds _ hm))
   refine xpp.run [] Go.Proofs.Tryz.func59 rfl rfl ?_;simp only [Go.Proofs.Tryz.f59];refine hgR ?_
   repeat' ((first | refine hfk ?_ ?_<;>intros | refine hik ?_)<;>refine hgS ?_)
   all_goals try (exfalso;omega)
   rw [show cI 5=cI x.op by rw [h5]];refine x6x (xpp.pre hch (zcx V T) rfl rfl) ?_;refine hg ?_;exact StH.vzq rfl (by kernel_rfl) rfl
 rw [decide_eq_false h5,cond_false] at hcal
 have hqz:∀ y∈x.args,qz (y.cal V T).1.v<=67108864:=fun y hy=>Nat.le_trans (zau hB hV y (hargs y hy) (hcalls.2 y hy)) (hnds y hy)
 rw [hcal];clear hcal hu hnd hV;generalize hS:seqV (x.args.map (Ex.cal V T))=S;refine xpp.run [] Go.Proofs.Tryz.func59 rfl rfl ?_;simp only [Go.Proofs.Tryz.f59];refine hgR ?_
 repeat' ((first | refine hfk ?_ ?_<;>intros | refine hik ?_)<;>refine hgS ?_)
 all_goals try (exfalso;omega)
 refine x20 [2,3,4,68,69] (fun p:Nat×List Rs=>[(10,.one (.sl 5 6 0 p.2.length)),(70,.one (.dat (cI p.1)))])
  (fun p=>[mQ V,mB T,.box [.mp 0,.mp 1] (some 97),.box ((exC x).map .dat) (some 24),.box ((rsZ false false).map .dat) (some 61),.arr (.sl 6 (p.2.map Rs.C)) 0 (some 61)])
  (fun p=>p.1<=x.args.length/\p.2.length=p.1/\(∀ r∈p.2,qz r.v<=67108864)/\S=match seqV ((x.args.drop p.1).map (Ex.cal V T)) with
    | .inl e=>.inl e
    | .inr r=>.inr (p.2++r)) (fun p=>x.args.length-p.1) (0,[]) ⟨Nat.zero_le _,rfl,fun r hr=>(by cases hr),by simp only [List.drop_zero,List.nil_append];rw [hS];cases S<;>rfl⟩ ?_ ?_
 . refine hg ?_;refine StH.trans (StH.empty (d:=10) (es:=6) (c:=.sl 6 []) (T:=some 61) rfl rfl (fun r hr=>by cases hr) rfl) ?_;refine hg ?_;exact StH.same svl rfl
 clear hS;rintro ⟨i,rs⟩ ⟨q1,q2,q3,q4⟩;simp only at q1 q2 q3 q4;refine hg ?_;refine vt2 (fun hlt _=>?_) (fun hlt _=>?_)
 . have hlt':i<x.args.length:=by omega
   have hy:=y7p hlt';rw [xfc hlt',List.map_cons] at q4;have hqy:=hqz _ hy;refine hg ?_;refine x6x (xpp.pre (ih _ hy (hx.arg _ hy) (hargs _ hy) (hcalls.2 _ hy) (hnds _ hy)) (zcx V T) rfl rfl) ?_;generalize hr:Ex.cal V T (x.args.getD i default)=r at q4 hqy ⊢;obtain ⟨t,e⟩:=r;rw [seqV] at q4;simp only at q4 hqy;refine hg ?_;refine vt2 (fun he hd=>?_) (fun he hd=>?_)
   . refine hg ?_
     have q4':S=.inl e:=by rw [q4,show decide (¬e=0)=true from hd];rfl
     rw [q4'];exact StH.yaz rfl (by kernel_rfl) rfl rfl
   . refine hg ?_;rw [show decide (¬e=0)=false from hd,cond_false] at q4
     have q4':S=match seqV ((x.args.drop (i+1)).map (Ex.cal V T)) with
      | .inl e=>.inl e
      | .inr r=>.inr ((rs++[t])++r):=by
      rw [q4]
      cases seqV ((x.args.drop (i+1)).map (Ex.cal V T)) with
      | inl e=>rfl
      | inr r=>simp only [List.append_assoc,List.singleton_append]
     have hmap:rs.map Rs.C++[rsC t]=(rs++[t]).map Rs.C:=by simp;rfl
     rw [hmap]
     refine ⟨(i+1,rs++[t]),⟨by dsimp only;omega,by dsimp only;rw [List.length_append,List.length_singleton,q2],fun r hr'=>by
      rcases List.mem_append.1 hr' with h | h
      . exact q3 r h
      . rw [List.mem_singleton.1 h];exact hqy,q4'⟩,by dsimp only;omega,?_⟩
     refine StH.z04 [2,3,4,10,68,69,70] 5 8 6 rfl rfl rfl rfl rfl rfl rfl (by kernel_rfl) ?_;refine hg ?_;exact StH.same svl rfl
 . have q4':S=.inr rs:=by rw [q4,List.drop_eq_nil_of_le (by omega)];show (match seqV [] with | .inl e=>Sum.inl e | .inr r=>Sum.inr (rs++r))=_;rw [seqV];simp only [List.append_nil]
   rw [q4'];clear q4 q4' ih
   have hlen:rs.length=x.args.length:=by omega
   have hr0:=q3 _ (y7p (show 0<rs.length by omega))
   have hlen0:0<rs.length:=by omega
   by_cases h2:x.op=2
   . have hk:=vp4 (Γ:=Γ) V T x.name (rs.getD 0 default) hT hr0;rw [show v24 T x.op x.name (.inr rs)=vi3 T x.name (rs.getD 0 default) by show opV T x.op x.name rs=_;unfold opV;rw [decide_eq_true h2];rfl];refine hg ?_
     repeat' ((first | refine hfk ?_ ?_<;>intros | refine hik ?_)<;>refine hgS ?_)
     all_goals try (exfalso;omega)
     refine xhw 2 (fun ξ=>xpp.pre hk (zcx V T) rfl rfl) rfl rfl ?_;generalize vi3 T x.name (rs.getD 0 default)=r;obtain ⟨⟨t,i,v⟩,e⟩:=r;refine hg ?_
     repeat' ((first | refine hfk ?_ ?_<;>intros | refine hik ?_)<;>refine hgS ?_)
     exact StH.vzq rfl (by kernel_rfl) rfl
   by_cases h4:x.op=4\/x.op=14\/x.op=15
   . have hk:=wo0 (Γ:=Γ) x.op rs (by omega)
     rw [show v24 T x.op x.name (.inr rs)=logV x.op rs by
      show opV T x.op x.name rs=_;unfold opV
      rw [decide_eq_false h2,show (decide (x.op=4)||decide (x.op=14)||decide (x.op=15))=true by rcases h4 with h | h | h<;>simp [h]];rfl]
     generalize logV x.op rs=r at hk;obtain ⟨⟨t,i,v⟩,e⟩:=r;refine hg ?_
     rcases h4 with h4 | h4 | h4
     all_goals
      rw [h4] at hk
      repeat' ((first | refine hfk ?_ ?_<;>intros | refine hik ?_ | with_reducible first | refine hcA ?_ | refine hcB ?_)<;>refine hgS ?_)
      all_goals first
       | (exfalso;omega)
       | exact StH.vzq rfl (by kernel_rfl) rfl
   . have hl:=hl2 h2 (fun h=>h4 (.inl h))
     have hlen1:1<rs.length:=by omega
     have hr1:=q3 _ (y7p hlen1);have hk:=yd6 (Γ:=Γ) x.op (rs.getD 0 default) (rs.getD 1 default) hr0 hr1
     rw [show v24 T x.op x.name (.inr rs)=ariV x.op (rs.getD 0 default) (rs.getD 1 default) by
      show opV T x.op x.name rs=_;unfold opV
      rw [decide_eq_false h2,show (decide (x.op=4)||decide (x.op=14)||decide (x.op=15))=false by simp only [Bool.or_eq_false_iff,decide_eq_false_iff_not];exact ⟨⟨fun h=>h4 (.inl h),fun h=>h4 (.inr (.inl h))⟩,fun h=>h4 (.inr (.inr h))⟩];rfl]
     generalize ariV x.op (rs.getD 0 default) (rs.getD 1 default)=r at hk;obtain ⟨⟨t,i,v⟩,e⟩:=r;refine hg ?_
     repeat' ((first | refine hfk ?_ ?_<;>intros | refine hik ?_ | with_reducible first | refine hcA ?_ | refine hcB ?_)<;>refine hgS ?_)
     all_goals first
      | (exfalso;omega)
      | exact StH.vzq rfl (by kernel_rfl) rfl
theorem wmd (f:FuncId) (l:List SV):vb5 (.clo f l)=l.flatMap wj3:=rfl
attribute [go_sem] wmd
theorem xaz (V:Vq) (T:Vt) (a c d:SB) (b:Bool):StH Γ [] [SV.tup [.agg [.mp 1,.mp 2],.one (.dat (cB b))]] [a,mQ V,mB T,c,d] [SV.tup [.agg [.mp 0,.mp 1],.one (.dat (cB b))]] [mQ V,mB T]:=by
 have e1:swL 0 1 [a,mQ V,mB T,c,d]=[mQ V,swSB 0 1 a,mB T,swSB 0 1 c,swSB 0 1 d]:=by
  show [swSB 0 1 (mQ V),swSB 0 1 a,swSB 0 1 (mB T),swSB 0 1 c,swSB 0 1 d]=_;rw [vp2,vcy]
 have e2:swL 1 2 [mQ V,swSB 0 1 a,mB T,swSB 0 1 c,swSB 0 1 d]=[mQ V,mB T,swSB 1 2 (swSB 0 1 a),swSB 1 2 (swSB 0 1 c),swSB 1 2 (swSB 0 1 d)]:=by
  show [swSB 1 2 (mQ V),swSB 1 2 (mB T),swSB 1 2 (swSB 0 1 a),swSB 1 2 (swSB 0 1 c),swSB 1 2 (swSB 0 1 d)]=_;rw [vp2,vcy]
 have h1:=StH.vim (Γ:=Γ) (e:=[]) (I:=[SV.tup [.agg [.mp 1,.mp 2],.one (.dat (cB b))]]) (J:=[a,mQ V,mB T,c,d]) (i:=0) (j:=1) (by decide) (by decide) (by simp) (by simp);have h2:=StH.vim (Γ:=Γ) (e:=[]) (I:=[SV.tup [.agg [.mp 0,.mp 2],.one (.dat (cB b))]]) (J:=[mQ V,swSB 0 1 a,mB T,swSB 0 1 c,swSB 0 1 d]) (i:=1) (j:=2) (by decide) (by decide) (by simp) (by simp)
 have h3:=StH.cutB (Γ:=Γ) (e:=[]) (I:=[SV.tup [.agg [.mp 0,.mp 1],.one (.dat (cB b))]]) (J:=[mQ V,mB T,swSB 1 2 (swSB 0 1 a),swSB 1 2 (swSB 0 1 c),swSB 1 2 (swSB 0 1 d)]) 2 (by decide) (by
  unfold yyj;show (_&&([mQ V,mB T].all fun x=>(vb5 x).all fun b=>Nat.blt b 2))=true
  simp only [List.all_cons,yce,wor,List.all_nil];rfl)
 rw [e1] at h1;rw [e2] at h2;exact h1.trans (h2.trans h3)
def entB:Option (Vq×Vt)->List SB
 | none=>[]
 | some p=>[mQ p.1,mB p.2]
def entR:Option (Vq×Vt)->SV
 | none=>.tup [.agg [.any,.any],.one (.dat (cB false))]
 | some _=>.tup [.agg [.mp 0,.mp 1],.one (.dat (cB true))]
theorem vmp (bs:List Bd) (ms:List Tb) (hb:bs.length<=1073741824) (hm:ms.length<=1073741824) (hbs:∀ b∈bs,b.name.size<=1073741824/\b.v.sz<=268435456) (hms:∀ t∈ms,t.Sm) :
 xpp Γ prog 58 [] [.one (.dat (.sl 5 (bs.map Bd.C))),.one (.dat (.sl 3 (ms.map Tb.C)))] (entB (entF bs ms)) (entR (entF bs ms)):=by
 refine xpp.run [(2,[.clo])] Go.Proofs.Tryz.func58 rfl rfl ?_;simp only [Go.Proofs.Tryz.f58];refine hgR ?_;refine x20 [0,1,4,6,7,16,17] (fun p:Nat×Vq=>[(18,.one (.dat (cI p.1)))]) (fun p=>[.box [.dat (.raw (.map none)),.dat (.raw (.map none))] (some 97),mQ p.2,mB [],scB,.clo 103 [.one (.ptr 3 0)]])
  (fun p=>p.1<=bs.length/\rB [] bs=rB p.2 (bs.drop p.1)) (fun p=>bs.length-p.1) (0,[]) ⟨Nat.zero_le _,rfl⟩ ?_ ?_
 . refine hg ?_;exact StH.same svl rfl
 rintro ⟨i,V⟩ ⟨h1,h2⟩;simp only at h1 h2;refine hg ?_;refine vt2 (fun hlt _=>?_) (fun hlt _=>?_)
 . have hlt':i<bs.length:=by omega
   have hy:=hbs _ (y7p hlt');rw [xfc hlt'] at h2
   have hbad:rB [] bs=none->entF bs ms=none:=fun h=>by unfold entF entG;rw [show gE Bd.name (fun b=>decide b.v.ok) (fun b=>b.v.val) (fun _=>false) [] bs=none from h]
   refine hg ?_;refine x6x (z3l V [] (bs.getD i default).name hy.1 _ _ _) ?_
   have h2':rB [] bs=bif ((z2f V (bs.getD i default).name).isSome||(z2f ([]:Vt) (bs.getD i default).name).isSome||!isName (bs.getD i default).name||isWord (bs.getD i default).name)||!decide (bs.getD i default).v.ok then none else rB (updF V (bs.getD i default).name (bs.getD i default).v.val) (bs.drop (i+1)):=h2
   clear h2;generalize ((z2f V (bs.getD i default).name).isSome||(z2f ([]:Vt) (bs.getD i default).name).isSome||!isName (bs.getD i default).name||isWord (bs.getD i default).name)=X at *;generalize bs.getD i default=b at *;obtain ⟨nm,v⟩:=b;simp only at hy h2';by_cases hok:v.ok
   . obtain ⟨q,rfl⟩:=zr1 hok;have hr:CallsD Γ prog 19 [.agg (qC (some q))] (.one (cB true)):=w7o (some q) hy.2;rw [decide_eq_true hok,show (qF (some q)).val=q from Fc.xhg q] at h2';clear hok
     cases X with
     | true=>
      rw [hbad h2'];refine hg ?_
      repeat' ((first | refine hfk ?_ ?_<;>intros | refine hik ?_)<;>refine hgS ?_)
      exact x2c
     | false=>
      refine hg ?_
      repeat' ((first | refine hfk ?_ ?_<;>intros | refine hik ?_ | with_reducible first | refine hcA ?_ | refine hcB ?_)<;>refine hgS ?_)
      refine ⟨(i+1,updF V nm q),⟨by dsimp only;omega,by first | exact h2' | rfl⟩,by dsimp only;omega,?_⟩;refine StH.cutN [0,1,4,6,7,16,17,18] 5 rfl ?_ ?_
      . refine hg ?_;exact trivial
      exact StH.same svl rfl
   . have hr:CallsD Γ prog 19 [.agg [.raw (.int .i64 v.s),.ints .i64 v.L,.raw (.int .i64 v.t),.ints .i64 v.M]] (.one (cB false)):=by
      have:=wm4 (Γ:=Γ) v hy.2
      rw [decide_eq_false hok] at this;exact this
     rw [hbad (by rw [h2',decide_eq_false hok];cases X<;>rfl)];clear hbad h2' hok
     cases X with
     | true=>
      refine hg ?_
      repeat' ((first | refine hfk ?_ ?_<;>intros | refine hik ?_)<;>refine hgS ?_)
      exact x2c
     | false=>
      refine hg ?_
      repeat' ((first | refine hfk ?_ ?_<;>intros | refine hik ?_ | with_reducible first | refine hcA ?_ | refine hcB ?_)<;>refine hgS ?_)
      exact x2c
 . have hV:rB [] bs=some V:=by rw [h2,List.drop_eq_nil_of_le (by omega)];rfl
   clear h2 h1 hlt hbs
   have hbad:rTb V [] ms=none->entF bs ms=none:=fun h=>by
    unfold entF entG;rw [show gE Bd.name (fun b=>decide b.v.ok) (fun b=>b.v.val) (fun _=>false) [] bs=some V from hV];show Option.map _ (rTb V [] ms)=none;rw [h];rfl
   have hgood:∀ T,rTb V [] ms=some T->entF bs ms=some (V,T):=fun T h=>by
    unfold entF entG;rw [show gE Bd.name (fun b=>decide b.v.ok) (fun b=>b.v.val) (fun _=>false) [] bs=some V from hV];show Option.map _ (rTb V [] ms)=_;rw [h];rfl
   clear hV;refine hg ?_;refine x20 [4,6,7,41,42] (fun p:Nat×Vt=>[(43,.one (.dat (cI p.1)))]) (fun p=>[.box [.dat (.raw (.map none)),.dat (.raw (.map none))] (some 97),mQ V,mB p.2,scB,.clo 103 [.one (.ptr 3 0)]])
    (fun p=>p.1<=ms.length/\rTb V [] ms=rTb V p.2 (ms.drop p.1)) (fun p=>ms.length-p.1) (0,[]) ⟨Nat.zero_le _,rfl⟩ ?_ ?_
   . refine hg ?_;exact StH.same svl rfl
   rintro ⟨j,T⟩ ⟨h1,h2⟩;simp only at h1 h2;refine hg ?_;refine vt2 (fun hlt _=>?_) (fun hlt _=>?_)
   . have hlt':j<ms.length:=by omega
     have hy:=hms _ (y7p hlt');rw [xfc hlt'] at h2;have hr:=w8d (Γ:=Γ) _ hy.n hy.u hy.r;refine hg ?_;refine x6x (z3l V T (ms.getD j default).name hy.n _ _ _) ?_
     have h3:rTb V [] ms=bif ((z2f T (ms.getD j default).name).isSome||(z2f V (ms.getD j default).name).isSome||!isName (ms.getD j default).name||isWord (ms.getD j default).name)||!vgr (fun s=>(xx7 s).2) (ms.getD j default) then none else rTb V (updF T (ms.getD j default).name (ms.getD j default)) (ms.drop (j+1)):=h2
     have h2':rTb V [] ms=bif ((z2f V (ms.getD j default).name).isSome||(z2f T (ms.getD j default).name).isSome||!isName (ms.getD j default).name||isWord (ms.getD j default).name)||!vgr (fun s=>(xx7 s).2) (ms.getD j default) then none else rTb V (updF T (ms.getD j default).name (ms.getD j default)) (ms.drop (j+1)):=by
      rw [h3,Bool.or_comm (z2f T (ms.getD j default).name).isSome]
     clear h3;clear h2 hy;generalize ((z2f V (ms.getD j default).name).isSome||(z2f T (ms.getD j default).name).isSome||!isName (ms.getD j default).name||isWord (ms.getD j default).name)=X at *;generalize vgr (fun s=>(xx7 s).2) (ms.getD j default)=Y at *
     cases X with
     | true=>
      rw [hbad h2'];refine hg ?_
      repeat' ((first | refine hfk ?_ ?_<;>intros | refine hik ?_)<;>refine hgS ?_)
      exact x2c
     | false=>cases Y with
      | false=>
       rw [hbad h2'];refine hg ?_
       repeat' ((first | refine hfk ?_ ?_<;>intros | refine hik ?_ | with_reducible first | refine hcA ?_ | refine hcB ?_)<;>refine hgS ?_)
       exact x2c
      | true=>
       refine hg ?_
       repeat' ((first | refine hfk ?_ ?_<;>intros | refine hik ?_ | with_reducible first | refine hcA ?_ | refine hcB ?_)<;>refine hgS ?_)
       refine ⟨(j+1,updF T (ms.getD j default).name (ms.getD j default)),⟨by dsimp only;omega,by first | exact h2' | rfl⟩,by dsimp only;omega,?_⟩;refine StH.cutN [4,6,7,41,42,43] 5 rfl ?_ ?_
       . refine hg ?_;exact trivial
       exact StH.same svl rfl
   . have hT:rTb V [] ms=some T:=by rw [h2,List.drop_eq_nil_of_le (by omega)];rfl
     rw [hgood T hT];clear h2 h1 hlt hbad hgood hT;refine hg ?_;exact xaz V T _ _ _ true
theorem vpt (x:Ex) (bs:List Bd) (ms:List Tb) (hx:x.Sm) (hb:bs.length<=1073741824) (hm:ms.length<=1073741824) (hbs:∀ b∈bs,b.name.size<=1073741824/\b.v.sz<=330000) (hms:∀ t∈ms,t.Sm) :
 CallsD Γ prog 24 [.agg (exC x),.one (.sl 5 (bs.map Bd.C)),.one (.sl 3 (ms.map Tb.C))] (rsR (valF x bs ms)):=by
 have hr:=vmp (Γ:=Γ) bs ms hb hm (fun b h=>⟨(hbs b h).1,Nat.le_trans (hbs b h).2 (by decide)⟩) hms;have c1:=zfy (Γ:=Γ) x hx;have c2:=xny (Γ:=Γ) x hx
 cases hr1:zqs x with
 | false=>
  rw [hr1] at c1;rw [show valF x bs ms=(⟨false,false,none⟩,2) by unfold valF;rw [hr1];rfl];refine CallsD.run [] Go.Proofs.Tryz.func24 rfl rfl rfl ?_;simp only [Go.Proofs.Tryz.f24];refine hgR ?_
  repeat' ((first | refine hfk ?_ ?_<;>intros | refine hik ?_ | with_reducible first | refine hcA ?_ | refine hcB ?_)<;>refine hgS ?_)
  exact rsEq rfl
 | true=>cases hc1:x.wqm with
  | true=>
   rw [hr1] at c1;rw [hc1] at c2;rw [show valF x bs ms=(⟨false,false,none⟩,2) by unfold valF;rw [hr1,hc1];rfl];refine CallsD.run [] Go.Proofs.Tryz.func24 rfl rfl rfl ?_;simp only [Go.Proofs.Tryz.f24];refine hgR ?_
   repeat' ((first | refine hfk ?_ ?_<;>intros | refine hik ?_ | with_reducible first | refine hcA ?_ | refine hcB ?_)<;>refine hgS ?_)
   exact rsEq rfl
  | false=>
   rw [hr1] at c1;rw [hc1] at c2
   have hsh:x.shaped=true:=by unfold zqs at hr1;rw [Bool.and_eq_true] at hr1;exact hr1.2
   cases hrd:entF bs ms with
   | none=>
    rw [hrd] at hr;rw [show valF x bs ms=(⟨false,false,none⟩,1) by unfold valF;rw [hr1,hc1,hrd];rfl]
    have hr2:∀ a b:SB,xpp Γ prog 58 [a,b] [.one (.dat (.sl 5 (bs.map Bd.C))),.one (.dat (.sl 3 (ms.map Tb.C)))] [a,b] (.tup [.agg [.any,.any],.one (.dat (cB false))]):=fun a b=>xpp.at [] (J:=[a,b]) hr (by decide) rfl rfl rfl
    refine CallsD.run [] Go.Proofs.Tryz.func24 rfl rfl rfl ?_;simp only [Go.Proofs.Tryz.f24];refine hgR ?_
    repeat' ((first | refine hfk ?_ ?_<;>intros | refine hik ?_ | with_reducible first | refine hcA ?_ | refine hcB ?_)<;>refine hgS ?_)
    refine zqa (hr2 _ _) rfl ?_;refine hg ?_
    repeat' ((first | refine hfk ?_ ?_<;>intros | refine hik ?_)<;>refine hgS ?_)
    exact rsEq rfl
   | some p=>
    obtain ⟨V,T⟩:=p;rw [hrd] at hr;rw [show valF x bs ms=x.cal V T by unfold valF;rw [hr1,hc1,hrd];rfl]
    have hr2:∀ a b:SB,xpp Γ prog 58 [a,b] [.one (.dat (.sl 5 (bs.map Bd.C))),.one (.dat (.sl 3 (ms.map Tb.C)))] [a,b,mQ V,mB T] (.tup [.agg [.mp 2,.mp 3],.one (.dat (cB true))]):=fun a b=>by
     have h:=xpp.at [] (J:=[a,b]) hr (by decide) rfl rfl rfl
     have e:putR [] [a,b] (entB (some (V,T)))=[a,b,mQ V,mB T]:=by
      show [a,b,rnSB _ (mQ V),rnSB _ (mB T)]=_;rw [yi4,zgw]
     rw [e] at h;exact h
    have hnd:=zvr hr1;have hB:(335000:Nat)*x.nd<=67108864:=Nat.le_trans (Nat.mul_le_mul_left _ hnd) (by decide);have hc:=xr1 (Γ:=Γ) (B:=335000) (by decide) V T (x98 hrd (fun b h=>by have:=(hbs b h).2;omega)) (wed hrd hms) x hx hsh hc1 hB;refine CallsD.run [] Go.Proofs.Tryz.func24 rfl rfl rfl ?_;simp only [Go.Proofs.Tryz.f24];refine hgR ?_
    repeat' ((first | refine hfk ?_ ?_<;>intros | refine hik ?_ | with_reducible first | refine hcA ?_ | refine hcB ?_)<;>refine hgS ?_)
    refine zqa (hr2 _ _) rfl ?_;refine hg ?_;refine x6x (xpp.ro [2,3] hc (zcx V T) (by decide) rfl rfl) ?_;refine hg ?_;exact RLe.ofEq rfl
end Go.Hp.T
namespace Go.Slot
open Go Go.RowKit Go.ChangeShapes
variable {P:Program} {H:Type} {enc:TypeId×Value->H} {w:World} {spare:Nat->Bool} {held:Bool}
variable {a:Addr}
inductive Sp where
 | int (k:IntKind)
 | bool
 | str
 | ints (k:IntKind)
 | sl (l:List Sp)
inductive Fit (N:Nat):Sp->Cell->Prop
 | int {k:IntKind} {n:Int} (h:k.min<=n/\n<=k.max):Fit N (.int k) (.raw (.int k n))
 | bool {b:Bool}:Fit N .bool (.raw (.bool b))
 | str {s:ByteArray} (h:s.size<=N):Fit N .str (.raw (.string s))
 | ints {k:IntKind} {L:List Int} (hl:L.length<=N) (h:∀ x∈L,k.min<=x/\x<=k.max):Fit N (.ints k) (.ints k L)
 | sl {l:List Sp} {rows:List (List Cell)} (hl:rows.length<=N) (hlen:∀ r∈rows,r.length=l.length) (h:∀(r:List Cell),r∈rows->∀(i:Nat) (s:Sp) (c:Cell),l[i]? = some s->r[i]? = some c->Fit N s c):Fit N (.sl l) (.sl l.length rows)
def FitL (N:Nat) (l:List Sp) (cs:List Cell):Prop:=cs.length=l.length/\∀(i:Nat) (s:Sp) (c:Cell),l[i]? = some s->cs[i]? = some c->Fit N s c
theorem FitL.cons {N:Nat} {s:Sp} {l:List Sp} {cs:List Cell} (h:FitL N (s::l) cs):∃ c r,cs=c::r/\Fit N s c/\FitL N l r:=by
 obtain ⟨h1,h2⟩:=h
 cases cs with
 | nil=>simp at h1
 | cons c r=>exact ⟨c,r,rfl,h2 0 s c rfl rfl,by simpa using h1,fun i s' c' hs hc=>h2 (i+1) s' c' (by simpa using hs) (by simpa using hc)⟩
theorem FitL.nil {N:Nat} {cs:List Cell} (h:FitL N [] cs):cs=[]:=List.eq_nil_of_length_eq_zero h.1
theorem FitL.one {N:Nat} {s:Sp} {c:Cell} (h:Fit N s c):FitL N [s] [c]:=⟨rfl,fun i s' c' hs hc=>by
 cases i with
 | zero=>simp at hs hc;subst hs hc;exact h
 | succ i=>simp at hs⟩
theorem FitL.append {N:Nat} {l l':List Sp} {cs cs':List Cell} (h:FitL N l cs) (h':FitL N l' cs'):FitL N (l++l') (cs++cs'):=by
 refine ⟨by simp [h.1,h'.1],fun i s c hs hc=>?_⟩
 rcases Nat.lt_or_ge i l.length with hi | hi
 . rw [List.getElem?_append_left hi] at hs;rw [List.getElem?_append_left (by rw [h.1];exact hi)] at hc;exact h.2 i s c hs hc
 . rw [List.getElem?_append_right hi] at hs;rw [List.getElem?_append_right (by rw [h.1];exact hi),h.1] at hc;exact h'.2 _ s c hs hc
structure Bulk (bk:DataW H->Nat):Prop where
 str:∀ b,b.length<=bk (.lit (.string b))
 elems:∀ l r,l.length<=bk (.slice l r)
 elem:∀ l r d,d∈l->bk d<=bk (.slice l r)
 part:∀ l d,d∈l->bk d<=bk (.agg l)
theorem RdD.app0 {M:Nat->Nat->Prop} {w:World}:∀{vs us:List Value} {cs ds:List Cell},RdD M w vs cs->RdD M w us ds->RdD M w (vs++us) (cs++ds)
 | [],_,[],_,_,h=>h
 | _::_,_,_::_,_,h,h'=>⟨h.1,RdD.app0 h.2 h'⟩
theorem cellAt {v:Value} (h:w.cell? a=some v):a.spot=none:=by
 unfold World.cell? at h;split at h
 . split at h
   . cases h
   . rename_i hs;simpa using hs
 . cases h
theorem addrAt (h:a.spot=none) (n:Nat):a.add n=⟨a.block,a.off+n,none⟩:=by
 unfold Addr.add
 split
 . rename_i e;subst e;cases a;simp at h;subst h;rfl
 . rfl
section
variable {bk:DataW H->Nat} {N:Nat}
end
end Go.Slot
namespace Go.Slot
open Go Go.RowKit Go.ChangeShapes Go.WideShapes
variable {P:Program} {H:Type} {enc:TypeId×Value->H}
variable {W W':World}
def M0:Nat->Nat->Prop:=fun _ _=>False
section
variable {w:World} {spare:Nat->Bool} {held:Bool} {bk:DataW H->Nat} {N:Nat} {r:Reach} {b0:Nat}
end
theorem y0e (hl:laidOutB P=true) {W W':World} (hb:Below W.heap.size W W') {sp:Nat->Bool}:∀{ts:List TypeId} {vs:List Value} {ds:List (DataW H)} {ps:List MemPlace},(∀ t∈ts,P.readableRec t=true/\t<P.types.size)->
 DataW.TrodAll enc P W 0 (fun _=>true) true ts vs ds ps->(∀ p∈ps,p.block<W.heap.size)->(∀ p∈ps,sp p.block=true)->DataW.TrodAll enc P W' 0 sp true ts vs ds ps
 | [],vs,ds,ps,_,h,_,_=>by
  obtain ⟨rfl,rfl,rfl⟩:=trodAll_nil h;exact trodAll_mk0
 | t::ts,vs,ds,ps,hts,h,hlt,hsp=>by
  obtain ⟨v,vs',d,ds',p,q,rfl,rfl,rfl,⟨fuel,h1⟩,h2⟩:=trodAll_cons h;have ht:=hts t (by simp)
  exact ⟨p,q,⟨fuel,DataW.trod_stays (kids_book hl ht.1) (book_sized ht.1) (fun h=>by cases h) ⟨ht.2,book_self t⟩ h1 (fun x hx=>hb.same (hlt x (by simp [hx]))) (fun x hx=>hsp x (by simp [hx]))⟩,
   y0e hl hb (fun u hu=>hts u (by simp [hu])) h2 (fun x hx=>hlt x (by simp [hx])) (fun x hx=>hsp x (by simp [hx])),rfl⟩
theorem y4c {may:MemPlace->Prop} (hb:Below W.heap.size W W'):W.keptBut W' may:=by
 refine ⟨hb.os,hb.output,fun i hi=>?_⟩;rw [hb.block i hi]
 split
 . rename_i h1 h2;rw [h1] at h2;cases h2;exact ⟨rfl,rfl,rfl,fun _ _=>rfl⟩
 . rename_i h1 h2;rw [h1] at h2;cases h2;exact .inr ⟨rfl,rfl⟩
 . rfl
theorem xkt (hb:Below W.heap.size W W') {a:Addr} (h:a.block<W.heap.size):W'.frozen? a=W.frozen? a:=by
 unfold World.frozen?;rw [hb.block _ h]
theorem yfo (hl:laidOutB P=true) {f:Func} {s:ChangeSpec} {apart fresh handsOn again:Bool} {args:Array Value} {ds gs:List (DataW H)} {before:List MemPlace} {tb:TypeId}
 (hts:∀ t∈f.params.toList,P.readableRec t=true/\t<P.types.size) (hv:s.vars=[]) (hrt:f.resultTypes=#[tb]) (htb:P.underlying tb=some .bool)
 (hfn:∀ ds gs:List (DataW H),DataW.TrodAll enc P W 0 (fun _=>true) true f.params.toList args.toList ds before->gs=[]->(s.fn H (ds++gs)).results=[.lit (.bool true)]/\(s.fn H (ds++gs)).args=ds/\(s.fn H (ds++gs)).vars=[])
 (hW:DataW.Whole enc P f.params.toList s.vars apart W args.toList ds gs before) (hb:Below W.heap.size W W'):s.post enc P f apart fresh handsOn again W args (.bool true) W':=by
 have hlt:∀ p∈before,p.block<W.heap.size:=fun p hp=>hW.lt p hp
 have hW':=hW;obtain ⟨p,q,hA,hV,rfl,hfz,hnd⟩:=hW;rw [hv] at hV;obtain ⟨rfl,rfl⟩:=trodVars_none hV;rw [List.append_nil] at hW' hlt hfz hnd hfn;obtain ⟨e1,e2,e3⟩:=hfn ds [] hA rfl
 have hres:∀(b:Nat) (sp:Nat->Bool) (hd:Bool),DataW.TrodAll enc P W' b sp hd f.resultTypes.toList ((Value.bool true).resultList f.resultTypes.size) (s.fn H (ds++[])).results []:=fun b sp hd=>by
  rw [e1,hrt];exact trodAll_cons_mk (shut_bool htb true) trodAll_mk0
 have hargs:∀ sp:Nat->Bool,(∀ x∈p,sp x.block=true)->DataW.TrodAll enc P W' 0 sp true f.params.toList args.toList (s.fn H (ds++[])).args p:=fun sp hsp=>by
  rw [e2];exact y0e hl hb hts hA hlt hsp
 have hvars:∀ sp:Nat->Bool,DataW.TrodVars enc P W' sp s.vars (s.fn H (ds++[])).vars []:=fun sp=>by
  rw [e3,hv];exact rfl
 refine ⟨ds,[],p,[],p,[],hW',hres _ _ _,hargs _ (fun x hx=>by simpa using hlt x hx),hvars _,y4c hb,fun _=>⟨?_,_,_,([]++p)++[],⟨[]++p,[],trodAll_append (hargs _ (fun _ _=>rfl)) (hres _ _ _),hvars _,rfl,?_,?_⟩,?_⟩⟩
 . exact ok_one hrt rfl (okWide_bool_mk htb true)
 . intro b off hp
   have hp':MemPlace.cell b off∈p:=by simpa using hp
   rw [xkt hb (hlt _ hp')];exact hfz b off hp'
 . intro ha;simpa using hnd ha
 . intro x hx _;simpa using hx
end Go.Slot
