/- The proof, part P15: Sh, Xc, Xg, Xe, T4, Un, Xf, Gf, Si, Sj, Sk, Sr, Ss, Qe, Qf, Qh, Qk, Gp, Gq, St, Su, Sl, Sv, T5, Ja, Jb. -/
import Derived.Test.YtmegdbbbllffkaaGreatP14
import Derived.Test.YtmegdbbbllffkaaGreatP12
import Derived.Test.YtmegdbbbllffkaaGreatP11
import Derived.Test.YtmegdbbbllffkaaGreatP4
import Derived.WalkKit
import Derived.ProofKit
import Derived.OpenShut
import Derived.JoinedCond
import Derived.ChangeBook
import Derived.ChangeStays
namespace Go.Hp.T
open Go Go.RowKit Go.Slot Go.Hp Go.Slot.T
open Go.Proofs.Tryz (prog)
set_option maxRecDepth 10000
set_option maxHeartbeats 4000000
variable {Γ:List (Nat×List Cell)}
variable {o:Int} {B:Nat}
def tbH:Option Tb->List HC
 | none=>[.dat (cS ⟨⟨[]⟩⟩),.dat (cS ⟨⟨[]⟩⟩),.dat .zc]
 | some t=>(tbC t).map .dat
structure OpF (T:Vt) (o:Int) (lk:Option Tb) (ks:List Kn) (b2:Bool) (O:Kr):Prop where
 e11:b2=true->lk=none->O=.inl 11
 e13:(b2=true->lk.isSome=true)->(∃ j,j<ks.length/\(ks.getD j default).t≠ze4 o)->O=.inl 13
 log:b2=false->ze4 o=true->(∀ j,j<ks.length->(ks.getD j default).t=true)->O=.inr (truH o (ks.getD 0 default) (ks.getD 1 default))
 look:∀ t,b2=true->lk=some t->(∀ j,j<ks.length->(ks.getD j default).t=false)->O=x7a t (ks.getD 0 default).v
 num:b2=false->ze4 o=false->(∀ j,j<ks.length->(ks.getD j default).t=false)->O=numH o (ks.getD 0 default).v (ks.getD 1 default).v
theorem vpr {T:Vt} {s:ByteArray} {ks:List Kn} (_ho:2<=o/\o<=15) (_h3:o≠3) (_h5:o≠5):OpF T o (ycr T s) ks (decide (o=2)) (opH T o s ks):=by
 have hany:(∀ j,j<ks.length->(ks.getD j default).t=ze4 o)->ks.any (fun k=>!(k.t==ze4 o))=false:=fun h=>by
  rw [List.any_eq_false];intro k hk;obtain ⟨i,hi,rfl⟩:=List.getElem_of_mem hk
  have:=h i hi
  rw [show ks.getD i default=ks[i] by simp [hi]] at this;simp [this]
 have h2l:decide (o=2)=true->ze4 o=false:=fun h=>by rw [of_decide_eq_true h];rfl
 unfold opH;refine ⟨fun h1 h2=>?_,fun h1 h2=>?_,fun h1 h2 h6=>?_,fun t h1 h2 h6=>?_,fun h1 h2 h6=>?_⟩
 . rw [h1,h2];rfl
 . have:(decide (o=2)&&!(ycr T s).isSome)=false:=by
    cases hd:decide (o=2) with
    | false=>rfl
    | true=>rw [h1 hd];rfl
   obtain ⟨j,hj,hne⟩:=h2;rw [this,show ks.any (fun k=>!(k.t==ze4 o))=true from List.any_eq_true.2 ⟨_,w4t hj,by simpa using hne⟩];rfl
 . rw [h1,hany (fun j hj=>(h6 j hj).trans h2.symm),h2];rfl
 . rw [h1,h2,hany (fun j hj=>(h6 j hj).trans (h2l h1).symm),h2l h1];rfl
 . rw [h1,hany (fun j hj=>(h6 j hj).trans h2.symm),h2];rfl
theorem x97 (o:Int) (ks:List Kn) (ho:ze4 o=true) (hl:ks.length<=1073741824) (h0:0<ks.length) (h1:o≠4->ks.length=2) (ha:∀ j,j<ks.length->(ks.getD j default).t=true) :
 CallsD Γ prog 101 [.one (cI o),.one (.sl 11 (ks.map Kn.C))] (.agg (knC (truH o (ks.getD 0 default) (ks.getD 1 default)))):=by
 have t0:=ha 0 h0
 cases hk0:ks.getD 0 default with
 | num v=>rw [hk0] at t0;cases t0
 | tru c d=>
  by_cases h4:o=4
  . have:=x82 (Γ:=Γ) o ks ho c d false false h0 (fun h=>absurd h4 h) hl hk0 (fun h=>absurd h4 h)
    subst h4;exact this
  . have hl2:=h1 h4;have t1:=ha 1 (by omega)
    cases hk1:ks.getD 1 default with
    | num v=>rw [hk1] at t1;cases t1
    | tru c' d'=>exact x82 o ks ho c d c' d' h0 (fun _=>by omega) hl hk0 (fun _=>hk1)
theorem x56 {a b c:Bool} (h1:decide (o=4)=a) (h2:decide (o=14)=b) (h3:decide (o=15)=c):ze4 o=(a||b||c):=by unfold ze4;rw [h1,h2,h3]
theorem yk3 (hB:4300<=B) (V:Vi) (T:Vt) (hV:Ism B V) (hT:∀ s t,ycr T s=some t->t.Sm/\tbOk t=true):∀ x:Ex,x.Sm->x.shaped=true->x.xi4=false->B*x.nd<=33554400->vfe Γ prog 61 [mI V,mB T] [.agg [.mp 0,.mp 1],.agg ((exC x).map .dat)] [mI V,mB T] (krV (x.hul V T)):=by
 refine Ex.ind (fun x ih hx hsh hcl hnd=>?_);have hl:=hx.len;have hul:=Ex.y5j V T x
 have hnode:yxn x=true:=by rw [Ex.xg3,Bool.and_eq_true] at hsh;exact hsh.1
 have hargs:∀ y∈x.args,y.shaped=true:=by rw [Ex.xg3,Bool.and_eq_true,List.all_eq_true] at hsh;exact hsh.2
 have hcalls:x.op≠3/\∀ y∈x.args,y.xi4=false:=by
  rw [Ex.wd9,Bool.or_eq_false_iff,decide_eq_false_iff_not,List.any_eq_false] at hcl;exact ⟨hcl.1,fun y hy=>by simpa using hcl.2 y hy⟩
 have hnds:∀ y∈x.args,B*y.nd<=33554400:=fun y hy=>Nat.le_trans (Nat.mul_le_mul_left _ (by have:=Ex.xks hy;have:=Ex.yuy x;omega)) hnd
 have hok:∀ y∈x.args,Kok 33554400 (y.hul V T):=fun y hy=>(zfk hB hV hT y (hargs y hy) (hcalls.2 y hy)).mono (hnds y hy)
 by_cases h0:x.op=0
 . rw [decide_eq_true h0,cond_true] at hul;have hn:=zta hnode h0;have hlf:=zpn (Γ:=Γ) V T x hx (by unfold inI;omega) h0;rw [hul];refine vfe.run [] Go.Proofs.Tryz.func61 rfl rfl ?_;simp only [Go.Proofs.Tryz.f61];refine hgR ?_
   repeat' ((first | refine hfk ?_ ?_<;>intros | refine hik ?_)<;>refine hgS ?_)
   all_goals try (exfalso;omega)
   all_goals
    rw [show cI 0=cI x.op by rw [h0]];refine xwg (vfe.pre hlf (xa8 V T) rfl rfl) ?_;refine hg ?_;exact StH.zx4 rfl (by kernel_rfl) rfl
 rw [decide_eq_false h0,cond_false] at hul;by_cases h1:x.op=1
 . rw [decide_eq_true h1,cond_true] at hul;have hlf:=wpi (Γ:=Γ) V T x h1;rw [hul];refine vfe.run [] Go.Proofs.Tryz.func61 rfl rfl ?_;simp only [Go.Proofs.Tryz.f61];refine hgR ?_
   repeat' ((first | refine hfk ?_ ?_<;>intros | refine hik ?_)<;>refine hgS ?_)
   all_goals try (exfalso;omega)
   all_goals
    rw [show cI 1=cI x.op by rw [h1]];refine xwg (vfe.pre hlf (xa8 V T) rfl rfl) ?_;refine hg ?_;exact StH.zx4 rfl (by kernel_rfl) rfl
 rw [decide_eq_false h1,cond_false] at hul;obtain ⟨o1,o2,a1,a2,a3⟩:=xab hnode hcalls.1 h0 h1;by_cases h5:x.op=5
 . rw [decide_eq_true h5,cond_true] at hul;have hl3:=a2 h5
   have hm:=fun i (hi:i<3)=>w4t (show i<x.args.length by omega)
   have hev:=fun i (hi:i<3)=>ih _ (hm i hi) (hx.arg _ (hm i hi)) (hargs _ (hm i hi)) (hcalls.2 _ (hm i hi)) (hnds _ (hm i hi))
   rw [hul,getD_map (show 0<x.args.length by omega),getD_map (show 1<x.args.length by omega),getD_map (show 2<x.args.length by omega)];have hch:=zvv (Γ:=Γ) V T x (by omega) hl _ _ _ ((hok _ (hm 0 (by decide))).mono (by decide)) ((hok _ (hm 1 (by decide))).mono (by decide)) ((hok _ (hm 2 (by decide))).mono (by decide)) (hev 0 (by decide)) (hev 1 (by decide)) (hev 2 (by decide));refine vfe.run [] Go.Proofs.Tryz.func61 rfl rfl ?_;simp only [Go.Proofs.Tryz.f61];refine hgR ?_
   repeat' ((first | refine hfk ?_ ?_<;>intros | refine hik ?_)<;>refine hgS ?_)
   all_goals try (exfalso;omega)
   all_goals
    rw [show cI 5=cI x.op by rw [h5]];refine xwg (vfe.pre hch (xa8 V T) rfl rfl) ?_;refine hg ?_;exact StH.zx4 rfl (by kernel_rfl) rfl
 rw [decide_eq_false h5,cond_false] at hul;rw [hul];clear hul hnd hV;generalize hS:seqH (x.args.map (Ex.hul V T))=S;refine vfe.run [] Go.Proofs.Tryz.func61 rfl rfl ?_;simp only [Go.Proofs.Tryz.f61];refine hgR ?_
 repeat' ((first | refine hfk ?_ ?_<;>intros | refine hik ?_)<;>refine hgS ?_)
 all_goals try (exfalso;omega)
 refine y55 [2,3,4,5,34,35] (fun p:Nat×List Kn=>[(6,.one (.sl 5 11 0 p.2.length)),(36,.one (.dat (cI p.1)))])
  (fun p=>[mI V,mB T,.box [.mp 0,.mp 1] (some 126),.box ((exC x).map .dat) (some 24),.box ((krZ false false false).map .dat) (some 89),.arr (.sl 11 (p.2.map Kn.C)) 0 (some 89)])
  (fun p=>p.1<=x.args.length/\p.2.length=p.1/\(∀ k∈p.2,Kok 33554400 (.inr k))/\S=match seqH ((x.args.drop p.1).map (Ex.hul V T)) with
    | .inl e=>.inl e
    | .inr r=>.inr (p.2++r)) (fun p=>x.args.length-p.1) (0,[]) ⟨Nat.zero_le _,rfl,fun r hr=>(by cases hr),by simp only [List.drop_zero,List.nil_append];rw [hS];cases S<;>rfl⟩ ?_ ?_
 . refine hg ?_;refine StH.trans (StH.empty (d:=6) (es:=11) (c:=.sl 11 []) (T:=some 89) rfl rfl (fun r hr=>by cases hr) rfl) ?_;refine hg ?_;exact StH.same svl rfl
 clear hS;rintro ⟨i,ks⟩ ⟨q1,q2,q3,q4⟩;simp only at q1 q2 q3 q4;refine hg ?_;refine vnx (fun hlt _=>?_) (fun hlt _=>?_)
 . have hlt':i<x.args.length:=by omega
   have hy:=w4t hlt';rw [xqz hlt',List.map_cons] at q4;have hky:=hok _ hy;refine hg ?_;refine xwg (vfe.pre (ih _ hy (hx.arg _ hy) (hargs _ hy) (hcalls.2 _ hy) (hnds _ hy)) (xa8 V T) rfl rfl) ?_;clear ih hok;generalize hr:Ex.hul V T (x.args.getD i default)=r at q4 hky ⊢
   rcases r with e | k
   . have he:¬e=0:=hky;rw [seqH] at q4;have q4':S=.inl e:=q4;rw [q4'];refine hg ?_
     repeat' ((first | refine hfk ?_ ?_<;>intros | refine hik ?_)<;>refine hgS ?_)
     all_goals first
      | (exfalso;omega)
      | exact StH.krE rfl (by kernel_rfl) rfl rfl
   . rw [seqH] at q4
     have q4':S=match seqH ((x.args.drop (i+1)).map (Ex.hul V T)) with
      | .inl e=>.inl e
      | .inr r=>.inr ((ks++[k])++r):=by
      rw [q4]
      cases seqH ((x.args.drop (i+1)).map (Ex.hul V T)) with
      | inl e=>rfl
      | inr r=>simp only [List.append_assoc,List.singleton_append]
     clear q4
     have hmap:ks.map Kn.C++[knC k]=(ks++[k]).map Kn.C:=by simp;rfl
     refine hg ?_
     repeat' ((first | refine hfk ?_ ?_<;>intros | refine hik ?_)<;>refine hgS ?_)
     all_goals try (exfalso;omega)
     rw [hmap]
     refine ⟨(i+1,ks++[k]),⟨by dsimp only;omega,by dsimp only;rw [List.length_append,List.length_singleton,q2],fun r hr'=>by
      rcases List.mem_append.1 hr' with h | h
      . exact q3 r h
      . rw [List.mem_singleton.1 h];exact hky,q4'⟩,by dsimp only;omega,?_⟩
     refine StH.xuw [2,3,4,5,6,34,35,36] 5 8 6 rfl rfl rfl rfl rfl rfl rfl (by kernel_rfl) ?_;refine hg ?_;exact StH.same svl rfl
 . have q4':S=.inr ks:=by rw [q4,List.drop_eq_nil_of_le (by omega)];show (match seqH [] with | .inl e=>Sum.inl e | .inr r=>Sum.inr (ks++r))=_;rw [seqH];simp only [List.append_nil]
   rw [q4'];clear q4 q4' ih hok
   have hlen:ks.length=x.args.length:=by omega
   have hlen0:0<ks.length:=by omega
   have hO:zj9 T x.op x.name (.inr ks)=opH T x.op x.name ks:=rfl;rw [hO];clear hO;have hop:=vpr (T:=T) (s:=x.name) (ks:=ks) ⟨o1,o2⟩ hcalls.1 h5;generalize hO:opH T x.op x.name ks=O at hop ⊢;clear hO
   have l1:=fun h=>(hlen.trans (a1 h))
   have l2:=fun p q=>hlen.trans (a3 p q h5)
   clear a1 a2 a3;obtain ⟨tbx,htb⟩:∃ tbx,tbx=tbH (ycr T x.name):=⟨_,rfl⟩;obtain ⟨b2,e2⟩:∃ b,decide (x.op=2)=b:=⟨_,rfl⟩;obtain ⟨b4,e4⟩:∃ b,decide (x.op=4)=b:=⟨_,rfl⟩;obtain ⟨b14,e14⟩:∃ b,decide (x.op=14)=b:=⟨_,rfl⟩;obtain ⟨b15,e15⟩:∃ b,decide (x.op=15)=b:=⟨_,rfl⟩
   cases b2<;>cases b4<;>cases b14<;>cases b15
   all_goals
    have f2:=e2;have f4:=e4;have f14:=e14;have f15:=e15;simp only [decide_eq_true_eq,decide_eq_false_iff_not] at f2 f4 f14 f15
    first
     | (exfalso;omega)
     | clear f2 f4 f14 f15
   all_goals
    cases hlk:ycr T x.name
    all_goals
     rw [hlk] at hop htb;rw [e2] at hop
     conv=>simp (maxSteps:=2000000) (disch:=omega) only [go_sem,Nat.reduceAdd,Nat.reduceSub,Nat.reduceMul,Int.reduceToNat,Nat.reduceEqDiff,Nat.reduceBEq,Nat.reduceBneDiff,Nat.reduceLT,Int.reduceEq,Int.reduceLT,Int.reduceLE,Int.reduceNeg,Int.reduceAdd,Int.reduceSub,Int.reduceMul,hlk,e2,e4,e14,e15]
     repeat' ((first | refine hfk ?_ ?_<;>intros | refine hik ?_)<;>refine hgS ?_)
     all_goals first
      | exact StH.krE rfl (by kernel_rfl) rfl (hop.e11 rfl rfl)
      | skip
   all_goals
    have el:=x56 e4 e14 e15;simp only [Bool.or_self,Bool.or_true,Bool.or_false] at el;refine y55 [2,3,4,5,6,11,12,13,84,85] (fun n:Nat=>[(86,.one (.dat (cI n)))])
     (fun _=>[mI V,mB T,.box [.mp 0,.mp 1] (some 126),.box ((exC x).map .dat) (some 24),.box ((krZ false false false).map .dat) (some 89),.arr (.sl 11 (ks.map Kn.C)) 0 (some 89),.box tbx (some 122)])
     (fun n=>n<=ks.length/\∀ j,j<n->(ks.getD j default).t=ze4 x.op) (fun n=>ks.length-n) 0 ⟨Nat.zero_le _,fun j hj=>absurd hj (Nat.not_lt_zero _)⟩ ?_ ?_
    . refine hg ?_;exact StH.same svl (by rw [htb];rfl)
    rintro n ⟨n1,n2⟩;refine hg ?_;refine vnx (fun hlt _=>?_) (fun hlt _=>?_)
    . have hlt':n<ks.length:=by omega
      refine hg ?_
      repeat' ((first | refine hfk ?_ ?_<;>intros | refine hik ?_)<;>refine hgS ?_)
      . rename_i ht;exact StH.krE rfl (by kernel_rfl) rfl (hop.e13 (fun h=>by first | rfl | cases h) ⟨n,hlt',fun h=>by rw [ht,el] at h;cases h⟩)
      . rename_i ht;refine ⟨n+1,⟨by omega,xrx (by first | exact n2 | (rw [<-el];exact n2)) ht⟩,by omega,?_⟩;subst htb;refine StH.xuw [2,3,4,5,6,11,12,13,84,85,86] 2 2 7 rfl rfl rfl rfl rfl rfl rfl (by kernel_rfl) ?_;refine hg ?_;exact StH.same svl rfl
    . have hall : ∀ j, j < ks.length → (ks.getD j default).t = ze4 x.op := fun j hj => n2 j (by omega)
      rw [el] at hall;clear n2;have hz0:=q3 _ (w4t (show 0<ks.length by omega));subst htb
      first
       | (have hO:=hop.log rfl el hall
          have hk:=x97 (Γ:=Γ) x.op ks el (by omega) hlen0 (l2 (of_decide_eq_false e2)) hall;rw [hO];refine hg1 @e2 ?_
          repeat' ((first | refine hfk ?_ ?_<;>intros | refine hik ?_ | with_reducible first | refine hcA ?_ | refine hcB ?_)<;>refine hgS ?_)
          exact StH.zx4 rfl (by kernel_rfl) rfl)
       | (have hO:=hop.look _ rfl rfl hall
          have ht0:=hall 0 hlen0
          cases hk0:ks.getD 0 default with
          | tru c d=>rw [hk0] at ht0;cases ht0
          | num v=>
           rw [hk0] at hz0 hO;have hz0:ivZ v<=33554400:=hz0;obtain ⟨hm1,hm2⟩:=hT _ _ hlk;have hk:=vcn (Γ:=Γ) _ v (by omega) hm2 hm1;rw [hO];refine hg3 @e2 @hk0 @tbH.eq_def ?_
           repeat' ((first | refine hfk ?_ ?_<;>intros | refine hik ?_ | with_reducible first | refine hcA ?_ | refine hcB ?_)<;>refine hgS ?_)
           exact StH.zx4 rfl (by kernel_rfl) rfl)
       | (have hO:=hop.num rfl el hall
          have h24:x.op≠2/\x.op≠4/\x.op≠14/\x.op≠15:=⟨of_decide_eq_false e2,of_decide_eq_false e4,of_decide_eq_false e14,of_decide_eq_false e15⟩;have hl2:=l2 h24.1 h24.2.1;have ht0:=hall 0 hlen0;have ht1:=hall 1 (by omega);have hz1:=q3 _ (w4t (show 1<ks.length by omega))
          cases hk0:ks.getD 0 default with
          | tru c d=>rw [hk0] at ht0;cases ht0
          | num v=>cases hk1:ks.getD 1 default with
           | tru c d=>rw [hk1] at ht1;cases ht1
           | num w=>
            rw [hk0] at hz0 hO;rw [hk1] at hz1 hO;have hk:=zb8 (Γ:=Γ) x.op (by omega) v w hz0 hz1;rw [hO];clear h24;refine hg3 @e2 @hk0 @hk1 ?_
            repeat' ((first | refine hfk ?_ ?_<;>intros | refine hik ?_ | with_reducible first | refine hcA ?_ | refine hcB ?_)<;>refine hgS ?_)
            exact StH.zx4 rfl (by kernel_rfl) rfl)
theorem wtq (o:Int) (ks:List Kn) (ho:ze4 o=true) (hl:ks.length<=1073741824) (h0:0<ks.length) (h1:o≠4->ks.length=2) (ha:∀ j,j<ks.length->(ks.getD j default).t=true) :
 CallsD Γ prog 111 [.one (cI o),.one (.sl 11 (ks.map Kn.C))] (.agg (knC (truH o (ks.getD 0 default) (ks.getD 1 default)))):=by
 have t0:=ha 0 h0
 cases hk0:ks.getD 0 default with
 | num v=>rw [hk0] at t0;cases t0
 | tru c d=>
  by_cases h4:o=4
  . have:=x18 (Γ:=Γ) o ks ho c d false false h0 (fun h=>absurd h4 h) hl hk0 (fun h=>absurd h4 h)
    subst h4;exact this
  . have hl2:=h1 h4;have t1:=ha 1 (by omega)
    cases hk1:ks.getD 1 default with
    | num v=>rw [hk1] at t1;cases t1
    | tru c' d'=>exact x18 o ks ho c d c' d' h0 (fun _=>by omega) hl hk0 (fun _=>hk1)
theorem yrq (hB:4300<=B) (zs:List Zn) (ms:List Tb) (V:Vi) (T:Vt) (hb:ZnOk zs V) (hm:ms.length<=1073741824) (hV:Ism B V) (hT:∀ s,ycr T s=fnd Tb.name ms s) (hTs:∀ s t,ycr T s=some t->t.Sm/\tbOk t=true):∀ x:Ex,x.Sm->x.shaped=true->x.xi4=false->B*x.nd<=33554400->CallsD Γ prog 66 [.agg (exC x),.one (.sl 9 (zs.map Zn.C)),.one (.sl 3 (ms.map Tb.C))] (krR (x.hul V T)):=by
 refine Ex.ind (fun x ih hx hsh hcl hnd=>?_);have hl:=hx.len;have hul:=Ex.y5j V T x
 have hnode:yxn x=true:=by rw [Ex.xg3,Bool.and_eq_true] at hsh;exact hsh.1
 have hargs:∀ y∈x.args,y.shaped=true:=by rw [Ex.xg3,Bool.and_eq_true,List.all_eq_true] at hsh;exact hsh.2
 have hcalls:x.op≠3/\∀ y∈x.args,y.xi4=false:=by
  rw [Ex.wd9,Bool.or_eq_false_iff,decide_eq_false_iff_not,List.any_eq_false] at hcl;exact ⟨hcl.1,fun y hy=>by simpa using hcl.2 y hy⟩
 have hnds:∀ y∈x.args,B*y.nd<=33554400:=fun y hy=>Nat.le_trans (Nat.mul_le_mul_left _ (by have:=Ex.xks hy;have:=Ex.yuy x;omega)) hnd
 have hok:∀ y∈x.args,Kok 33554400 (y.hul V T):=fun y hy=>(zfk hB hV hTs y (hargs y hy) (hcalls.2 y hy)).mono (hnds y hy)
 have hih:∀ y∈x.args,CallsD Γ prog 66 [.agg (exC y),.one (.sl 9 (zs.map Zn.C)),.one (.sl 3 (ms.map Tb.C))] (krR (y.hul V T)):=fun y hy=>ih y hy (hx.arg y hy) (hargs y hy) (hcalls.2 y hy) (hnds y hy)
 have hsm:∀ y∈x.args,∀ c d,y.hul V T=.inr (.tru c d)->c=true\/d=true:=fun y hy c d h=>v4q y (hargs y hy) (hcalls.2 y hy) _ h
 clear ih;by_cases hne:x.args.length=0
 . have h01:x.op=0\/x.op=1:=by
    unfold yxn at hnode;by_cases h0:x.op=0
    . exact .inl h0
    by_cases h1:x.op=1
    . exact .inr h1
    rw [decide_eq_false h0,decide_eq_false h1,hne] at hnode;simp [hcalls.1] at hnode
   have hin:inI x.n:=by
    rcases h01 with h | h
    . have:=zta hnode h;unfold inI;omega
    . have:x.n=0:=by
       unfold yxn at hnode;rw [h] at hnode;simp at hnode;exact hnode.1.1
      rw [this];decide
   have hlf:=xnz (Γ:=Γ) x zs V hx hb h01 hin
   have e:x.hul V T=bif decide (x.op=0) then vlw x.n x.unit else yy3 V x.name:=by
    rw [hul]
    rcases h01 with h | h
    . rw [decide_eq_true h];rfl
    . rw [decide_eq_true h,decide_eq_false (by omega)];rfl
   rw [e];generalize (bif decide (x.op=0) then vlw x.n x.unit else yy3 V x.name)=r at hlf
   have hne':(x.args.length:Int)=0:=by omega
   refine CallsD.run [] Go.Proofs.Tryz.func66 rfl rfl rfl ?_;simp only [Go.Proofs.Tryz.f66];refine hgR ?_
   repeat' ((first | refine hfk ?_ ?_<;>intros | refine hik ?_ | with_reducible first | refine hcA ?_ | refine hcB ?_)<;>refine hgS ?_)
   all_goals first
    | (exfalso;omega)
    | exact RLe.ofEq rfl
 have h0:¬x.op=0:=fun h0=>by
  unfold yxn at hnode;rw [decide_eq_true h0,decide_eq_false (show ¬(x.args.length:Int)=0 by omega)] at hnode;simp at hnode
 have h1:¬x.op=1:=fun h1=>by
  unfold yxn at hnode;rw [decide_eq_false h0,decide_eq_true h1,decide_eq_false (show ¬(x.args.length:Int)=0 by omega)] at hnode;simp at hnode
 rw [decide_eq_false h0,decide_eq_false h1,cond_false,cond_false] at hul;obtain ⟨o1,o2,a1,a2,a3⟩:=xab hnode hcalls.1 h0 h1;by_cases h5:x.op=5
 . rw [decide_eq_true h5,cond_true] at hul;have hl3:=a2 h5
   have hm3:=fun i (hi:i<3)=>w4t (show i<x.args.length by omega)
   rw [hul,getD_map (show 0<x.args.length by omega),getD_map (show 1<x.args.length by omega),getD_map (show 2<x.args.length by omega)];have hch:=zb0 (Γ:=Γ) x (.sl 9 (zs.map Zn.C)) (.sl 3 (ms.map Tb.C)) (by omega) hl _ _ _ ((hok _ (hm3 0 (by decide))).mono (by decide)) ((hok _ (hm3 1 (by decide))).mono (by decide)) ((hok _ (hm3 2 (by decide))).mono (by decide)) (hsm _ (hm3 0 (by decide))) (hih _ (hm3 0 (by decide))) (hih _ (hm3 1 (by decide))) (hih _ (hm3 2 (by decide)));generalize chH (Ex.hul V T (x.args.getD 0 default)) (Ex.hul V T (x.args.getD 1 default)) (Ex.hul V T (x.args.getD 2 default))=r at hch
   have hch:CallsD Γ prog 109 [.agg [cI 5,cI x.n,cS x.unit,cS x.name,.sl 5 (x.args.map Ex.cells)],.one (.sl 9 (zs.map Zn.C)),.one (.sl 3 (ms.map Tb.C))] (krR r):=by rw [<-h5];exact hch
   clear hih hok hsm;refine CallsD.run [] Go.Proofs.Tryz.func66 rfl rfl rfl ?_;simp only [Go.Proofs.Tryz.f66];refine hgR ?_
   repeat' ((first | refine hfk ?_ ?_<;>intros | refine hik ?_ | with_reducible first | refine hcA ?_ | refine hcB ?_)<;>refine hgS ?_)
   all_goals first
    | (exfalso;omega)
    | exact RLe.ofEq rfl
 rw [decide_eq_false h5,cond_false] at hul;rw [hul];clear hul hnd hV hsm;generalize hS:seqH (x.args.map (Ex.hul V T))=S;refine CallsD.run [] Go.Proofs.Tryz.func66 rfl rfl rfl ?_;simp only [Go.Proofs.Tryz.f66];refine hgR ?_
 repeat' ((first | refine hfk ?_ ?_<;>intros | refine hik ?_)<;>refine hgS ?_)
 all_goals try (exfalso;omega)
 refine y55 [1,2,3,6] (fun p:Nat×List Kn=>[(12,.one (.sl 2 11 0 p.2.length)),(13,.one (.dat (cI p.1)))])
  (fun p=>[.box ((exC x).map .dat) (some 24),.box ((krZ false false false).map .dat) (some 94),.arr (.sl 11 (p.2.map Kn.C)) 0 (some 94)])
  (fun p=>p.1<=x.args.length/\p.2.length=p.1/\(∀ k∈p.2,Kok 33554400 (.inr k))/\S=match seqH ((x.args.drop p.1).map (Ex.hul V T)) with
    | .inl e=>.inl e
    | .inr r=>.inr (p.2++r)) (fun p=>x.args.length-p.1) (0,[]) ⟨Nat.zero_le _,rfl,fun r hr=>(by cases hr),by simp only [List.drop_zero,List.nil_append];rw [hS];cases S<;>rfl⟩ ?_ ?_
 . refine hg ?_;refine StH.trans (StH.empty (d:=12) (es:=11) (c:=.sl 11 []) (T:=some 94) rfl rfl (fun r hr=>by cases hr) rfl) ?_;refine hg ?_;exact StH.same svl rfl
 clear hS;rintro ⟨i,ks⟩ ⟨q1,q2,q3,q4⟩;simp only at q1 q2 q3 q4;refine hg ?_;refine vnx (fun hlt _=>?_) (fun hlt _=>?_)
 . have hlt':i<x.args.length:=by omega
   have hy:=w4t hlt';rw [xqz hlt',List.map_cons] at q4;have hky:=hok _ hy;have hc:=hih _ hy;clear hih hok;refine hg ?_;generalize hr:Ex.hul V T (x.args.getD i default)=r at q4 hky hc
   rcases r with e | k
   . have he:¬e=0:=hky;rw [seqH] at q4;have q4':S=.inl e:=q4;rw [q4'];refine v6l hc ?_;refine hg ?_
     repeat' ((first | refine hfk ?_ ?_<;>intros | refine hik ?_)<;>refine hgS ?_)
     all_goals first
      | (exfalso;omega)
      | exact xp8 e
   . rw [seqH] at q4
     have q4':S=match seqH ((x.args.drop (i+1)).map (Ex.hul V T)) with
      | .inl e=>.inl e
      | .inr r=>.inr ((ks++[k])++r):=by
      rw [q4]
      cases seqH ((x.args.drop (i+1)).map (Ex.hul V T)) with
      | inl e=>rfl
      | inr r=>simp only [List.append_assoc,List.singleton_append]
     clear q4
     have hmap:ks.map Kn.C++[knC k]=(ks++[k]).map Kn.C:=by simp;rfl
     refine v6l hc ?_;refine hg ?_
     repeat' ((first | refine hfk ?_ ?_<;>intros | refine hik ?_)<;>refine hgS ?_)
     all_goals try (exfalso;omega)
     rw [hmap]
     refine ⟨(i+1,ks++[k]),⟨by dsimp only;omega,by dsimp only;rw [List.length_append,List.length_singleton,q2],fun r hr'=>by
      rcases List.mem_append.1 hr' with h | h
      . exact q3 r h
      . rw [List.mem_singleton.1 h];exact hky,q4'⟩,by dsimp only;omega,?_⟩
     refine StH.back [1,2,3,6,12,13] 2 4 3 rfl rfl rfl rfl rfl (by kernel_rfl) ?_;refine hg ?_;exact StH.same svl rfl
 . have q4':S=.inr ks:=by rw [q4,List.drop_eq_nil_of_le (by omega)];show (match seqH [] with | .inl e=>Sum.inl e | .inr r=>Sum.inr (ks++r))=_;rw [seqH];simp only [List.append_nil]
   rw [q4'];clear q4 q4' hih hok
   have hlen:ks.length=x.args.length:=by omega
   have hlen0:0<ks.length:=by omega
   have hO:zj9 T x.op x.name (.inr ks)=opH T x.op x.name ks:=rfl;rw [hO];clear hO;have hop:=vpr (T:=T) (s:=x.name) (ks:=ks) ⟨o1,o2⟩ hcalls.1 h5;generalize hO:opH T x.op x.name ks=O at hop ⊢;clear hO
   have l1:=fun h=>(hlen.trans (a1 h))
   have l2:=fun p q=>hlen.trans (a3 p q h5)
   clear a1 a2 a3;have hf:=vdv (Γ:=Γ) ms x.name hm;rw [<-hT x.name] at hf;obtain ⟨tbx,htb⟩:∃ tbx,tbx=tbH (ycr T x.name):=⟨_,rfl⟩;obtain ⟨b2,e2⟩:∃ b,decide (x.op=2)=b:=⟨_,rfl⟩;obtain ⟨b4,e4⟩:∃ b,decide (x.op=4)=b:=⟨_,rfl⟩;obtain ⟨b14,e14⟩:∃ b,decide (x.op=14)=b:=⟨_,rfl⟩;obtain ⟨b15,e15⟩:∃ b,decide (x.op=15)=b:=⟨_,rfl⟩
   cases b2<;>cases b4<;>cases b14<;>cases b15
   all_goals
    have f2:=e2;have f4:=e4;have f14:=e14;have f15:=e15;simp only [decide_eq_true_eq,decide_eq_false_iff_not] at f2 f4 f14 f15
    first
     | (exfalso;omega)
     | clear f2 f4 f14 f15
   all_goals
    cases hlk:ycr T x.name
    all_goals
     rw [hlk] at hop hf htb;rw [e2] at hop;change CallsD _ _ _ _ (.tup [.agg (tbO _),.one (cB _)]) at hf;simp only [tbO,Option.isSome] at hf
     conv=>simp (maxSteps:=2000000) (disch:=omega) only [go_sem,Nat.reduceAdd,Nat.reduceSub,Nat.reduceMul,Int.reduceToNat,Nat.reduceEqDiff,Nat.reduceBEq,Nat.reduceBneDiff,Nat.reduceLT,Int.reduceEq,Int.reduceLT,Int.reduceLE,Int.reduceNeg,Int.reduceAdd,Int.reduceSub,Int.reduceMul,e2,e4,e14,e15]
     repeat' ((first | refine hfk ?_ ?_<;>intros | refine hik ?_ | with_reducible first | refine hcA ?_ | refine hcB ?_)<;>refine hgS ?_)
     all_goals first
      | exact (hop.e11 rfl rfl)▸xp8 11
      | skip
   all_goals
    have el:=x56 e4 e14 e15;simp only [Bool.or_self,Bool.or_true,Bool.or_false] at el;refine y55 [2,3,6,12,16,17] (fun n:Nat=>[(19,.one (.dat (cI n)))])
     (fun _=>[.box ((exC x).map .dat) (some 24),.box ((krZ false false false).map .dat) (some 94),.arr (.sl 11 (ks.map Kn.C)) 0 (some 94),.box tbx (some 122)])
     (fun n=>n<=ks.length/\∀ j,j<n->(ks.getD j default).t=ze4 x.op) (fun n=>ks.length-n) 0 ⟨Nat.zero_le _,fun j hj=>absurd hj (Nat.not_lt_zero _)⟩ ?_ ?_
    . refine hg ?_;exact StH.same svl (by rw [htb];rfl)
    rintro n ⟨n1,n2⟩;refine hg ?_;refine vnx (fun hlt _=>?_) (fun hlt _=>?_)
    . have hlt':n<ks.length:=by omega
      refine hg ?_
      repeat' ((first | refine hfk ?_ ?_<;>intros | refine hik ?_)<;>refine hgS ?_)
      . rename_i ht;exact (hop.e13 (fun h=>by first | rfl | cases h) ⟨n,hlt',fun h=>by rw [ht,el] at h;cases h⟩)▸xp8 13
      . rename_i ht;exact ⟨n+1,⟨by omega,xrx (by first | exact n2 | (rw [<-el];exact n2)) ht⟩,by omega,StH.same svl rfl⟩
    . have hall : ∀ j, j < ks.length → (ks.getD j default).t = ze4 x.op := fun j hj => n2 j (by omega)
      rw [el] at hall;clear n2;have hz0:=q3 _ (w4t (show 0<ks.length by omega));subst htb
      first
       | have hO:=hop.log rfl el hall
       | (have hO:=hop.look _ rfl rfl hall
          have ht0:=hall 0 hlen0
          cases hk0:ks.getD 0 default with
          | tru c d=>rw [hk0] at ht0;cases ht0
          | num v=>
           rw [hk0] at hz0 hO;have hz0:ivZ v<=33554400:=hz0;obtain ⟨hm1,hm2⟩:=hTs _ _ hlk;have hk:=w3i (Γ:=Γ) _ v (by omega) hm2 hm1;rw [hO]
           rcases x24 hm2 v with ⟨_,e⟩ | ⟨_,e⟩<;>rw [show (Kn.num v).v=v from rfl,e]<;>rw [e] at hk
           all_goals
            refine hg3 @e2 @hk0 @tbH.eq_def ?_
            repeat' ((first | refine hfk ?_ ?_<;>intros | refine hik ?_ | with_reducible first | refine hcA ?_ | refine hcB ?_)<;>refine hgS ?_)
            exact RLe.ofEq rfl)
       | (have hO:=hop.num rfl el hall
          have h24:x.op≠2/\x.op≠4/\x.op≠14/\x.op≠15:=⟨of_decide_eq_false e2,of_decide_eq_false e4,of_decide_eq_false e14,of_decide_eq_false e15⟩;have hl2:=l2 h24.1 h24.2.1;have ht0:=hall 0 hlen0;have ht1:=hall 1 (by omega);have hz1:=q3 _ (w4t (show 1<ks.length by omega))
          cases hk0:ks.getD 0 default with
          | tru c d=>rw [hk0] at ht0;cases ht0
          | num v=>cases hk1:ks.getD 1 default with
           | tru c d=>rw [hk1] at ht1;cases ht1
           | num w=>
            rw [hk0] at hz0 hO;rw [hk1] at hz1 hO;have hk:=z7n (Γ:=Γ) x.op (by omega) v w hz0 hz1;rw [hO];clear h24;change CallsD _ _ _ _ (krR (numH x.op (Kn.num v).v (Kn.num w).v)) at hk;generalize numH x.op (Kn.num v).v (Kn.num w).v=r at hk;refine hg3 @e2 @hk0 @hk1 ?_
            repeat' ((first | refine hfk ?_ ?_<;>intros | refine hik ?_ | with_reducible first | refine hcA ?_ | refine hcB ?_)<;>refine hgS ?_)
            exact RLe.ofEq rfl)
      all_goals
       have hk:=wtq (Γ:=Γ) x.op ks el (by omega) hlen0 (l2 (of_decide_eq_false e2)) hall;rw [hO];refine hg2 @e2 @q2 ?_
       repeat' ((first | refine hfk ?_ ?_<;>intros | refine hik ?_ | with_reducible first | refine hcA ?_ | refine hcB ?_)<;>refine hgS ?_)
       exact RLe.ofEq rfl
end Go.Hp.T
namespace Go.Hp.T
open Go Go.RowKit Go.Slot Go.Hp
set_option maxRecDepth 10000
theorem xc8 (x:Ex):xye x=yxn x:=by
 unfold xye yxn xyh isOp;by_cases h0:x.op=0
 . rw [decide_eq_true h0];rfl
 rw [decide_eq_false h0,cond_false,cond_false]
 cases hb:(decide (¬x.n=0)||decide (¬x.unit.size=0)) with
 | true=>rfl
 | false=>
  simp only [cond_false]
  have fin:∀ k:Int,0<k->(decide (x.name.size=0)&&decide (0<(x.args.length:Int))&&decide ((x.args.length:Int)=k))=(decide (x.name.size=0)&&decide ((x.args.length:Int)=k)):=fun k hk=>by
   by_cases h:(x.args.length:Int)=k
   . rw [decide_eq_true (show 0<(x.args.length:Int) by omega),Bool.and_true]
   . rw [decide_eq_false h,Bool.and_false,Bool.and_false]
  by_cases h1:x.op=1
  . rw [h1];rfl
  by_cases h2:x.op=2
  . rw [h2];rfl
  by_cases h3:x.op=3
  . rw [h3];rfl
  by_cases h4:x.op=4
  . rw [h4];exact fin 1 (by decide)
  by_cases h5:x.op=5
  . rw [h5];exact fin 3 (by decide)
  by_cases h6:x.op=6
  . rw [h6];exact fin 2 (by decide)
  by_cases h7:x.op=7
  . rw [h7];exact fin 2 (by decide)
  by_cases h8:x.op=8
  . rw [h8];exact fin 2 (by decide)
  by_cases h9:x.op=9
  . rw [h9];exact fin 2 (by decide)
  by_cases h10:x.op=10
  . rw [h10];exact fin 2 (by decide)
  by_cases h11:x.op=11
  . rw [h11];exact fin 2 (by decide)
  by_cases h12:x.op=12
  . rw [h12];exact fin 2 (by decide)
  by_cases h13:x.op=13
  . rw [h13];exact fin 2 (by decide)
  by_cases h14:x.op=14
  . rw [h14];exact fin 2 (by decide)
  by_cases h15:x.op=15
  . rw [h15];exact fin 2 (by decide)
  simp [h1,h2,h3,h4,h5,h6,h7,h8,h9,h10,h11,h12,h13,h14,h15]
  try omega
theorem xq5:∀ x:Ex,x.rsh=x.shaped:=by
 refine Ex.ind (fun x ih=>?_);rw [Ex.xss,Ex.xg3,xc8]
 congr 1
 refine Bool.eq_iff_iff.2 ?_;rw [List.all_eq_true,List.all_eq_true];exact ⟨fun h y hy=>by rw [<-ih y hy];exact h y hy,fun h y hy=>by rw [ih y hy];exact h y hy⟩
theorem vzi:∀(x:Ex) (c d:Int),(x.cnt c d).1=decide (0<=x.rsz (200-c) (21-d))/\((x.cnt c d).1=true->(x.cnt c d).2=c+x.rsz (200-c) (21-d)):=by
 refine Ex.ind (fun x ih c d=>?_)
 have hL:∀ l:List Ex,(∀ z∈l,z∈x.args)->∀ c d k:Int,0<=k->(Ex.cntL l (c+k) (d+1)).1=decide (0<=Ex.rszL l (200-c) (21-d) k)/\((Ex.cntL l (c+k) (d+1)).1=true->(Ex.cntL l (c+k) (d+1)).2=c+Ex.rszL l (200-c) (21-d) k):=by
  intro l
  induction l with
  | nil=>intro _ c d k hk;rw [Ex.cntL,Ex.rszL];exact ⟨(decide_eq_true hk).symm,fun _=>rfl⟩
  | cons z l ihl=>
   intro hz c d k hk;obtain ⟨h1,h2⟩:=ih z (hz z (by simp)) (c+k) (d+1);rw [show (200:Int)-(c+k)=200-c-k by omega,show (21:Int)-(d+1)=21-d-1 by omega] at h1 h2;rw [Ex.cntL,Ex.rszL]
   cases hc:z.cnt (c+k) (d+1) with
   | mk b m=>
    rw [hc] at h1 h2;simp only at h1 h2;generalize z.rsz (200-c-k) (21-d-1)=r at h1 h2 ⊢
    cases b with
    | false=>
     have hr:r<0:=by
      have:=of_decide_eq_false h1.symm
      omega
     rw [decide_eq_true hr,cond_true];exact ⟨rfl,fun h=>by cases h⟩
    | true=>
     have hr:0<=r:=of_decide_eq_true h1.symm;rw [decide_eq_false (show ¬r<0 by omega),cond_false,h2 rfl];have h3:=ihl (fun w hw=>hz w (by simp [hw])) c d (k+r) (by omega);rw [show c+(k+r)=c+k+r by omega] at h3;exact h3
 rw [Ex.vrw,Ex.vj1];by_cases a1:200<c+1
 . rw [decide_eq_true a1,decide_eq_true (show 200-c<1 by omega)];exact ⟨rfl,fun h=>by cases h⟩
 . by_cases a2:20<d
   . rw [decide_eq_true a2,decide_eq_true (show 21-d<1 by omega),Bool.or_true,Bool.or_true];exact ⟨rfl,fun h=>by cases h⟩
   . rw [decide_eq_false a1,decide_eq_false a2,decide_eq_false (show ¬200-c<1 by omega),decide_eq_false (show ¬21-d<1 by omega)];exact hL x.args (fun z hz=>hz) c d 1 (by decide)
theorem y8f (x:Ex):ykf x=xub x:=by
 unfold ykf xub;rw [(vzi x 0 1).1,xq5];rfl
end Go.Hp.T
namespace Go.Hp.T
open Go Go.RowKit Go.Slot Go.Hp Go.Slot.T
open Go.Proofs.Tryz (prog)
set_option maxRecDepth 10000
set_option maxHeartbeats 4000000
variable {Γ:List (Nat×List Cell)}
variable {l:List ByteArray}
def strC (s:ByteArray):List Cell:=[cS s]
theorem zh3 (s:ByteArray):strC s=[cS s]:=rfl
attribute [go_sem] zh3
def okN (l:List ByteArray) (j:Nat):Prop:=isNamed (l.getD j default)=true/\∀ k,k<j->l.getD k default≠l.getD j default
theorem x0c:xfk l↔∀ j,j<l.length->okN l j:=by
 unfold xfk okN;constructor
 . rintro ⟨h1,h2⟩ j hj
   have e:l.getD j default=l[j]:=by simp [hj]
   refine ⟨by rw [e];exact h1 _ (List.getElem_mem hj),fun k hk=>?_⟩
   have e2:l.getD k default=l[k]:=by simp [show k<l.length by omega]
   rw [e,e2];exact List.pairwise_iff_getElem.1 h2 k j (by omega) hj hk
 . intro h;refine ⟨fun s hs=>?_,?_⟩
   . obtain ⟨j,hj,rfl⟩:=List.getElem_of_mem hs
     have:=(h j hj).1
     rwa [show l.getD j default=l[j] by simp [hj]] at this
   . refine List.pairwise_iff_getElem.2 (fun i j hi hj hij=>?_)
     have:=(h j hj).2 i hij
     rwa [show l.getD j default=l[j] by simp [hj],show l.getD i default=l[i] by simp [hi]] at this
theorem zgt {j:Nat} (hj:j<l.length) (h:¬okN l j):decide (xfk l)=false:=decide_eq_false (fun hg=>h (x0c.1 hg j hj))
theorem w0x (names:List ByteArray) (ms:List Tb) (hn:names.length<=1048576) (hm:ms.length<=1048576) (hns:∀ s∈names,s.size<=1073741824) (hms:∀ t∈ms,t.Sm):CallsD Γ prog 107 [.one (.sl 1 (names.map strC)),.one (.sl 3 (ms.map Tb.C))] (.one (cB (ms.all tbOk&&decide (xfk (names++ms.map Tb.name))))):=by
 generalize hR:(ms.all tbOk&&decide (xfk (names++ms.map Tb.name)))=R;refine CallsD.run [] Go.Proofs.Tryz.func107 rfl rfl rfl ?_;simp only [Go.Proofs.Tryz.f107];refine hgR ?_;refine y55 [1] (fun n:Nat=>[(5,.one (.sl 0 1 0 (names.length+n))),(6,.one (.dat (cI n)))]) (fun n=>[.arr (.sl 1 ((names++(ms.take n).map Tb.name).map strC)) 0 (some 9)])
  (fun n=>n<=ms.length/\∀ j,j<n->tbOk (ms.getD j default)=true) (fun n=>ms.length-n) 0 ⟨Nat.zero_le _,fun j hj=>by omega⟩ ?_ ?_
 . refine hg ?_;exact StH.same svl (by simp)
 rintro n ⟨hn,hj⟩
 have hlenA:(names++(ms.take n).map Tb.name).length=names.length+n:=by simp;omega
 refine hg ?_;refine vnx (fun hlt _=>?_) (fun hlt _=>?_)
 . have hlt':n<ms.length:=by omega
   have hy:=hms _ (w4t hlt');have hc:=w8f (Γ:=Γ) _ hy.n hy.u hy.r
   have hbad:tbOk (ms.getD n default)=false->R=false:=fun h=>by
    rw [<-hR,show ms.all tbOk=false by
     cases hall:ms.all tbOk with
     | false=>rfl
     | true=>rw [List.all_eq_true.1 hall _ (w4t hlt')] at h;cases h]
    rfl
   have ht:(names++(ms.take n).map Tb.name).map strC++[[cS (ms.getD n default).name]]=(names++(ms.take (n+1)).map Tb.name).map strC:=by
    rw [z4f hlt'];simp only [List.map_append,List.append_assoc,List.map_cons,List.map_nil];rfl
   have hl2:((names++(ms.take (n+1)).map Tb.name).map strC).length=names.length+(n+1):=by simp;omega
   clear hR
   cases hT:tbOk (ms.getD n default) with
   | false=>
    have hT':zi4 (fun s=>(zte s).2) (ms.getD n default)=false:=hT;rw [hbad hT];rw [hT'] at hc;clear hbad ht;refine hg ?_
    repeat' ((first | refine hfk ?_ ?_<;>intros | refine hik ?_ | with_reducible first | refine hcA ?_ | refine hcB ?_)<;>refine hgS ?_)
    exact RLe.ofEq rfl
   | true=>
    have hT':zi4 (fun s=>(zte s).2) (ms.getD n default)=true:=hT;rw [hT'] at hc;have hnext:=xf4 (p:=fun j=>tbOk (ms.getD j default)=true) hj hT;clear hbad hj hT hT';refine hg ?_
    repeat' ((first | refine hfk ?_ ?_<;>intros | refine hik ?_ | with_reducible first | refine hcA ?_ | refine hcB ?_)<;>refine hgS ?_)
    refine ⟨n+1,⟨by omega,hnext⟩,by omega,?_⟩
    try simp only [ht,hl2]
    exact StH.back [1,5,6] 0 1 1 rfl rfl rfl rfl rfl (by kernel_rfl) (StH.same svl rfl)
 . have e:n=ms.length:=by omega
   subst e
   have hall:ms.all tbOk=true:=by
    rw [List.all_eq_true];intro t ht;obtain ⟨j,hj',rfl⟩:=List.getElem_of_mem ht
    have:=hj j hj'
    rwa [show ms.getD j default=ms[j] from by simp [hj']] at this
   rw [hall,Bool.true_and] at hR;rw [List.take_length] at hlenA ⊢
   have hsz:∀ j,j<(names++ms.map Tb.name).length->((names++ms.map Tb.name).getD j default).size<=1073741824:=fun j hj=>by
    rcases List.mem_append.1 (w4t hj) with h | h
    . exact hns _ h
    . obtain ⟨t,ht,e⟩:=List.mem_map.1 h;rw [<-e];exact (hms t ht).n
   clear hall hj hns hms;generalize names++ms.map Tb.name=L at *;rw [<-hlenA]
   have hL:L.length<=2097152:=by omega
   clear hlenA;refine hg ?_;refine y55 [5] (fun j:Nat=>[(7,.one (.dat (cI j)))]) (fun _=>[.arr (.sl 1 (L.map strC)) 0 (some 9)]) (fun j=>j<=L.length/\∀ k,k<j->okN L k) (fun j=>L.length-j) 0 ⟨Nat.zero_le _,fun k hk=>by omega⟩ ?_ ?_
   . refine hg ?_;exact StH.same svl rfl
   rintro j ⟨hj,hk⟩;refine hg ?_;refine vnx (fun hlt _=>?_) (fun hlt _=>?_)
   . have hlt':j<L.length:=by omega
     have c1:=z2u (Γ:=Γ) (L.getD j default) (hsz j hlt');have c2:=x1b (Γ:=Γ) (L.getD j default)
     cases hN:isName (L.getD j default) with
     | false=>
      rw [hN] at c1;rw [<-hR,zgt hlt' (fun h'=>by have:=h'.1;unfold isNamed at this;rw [hN] at this;cases this)];clear hR;refine hg ?_
      repeat' ((first | refine hfk ?_ ?_<;>intros | refine hik ?_ | with_reducible first | refine hcA ?_ | refine hcB ?_)<;>refine hgS ?_)
      exact RLe.ofEq rfl
     | true=>cases hW:isWord (L.getD j default) with
      | true=>
       rw [hN] at c1;rw [hW] at c2;rw [<-hR,zgt hlt' (fun h'=>by have:=h'.1;unfold isNamed at this;rw [hN,hW] at this;cases this)];clear hR;refine hg ?_
       repeat' ((first | refine hfk ?_ ?_<;>intros | refine hik ?_ | with_reducible first | refine hcA ?_ | refine hcB ?_)<;>refine hgS ?_)
       exact RLe.ofEq rfl
      | false=>
       rw [hN] at c1;rw [hW] at c2
       have hnm:isNamed (L.getD j default)=true:=by unfold isNamed;rw [hN,hW];rfl
       clear hN hW;refine hg ?_
       repeat' ((first | refine hfk ?_ ?_<;>intros | refine hik ?_ | with_reducible first | refine hcA ?_ | refine hcB ?_)<;>refine hgS ?_)
       refine y55 [5,7] (fun k:Nat=>[(8,.one (.dat (cI k)))]) (fun _=>[.arr (.sl 1 (L.map strC)) 0 (some 9)]) (fun k=>k<=j/\∀ i,i<k->L.getD i default≠L.getD j default) (fun k=>j-k) 0 ⟨Nat.zero_le _,fun i hi=>by omega⟩ ?_ ?_
       . refine hg ?_;exact StH.same svl rfl
       rintro k ⟨hkj,hne⟩;refine hg ?_;refine vnx (fun hkl _=>?_) (fun hkl _=>?_)
       . refine hg ?_
         repeat' ((first | refine hfk ?_ ?_<;>intros | refine hik ?_)<;>refine hgS ?_)
         . rename_i h;rw [<-hR,zgt hlt' (fun h'=>h'.2 k (by omega) (xjh h))];exact RLe.ofEq rfl
         . rename_i h;exact ⟨k+1,⟨by omega,xf4 hne (fun e=>by rw [e,vw8] at h;cases h)⟩,by omega,StH.same svl rfl⟩
       . have hkj':k=j:=by omega
         have hok:okN L j:=⟨hnm,fun i hi=>hne i (by omega)⟩;have hnext:=xf4 (p:=okN L) hk hok;clear hne hok hk;refine hg ?_;exact ⟨j+1,⟨by omega,hnext⟩,by omega,StH.same svl rfl⟩
   . have hgd:xfk L:=x0c.2 (fun k hk'=>hk k (by omega));rw [<-hR,decide_eq_true hgd];refine hg ?_;exact RLe.ofEq rfl
theorem xuz (f:FuncId) (l:List SV):z0y (.clo f l)=l.flatMap vp6:=rfl
attribute [go_sem] xuz
theorem w3o {v:Iv}:(ivS v).low=qF (some v.lo):=_root_.id rfl
theorem wj9 {v:Iv}:(ivS v).high=qF (some v.hi):=_root_.id rfl
attribute [go_sem] w3o wj9
theorem xet (V:Vi) (T:Vt) (a d:SB) (b:Bool):StH Γ [] [SV.tup [.agg [.mp 1,.mp 2],.one (.dat (cB b))]] [a,mI V,mB T,d] [SV.tup [.agg [.mp 0,.mp 1],.one (.dat (cB b))]] [mI V,mB T]:=by
 have e1:swL 0 1 [a,mI V,mB T,d]=[mI V,swSB 0 1 a,mB T,swSB 0 1 d]:=by
  show [swSB 0 1 (mI V),swSB 0 1 a,swSB 0 1 (mB T),swSB 0 1 d]=_;rw [x5x,w2a]
 have e2:swL 1 2 [mI V,swSB 0 1 a,mB T,swSB 0 1 d]=[mI V,mB T,swSB 1 2 (swSB 0 1 a),swSB 1 2 (swSB 0 1 d)]:=by
  show [swSB 1 2 (mI V),swSB 1 2 (mB T),swSB 1 2 (swSB 0 1 a),swSB 1 2 (swSB 0 1 d)]=_;rw [x5x,w2a]
 have h1:=StH.xn1 (Γ:=Γ) (e:=[]) (I:=[SV.tup [.agg [.mp 1,.mp 2],.one (.dat (cB b))]]) (J:=[a,mI V,mB T,d]) (i:=0) (j:=1) (by decide) (by decide) (by simp) (by simp);have h2:=StH.xn1 (Γ:=Γ) (e:=[]) (I:=[SV.tup [.agg [.mp 0,.mp 2],.one (.dat (cB b))]]) (J:=[mI V,swSB 0 1 a,mB T,swSB 0 1 d]) (i:=1) (j:=2) (by decide) (by decide) (by simp) (by simp)
 have h3:=StH.cutB (Γ:=Γ) (e:=[]) (I:=[SV.tup [.agg [.mp 0,.mp 1],.one (.dat (cB b))]]) (J:=[mI V,mB T,swSB 1 2 (swSB 0 1 a),swSB 1 2 (swSB 0 1 d)]) 2 (by decide) (by
  unfold x2g;show (_&&([mI V,mB T].all fun x=>(z0y x).all fun b=>Nat.blt b 2))=true
  simp only [List.all_cons,wh2,y7o,List.all_nil];rfl)
 rw [e1] at h1;rw [e2] at h2;exact h1.trans (h2.trans h3)
def opnB:Option (Vi×Vt)->List SB
 | none=>[]
 | some p=>[mI p.1,mB p.2]
def opnR:Option (Vi×Vt)->SV
 | none=>.tup [.agg [.any,.any],.one (.dat (cB false))]
 | some _=>.tup [.agg [.mp 0,.mp 1],.one (.dat (cB true))]
theorem ys1 (zs:List Zn) (ms:List Tb) (hb:zs.length<=1073741824) (hm:ms.length<=1073741824) (hbs:∀ b∈zs,b.name.size<=1073741824/\b.s.sz<=67108864) (hms:∀ t∈ms,t.Sm) :
 vfe Γ prog 60 [] [.one (.dat (.sl 9 (zs.map Zn.C))),.one (.dat (.sl 3 (ms.map Tb.C)))] (opnB (entZ zs ms)) (opnR (entZ zs ms)):=by
 refine vfe.run [] Go.Proofs.Tryz.func60 rfl rfl ?_;simp only [Go.Proofs.Tryz.f60];refine hgR ?_;refine y55 [0,1,4,5,6,14,15] (fun p:Nat×Vi=>[(16,.one (.dat (cI p.1)))]) (fun p=>[.box [.dat (.raw (.map none)),.dat (.raw (.map none))] (some 126),mI p.2,mB [],.box [.mp 1,.mp 2] (some 126)])
  (fun p=>p.1<=zs.length/\rZ [] zs=rZ p.2 (zs.drop p.1)) (fun p=>zs.length-p.1) (0,[]) ⟨Nat.zero_le _,rfl⟩ ?_ ?_
 . refine hg ?_;exact StH.same svl rfl
 rintro ⟨i,V⟩ ⟨h1,h2⟩;simp only at h1 h2;refine hg ?_;refine vnx (fun hlt _=>?_) (fun hlt _=>?_)
 . have hlt':i<zs.length:=by omega
   have hy:=hbs _ (w4t hlt');rw [xqz hlt'] at h2
   have hbad:rZ [] zs=none->entZ zs ms=none:=fun h=>by unfold entZ entG;rw [show gE Zn.name (fun b=>decide b.s.ok) (fun b=>ivOf b.s) (fun _=>false) [] zs=none from h]
   have h2':rZ [] zs=bif ((ycr V (zs.getD i default).name).isSome||(ycr ([]:Vt) (zs.getD i default).name).isSome||!isName (zs.getD i default).name||isWord (zs.getD i default).name)||!decide (zs.getD i default).s.ok then none else rZ (updF V (zs.getD i default).name (ivOf (zs.getD i default).s)) (zs.drop (i+1)):=h2
   clear h2;refine hg ?_;refine xwg (vfe.ro [1,2] (y6m V [] (zs.getD i default).name hy.1) (xa8 V []) (by decide) rfl rfl) ?_;generalize ((ycr V (zs.getD i default).name).isSome||(ycr ([]:Vt) (zs.getD i default).name).isSome||!isName (zs.getD i default).name||isWord (zs.getD i default).name)=X at *;generalize zs.getD i default=b at *;obtain ⟨nm,v⟩:=b;simp only at hy h2';by_cases hok:v.ok
   . obtain ⟨q,rfl⟩:=x6c hok;have hr:CallsD Γ prog 18 [.agg (ivC q)] (.one (cB true)):=ymg q hy.2;rw [decide_eq_true hok,xjv] at h2';clear hok
     cases X with
     | true=>
      rw [hbad h2'];refine hg ?_
      repeat' ((first | refine hfk ?_ ?_<;>intros | refine hik ?_)<;>refine hgS ?_)
      exact wvc
     | false=>
      refine hg ?_
      repeat' ((first | refine hfk ?_ ?_<;>intros | refine hik ?_ | with_reducible first | refine hcA ?_ | refine hcB ?_)<;>refine hgS ?_)
      refine ⟨(i+1,updF V nm q),⟨by dsimp only;omega,by first | exact h2' | rfl⟩,by dsimp only;omega,?_⟩;refine StH.cutN [0,1,4,5,6,14,15,16] 4 rfl ?_ ?_
      . refine hg ?_;exact trivial
      exact StH.same svl rfl
   . have hr:CallsD Γ prog 18 [.agg (scC v)] (.one (cB false)):=by
      have:=toD (Γ:=Γ) (y28 v hy.2 hok)
      exact this
     rw [hbad (by rw [h2',decide_eq_false hok];cases X<;>rfl)];clear hbad h2' hok
     cases X with
     | true=>
      refine hg ?_
      repeat' ((first | refine hfk ?_ ?_<;>intros | refine hik ?_)<;>refine hgS ?_)
      exact wvc
     | false=>
      refine hg ?_
      repeat' ((first | refine hfk ?_ ?_<;>intros | refine hik ?_ | with_reducible first | refine hcA ?_ | refine hcB ?_)<;>refine hgS ?_)
      exact wvc
 . have hV:rZ [] zs=some V:=by rw [h2,List.drop_eq_nil_of_le (by omega)];rfl
   clear h2 h1 hlt hbs
   have hbad:rTi V [] ms=none->entZ zs ms=none:=fun h=>by
    unfold entZ entG;rw [show gE Zn.name (fun b=>decide b.s.ok) (fun b=>ivOf b.s) (fun _=>false) [] zs=some V from hV];show Option.map _ (rTi V [] ms)=none;rw [h];rfl
   have hgood:∀ T,rTi V [] ms=some T->entZ zs ms=some (V,T):=fun T h=>by
    unfold entZ entG;rw [show gE Zn.name (fun b=>decide b.s.ok) (fun b=>ivOf b.s) (fun _=>false) [] zs=some V from hV];show Option.map _ (rTi V [] ms)=_;rw [h];rfl
   clear hV;refine hg ?_;refine y55 [4,5,6,39,40] (fun p:Nat×Vt=>[(41,.one (.dat (cI p.1)))]) (fun p=>[.box [.dat (.raw (.map none)),.dat (.raw (.map none))] (some 126),mI V,mB p.2,.box [.mp 1,.mp 2] (some 126)])
    (fun p=>p.1<=ms.length/\rTi V [] ms=rTi V p.2 (ms.drop p.1)) (fun p=>ms.length-p.1) (0,[]) ⟨Nat.zero_le _,rfl⟩ ?_ ?_
   . refine hg ?_;exact StH.same svl rfl
   rintro ⟨j,T⟩ ⟨h1,h2⟩;simp only at h1 h2;refine hg ?_;refine vnx (fun hlt _=>?_) (fun hlt _=>?_)
   . have hlt':j<ms.length:=by omega
     have hy:=hms _ (w4t hlt');rw [xqz hlt'] at h2;have hr:=vv4 (Γ:=Γ) _ hy.n hy.u hy.r
     have h3:rTi V [] ms=bif ((ycr T (ms.getD j default).name).isSome||(ycr V (ms.getD j default).name).isSome||!isName (ms.getD j default).name||isWord (ms.getD j default).name)||!zi4 (fun s=>(zte s).2) (ms.getD j default) then none else rTi V (updF T (ms.getD j default).name (ms.getD j default)) (ms.drop (j+1)):=h2
     have h2':rTi V [] ms=bif ((ycr V (ms.getD j default).name).isSome||(ycr T (ms.getD j default).name).isSome||!isName (ms.getD j default).name||isWord (ms.getD j default).name)||!zi4 (fun s=>(zte s).2) (ms.getD j default) then none else rTi V (updF T (ms.getD j default).name (ms.getD j default)) (ms.drop (j+1)):=by
      rw [h3,Bool.or_comm (ycr T (ms.getD j default).name).isSome]
     clear h3 h2;refine hg ?_;refine xwg (vfe.ro [1,2] (y6m V T (ms.getD j default).name hy.n) (xa8 V T) (by decide) rfl rfl) ?_;clear hy;generalize ((ycr V (ms.getD j default).name).isSome||(ycr T (ms.getD j default).name).isSome||!isName (ms.getD j default).name||isWord (ms.getD j default).name)=X at *;generalize zi4 (fun s=>(zte s).2) (ms.getD j default)=Y at *
     cases X with
     | true=>
      rw [hbad h2'];refine hg ?_
      repeat' ((first | refine hfk ?_ ?_<;>intros | refine hik ?_)<;>refine hgS ?_)
      exact wvc
     | false=>cases Y with
      | false=>
       rw [hbad h2'];refine hg ?_
       repeat' ((first | refine hfk ?_ ?_<;>intros | refine hik ?_ | with_reducible first | refine hcA ?_ | refine hcB ?_)<;>refine hgS ?_)
       exact wvc
      | true=>
       refine hg ?_
       repeat' ((first | refine hfk ?_ ?_<;>intros | refine hik ?_ | with_reducible first | refine hcA ?_ | refine hcB ?_)<;>refine hgS ?_)
       refine ⟨(j+1,updF T (ms.getD j default).name (ms.getD j default)),⟨by dsimp only;omega,by first | exact h2' | rfl⟩,by dsimp only;omega,?_⟩;refine StH.cutN [4,5,6,39,40,41] 4 rfl ?_ ?_
       . refine hg ?_;exact trivial
       exact StH.same svl rfl
   . have hT:rTi V [] ms=some T:=by rw [h2,List.drop_eq_nil_of_le (by omega)];rfl
     rw [hgood T hT];clear h2 h1 hlt hbad hgood hT;refine hg ?_;exact xet V T _ _ true
theorem yhw {t:Bool} {c d:Bool}:zq3 t (.inr (.tru c d))=bif t then .inr (.tru c d) else .inl 13:=by cases t<;>rfl
theorem yn5 {t:Bool} {v:Iv}:zq3 t (.inr (.num v))=bif t then .inl 13 else .inr (.num v):=by cases t<;>rfl
theorem v2e (x:Ex) (zs:List Zn) (ms:List Tb) (t:Bool) (hx:x.Sm) (hb:zs.length<=1073741824) (hm:ms.length<=1073741824) (hbs:∀ b∈zs,b.name.size<=1073741824/\b.s.sz<=160000) (hms:∀ t∈ms,t.Sm) :
 CallsD Γ prog 39 [.agg (exC x),.one (.sl 9 (zs.map Zn.C)),.one (.sl 3 (ms.map Tb.C)),.one (cB t)] (krR (zq3 t (hulF x zs ms))):=by
 have hr:=ys1 (Γ:=Γ) zs ms hb hm (fun b h=>⟨(hbs b h).1,Nat.le_trans (hbs b h).2 (by decide)⟩) hms;have c1:=xz2 (Γ:=Γ) x hx;have c2:=ve7 (Γ:=Γ) x hx
 cases hr1:xub x with
 | false=>
  rw [hr1] at c1;rw [show hulF x zs ms=.inl 2 by unfold hulF;rw [hr1];rfl];refine CallsD.run [] Go.Proofs.Tryz.func39 rfl rfl rfl ?_;simp only [Go.Proofs.Tryz.f39];refine hgR ?_
  repeat' ((first | refine hfk ?_ ?_<;>intros | refine hik ?_ | with_reducible first | refine hcA ?_ | refine hcB ?_)<;>refine hgS ?_)
  exact xp8 2
 | true=>cases hc1:x.xi4 with
  | true=>
   rw [hr1] at c1;rw [hc1] at c2;rw [show hulF x zs ms=.inl 2 by unfold hulF;rw [hr1,hc1];rfl];refine CallsD.run [] Go.Proofs.Tryz.func39 rfl rfl rfl ?_;simp only [Go.Proofs.Tryz.f39];refine hgR ?_
   repeat' ((first | refine hfk ?_ ?_<;>intros | refine hik ?_ | with_reducible first | refine hcA ?_ | refine hcB ?_)<;>refine hgS ?_)
   exact xp8 2
  | false=>
   rw [hr1] at c1;rw [hc1] at c2
   have hsh:x.shaped=true:=by unfold xub at hr1;rw [Bool.and_eq_true] at hr1;exact hr1.2
   cases hrd:entZ zs ms with
   | none=>
    rw [hrd] at hr;rw [show hulF x zs ms=.inl 1 by unfold hulF;rw [hr1,hc1,hrd];rfl]
    have hr2:∀ a b:SB,vfe Γ prog 60 [a,b] [.one (.dat (.sl 9 (zs.map Zn.C))),.one (.dat (.sl 3 (ms.map Tb.C)))] [a,b] (.tup [.agg [.any,.any],.one (.dat (cB false))]):=fun a b=>vfe.at [] (J:=[a,b]) hr (by decide) rfl rfl rfl
    refine CallsD.run [] Go.Proofs.Tryz.func39 rfl rfl rfl ?_;simp only [Go.Proofs.Tryz.f39];refine hgR ?_
    repeat' ((first | refine hfk ?_ ?_<;>intros | refine hik ?_ | with_reducible first | refine hcA ?_ | refine hcB ?_)<;>refine hgS ?_)
    refine xc5 (hr2 _ _) rfl ?_;refine hg ?_
    repeat' ((first | refine hfk ?_ ?_<;>intros | refine hik ?_)<;>refine hgS ?_)
    exact xp8 1
   | some p=>
    obtain ⟨V,T⟩:=p;rw [hrd] at hr;rw [show hulF x zs ms=x.hul V T by unfold hulF;rw [hr1,hc1,hrd];rfl]
    have hr2:∀ a b:SB,vfe Γ prog 60 [a,b] [.one (.dat (.sl 9 (zs.map Zn.C))),.one (.dat (.sl 3 (ms.map Tb.C)))] [a,b,mI V,mB T] (.tup [.agg [.mp 2,.mp 3],.one (.dat (cB true))]):=fun a b=>by
     have h:=vfe.at [] (J:=[a,b]) hr (by decide) rfl rfl rfl
     have e:putR [] [a,b] (opnB (some (V,T)))=[a,b,mI V,mB T]:=by
      show [a,b,rnSB _ (mI V),rnSB _ (mB T)]=_;rw [wmq,xqg]
     rw [e] at h;exact h
    have hnd:=wl8 hr1;have hB:(161000:Nat)*x.nd<=33554400:=Nat.le_trans (Nat.mul_le_mul_left _ hnd) (by decide);have hV:=vlg (B:=161000) hrd (fun b h=>by have:=(hbs b h).2;omega);have hT:=x3w hrd hms;have hc:=yk3 (Γ:=Γ) (B:=161000) (by decide) V T hV hT x hx hsh hc1 hB;have hk:=zfk (B:=161000) (by decide) hV hT x hsh hc1;generalize x.hul V T=r at hc hk ⊢
    rcases r with e | ⟨c,d⟩ | v
    . have he:¬e=0:=hk;refine CallsD.run [] Go.Proofs.Tryz.func39 rfl rfl rfl ?_;simp only [Go.Proofs.Tryz.f39];refine hgR ?_
      repeat' ((first | refine hfk ?_ ?_<;>intros | refine hik ?_ | with_reducible first | refine hcA ?_ | refine hcB ?_)<;>refine hgS ?_)
      refine xc5 (hr2 _ _) rfl ?_;refine hg ?_;refine xwg (vfe.ro [2,3] hc (xa8 V T) (by decide) rfl rfl) ?_;refine hg ?_
      repeat' ((first | refine hfk ?_ ?_<;>intros | refine hik ?_)<;>refine hgS ?_)
      all_goals first
       | (exfalso;omega)
       | exact xp8 e
    all_goals
     simp only [yhw,yn5]
     cases t
     all_goals
      refine CallsD.run [] Go.Proofs.Tryz.func39 rfl rfl rfl ?_;simp only [Go.Proofs.Tryz.f39];refine hgR ?_
      repeat' ((first | refine hfk ?_ ?_<;>intros | refine hik ?_ | with_reducible first | refine hcA ?_ | refine hcB ?_)<;>refine hgS ?_)
      refine xc5 (hr2 _ _) rfl ?_;refine hg ?_;refine xwg (vfe.ro [2,3] hc (xa8 V T) (by decide) rfl rfl) ?_;refine hg ?_
      repeat' ((first | refine hfk ?_ ?_<;>intros | refine hik ?_)<;>refine hgS ?_)
      all_goals first
       | (exfalso;omega)
       | exact xp8 13
       | exact RLe.ofEq rfl
theorem xba:CallsD Γ prog 40 [.agg (scC Sc.zero)] (.agg (scC Sc.zero)):=by
 have h1:=toD (Γ:=Γ) (y28 Sc.zero (by decide) (fun h=>Fc.vc1 h.1));have h1:CallsD Γ prog 18 [.agg [cI 0,.ints .i64 [],cI 0,.ints .i64 [],cI 0,.ints .i64 [],cI 0,.ints .i64 []]] (.one (cB false)):=h1;refine CallsD.run [] Go.Proofs.Tryz.func40 rfl rfl rfl ?_;simp only [Go.Proofs.Tryz.f40];refine hgR ?_
 repeat' ((first | refine hfk ?_ ?_<;>intros | refine hik ?_ | with_reducible first | refine hcA ?_ | refine hcB ?_)<;>refine hgS ?_)
 exact .one wu9
theorem neg_neg (v:Iv):v.neg.neg=v:=Iv.ext' (Rat.neg_neg _) (Rat.neg_neg _)
theorem z5d {x : Ex} {zs : List Zn} {ms : List Tb} {B : Nat} (hB : 4300 ≤ B) (hb : ∀ b ∈ zs, b.s.sz + 10 ≤ B) (hms : ∀ t ∈ ms, t.Sm) : Kok (B * 200) (hulF x zs ms) := by
 unfold hulF
 cases h1:xub x with
 | false=>exact (by decide:(2:Int)≠0)
 | true=>cases h2:x.xi4 with
  | true=>exact (by decide:(2:Int)≠0)
  | false=>cases h3:entZ zs ms with
   | none=>exact (by decide:(1:Int)≠0)
   | some p=>
    obtain ⟨V,T⟩:=p
    have hsh:x.shaped=true:=by unfold xub at h1;rw [Bool.and_eq_true] at h1;exact h1.2
    exact (zfk hB (vlg h3 hb) (x3w h3 hms) x hsh h2).mono (Nat.mul_le_mul_left _ (wl8 h1))
abbrev hoR (r:Kr):AV:=.tup [.agg (scC (krK r).s),.one (cI (krE r))]
abbrev htR (r:Kr):AV:=.tup [.one (cB (krK r).c),.one (cB (krK r).d),.one (cI (krE r))]
theorem vbh (x:Ex) (zs:List Zn) (ms:List Tb) (hx:x.Sm) (hb:zs.length<=1073741824) (hm:ms.length<=1073741824) (hbs:∀ b∈zs,b.name.size<=1073741824/\b.s.sz<=160000) (hms:∀ t∈ms,t.Sm) :
 CallsD Γ prog 11 [.agg (exC x),.one (.sl 9 (zs.map Zn.C)),.one (.sl 3 (ms.map Tb.C))] (hoR (zq3 false (hulF x zs ms))):=by
 have hc:=v2e (Γ:=Γ) x zs ms false hx hb hm hbs hms;have hk:=z5d (x:=x) (B:=161000) (by decide) (fun b h=>by have:=(hbs b h).2;omega) hms;have hz:=xba (Γ:=Γ);have hz:CallsD Γ prog 40 [.agg [cI 0,.ints .i64 [],cI 0,.ints .i64 [],cI 0,.ints .i64 [],cI 0,.ints .i64 []]] (.agg [cI 0,.ints .i64 [],cI 0,.ints .i64 [],cI 0,.ints .i64 [],cI 0,.ints .i64 []]):=hz;generalize hulF x zs ms=r at hc hk ⊢
 rcases r with e | ⟨c,d⟩ | v
 . rw [show zq3 false (.inl e)=.inl e from rfl] at hc ⊢;refine CallsD.run [] Go.Proofs.Tryz.func11 rfl rfl rfl ?_;simp only [Go.Proofs.Tryz.f11];refine hgR ?_
   repeat' ((first | refine hfk ?_ ?_<;>intros | refine hik ?_ | with_reducible first | refine hcA ?_ | refine hcB ?_)<;>refine hgS ?_)
   exact RLe.ofEq rfl
 . rw [show zq3 false (.inr (.tru c d))=.inl 13 from rfl] at hc ⊢;refine CallsD.run [] Go.Proofs.Tryz.func11 rfl rfl rfl ?_;simp only [Go.Proofs.Tryz.f11];refine hgR ?_
   repeat' ((first | refine hfk ?_ ?_<;>intros | refine hik ?_ | with_reducible first | refine hcA ?_ | refine hcB ?_)<;>refine hgS ?_)
   exact RLe.ofEq rfl
 . rw [show zq3 false (.inr (.num v))=.inr (.num v) from rfl] at hc ⊢;have hk:ivZ v<=67108864:=Nat.le_trans hk (by decide);have n1:=iNeg (Γ:=Γ) v hk;have n2:=iNeg (Γ:=Γ) v.neg (by rw [za4];exact hk);rw [neg_neg] at n2;refine CallsD.run [] Go.Proofs.Tryz.func11 rfl rfl rfl ?_;simp only [Go.Proofs.Tryz.f11];refine hgR ?_
   repeat' ((first | refine hfk ?_ ?_<;>intros | refine hik ?_ | with_reducible first | refine hcA ?_ | refine hcB ?_)<;>refine hgS ?_)
   exact RLe.ofEq rfl
theorem zn3 (x:Ex) (zs:List Zn) (ms:List Tb) (hx:x.Sm) (hb:zs.length<=1073741824) (hm:ms.length<=1073741824) (hbs:∀ b∈zs,b.name.size<=1073741824/\b.s.sz<=160000) (hms:∀ t∈ms,t.Sm) :
 CallsD Γ prog 13 [.agg (exC x),.one (.sl 9 (zs.map Zn.C)),.one (.sl 3 (ms.map Tb.C))] (htR (zq3 true (hulF x zs ms))):=by
 have hc:=v2e (Γ:=Γ) x zs ms true hx hb hm hbs hms;generalize hulF x zs ms=r at hc ⊢
 rcases r with e | ⟨c,d⟩ | v
 . rw [show zq3 true (.inl e)=.inl e from rfl] at hc ⊢;refine CallsD.run [] Go.Proofs.Tryz.func13 rfl rfl rfl ?_;simp only [Go.Proofs.Tryz.f13];refine hgR ?_
   repeat' ((first | refine hfk ?_ ?_<;>intros | refine hik ?_ | with_reducible first | refine hcA ?_ | refine hcB ?_)<;>refine hgS ?_)
   exact RLe.ofEq rfl
 . rw [show zq3 true (.inr (.tru c d))=.inr (.tru c d) from rfl] at hc ⊢;refine CallsD.run [] Go.Proofs.Tryz.func13 rfl rfl rfl ?_;simp only [Go.Proofs.Tryz.f13];refine hgR ?_
   repeat' ((first | refine hfk ?_ ?_<;>intros | refine hik ?_ | with_reducible first | refine hcA ?_ | refine hcB ?_)<;>refine hgS ?_)
   exact RLe.ofEq rfl
 . rw [show zq3 true (.inr (.num v))=.inl 13 from rfl] at hc ⊢;refine CallsD.run [] Go.Proofs.Tryz.func13 rfl rfl rfl ?_;simp only [Go.Proofs.Tryz.f13];refine hgR ?_
   repeat' ((first | refine hfk ?_ ?_<;>intros | refine hik ?_ | with_reducible first | refine hcA ?_ | refine hcB ?_)<;>refine hgS ?_)
   exact RLe.ofEq rfl
end Go.Hp.T
namespace Go.Hp.T
open Go Go.RowKit Go.Slot Go.Hp Go.Slot.T
open Go.Proofs.Tryz (prog)
set_option maxRecDepth 100000
set_option maxHeartbeats 4000000
variable {Γ:List (Nat×List Cell)}
def xnam (s:ByteArray):Ex:=.mk 1 0 ⟨⟨[]⟩⟩ s []
def xnum (n:Int):Ex:=.mk 0 n ⟨⟨[]⟩⟩ ⟨⟨[]⟩⟩ []
def xop (k:Int) (a b:Ex):Ex:=.mk k 0 ⟨⟨[]⟩⟩ ⟨⟨[]⟩⟩ [a,b]
def xif (c a b:Ex):Ex:=.mk 5 0 ⟨⟨[]⟩⟩ ⟨⟨[]⟩⟩ [c,a,b]
def wzr (a:Ex):Ex:=.mk 2 0 ⟨⟨[]⟩⟩ ⟨⟨[116]⟩⟩ [a]
def xnot (a:Ex):Ex:=.mk 4 0 ⟨⟨[]⟩⟩ ⟨⟨[]⟩⟩ [a]
theorem yw8 (s:ByteArray):CallsD Γ prog 26 [.one (cS s)] (.agg (exC (xnam s))):=by
 refine CallsD.run [] Go.Proofs.Tryz.func26 rfl rfl rfl ?_;simp only [Go.Proofs.Tryz.f26];refine hgR ?_
 repeat' ((first | refine hfk ?_ ?_<;>intros | refine hik ?_)<;>refine hgS ?_)
 exact .one (.agg (.cons (.refl _) (.cons (.refl _) (.cons (.refl _) (.cons (.refl _) (.cons (.zcSl _) .nil))))))
theorem yst (n:Int):CallsD Γ prog 29 [.one (cI n)] (.agg (exC (xnum n))):=by
 refine CallsD.run [] Go.Proofs.Tryz.func29 rfl rfl rfl ?_;simp only [Go.Proofs.Tryz.f29];refine hgR ?_
 repeat' ((first | refine hfk ?_ ?_<;>intros | refine hik ?_)<;>refine hgS ?_)
 exact .one (.agg (.cons (.refl _) (.cons (.refl _) (.cons (.refl _) (.cons (.refl _) (.cons (.zcSl _) .nil))))))
theorem v9q (k:Int) (a b:Ex):CallsD Γ prog 28 [.one (cI k),.agg (exC a),.agg (exC b)] (.agg (exC (xop k a b))):=by
 refine CallsD.run [] Go.Proofs.Tryz.func28 rfl rfl rfl ?_;simp only [Go.Proofs.Tryz.f28];refine hgR ?_
 repeat' ((first | refine hfk ?_ ?_<;>intros | refine hik ?_)<;>refine hgS ?_)
 exact RLe.ofEq (by rw [show exC (xop k a b)=[cI k,cI 0,cS ⟨⟨[]⟩⟩,cS ⟨⟨[]⟩⟩,.sl 5 [a.cells,b.cells]] from rfl,Ex.vle,Ex.vle])
theorem zrl (c a b:Ex):CallsD Γ prog 36 [.agg (exC c),.agg (exC a),.agg (exC b)] (.agg (exC (xif c a b))):=by
 refine CallsD.run [] Go.Proofs.Tryz.func36 rfl rfl rfl ?_;simp only [Go.Proofs.Tryz.f36];refine hgR ?_
 repeat' ((first | refine hfk ?_ ?_<;>intros | refine hik ?_)<;>refine hgS ?_)
 exact RLe.ofEq (by rw [show exC (xif c a b)=[cI 5,cI 0,cS ⟨⟨[]⟩⟩,cS ⟨⟨[]⟩⟩,.sl 5 [c.cells,a.cells,b.cells]] from rfl,Ex.vle,Ex.vle,Ex.vle])
theorem yku (a:Ex):CallsD Γ prog 34 [.agg (exC a)] (.agg (exC (wzr a))):=by
 refine CallsD.run [] Go.Proofs.Tryz.func34 rfl rfl rfl ?_;simp only [Go.Proofs.Tryz.f34];refine hgR ?_
 repeat' ((first | refine hfk ?_ ?_<;>intros | refine hik ?_)<;>refine hgS ?_)
 exact RLe.ofEq (by rw [show exC (wzr a)=[cI 2,cI 0,cS ⟨⟨[]⟩⟩,cS ⟨⟨[116]⟩⟩,.sl 5 [a.cells]] from rfl,Ex.vle])
abbrev ofS (a b:Int):Sc:=⟨qF (some (a:Rat)),qF (some (b:Rat))⟩
theorem z8v (a b:Int) (ha:inI a) (hb:inI b):CallsD Γ prog 56 [.one (cI a),.one (cI b)] (.agg (scC (ofS a b))):=by
 have h1:=oInt (Γ:=Γ) a ha;have h2:=oInt (Γ:=Γ) b hb;refine CallsD.run [] Go.Proofs.Tryz.func56 rfl rfl rfl ?_;simp only [Go.Proofs.Tryz.f56];refine hgR ?_
 repeat' ((first | refine hfk ?_ ?_<;>intros | refine hik ?_ | with_reducible first | refine hcA ?_ | refine hcB ?_)<;>refine hgS ?_)
 exact RLe.ofEq rfl
def zs17:List Zn:=[⟨⟨⟨[97]⟩⟩,ofS 1 3⟩,⟨⟨⟨[98]⟩⟩,ofS 2 2⟩,⟨⟨⟨[109]⟩⟩,ofS (-1) 1⟩]
def ms17:List Tb:=[⟨⟨⟨[116]⟩⟩,⟨⟨[]⟩⟩,[⟨0,5⟩,⟨2,9⟩,⟨3,4⟩]⟩]
theorem zz1:CallsD Γ prog 30 [] (.one (.sl 9 (zs17.map Zn.C))):=by
 have h1:=z8v (Γ:=Γ) 1 3 (by decide) (by decide);have h2:=z8v (Γ:=Γ) 2 2 (by decide) (by decide);have h3:=z8v (Γ:=Γ) (-1) 1 (by decide) (by decide);refine CallsD.run [] Go.Proofs.Tryz.func30 rfl rfl rfl ?_;simp only [Go.Proofs.Tryz.f30];refine hgR ?_
 repeat' ((first | refine hfk ?_ ?_<;>intros | refine hik ?_ | with_reducible first | refine hcA ?_ | refine hcB ?_)<;>refine hgS ?_)
 exact RLe.ofEq rfl
theorem zec:CallsD Γ prog 31 [] (.one (.sl 3 (ms17.map Tb.C))):=by
 refine CallsD.run [] Go.Proofs.Tryz.func31 rfl rfl rfl ?_;simp only [Go.Proofs.Tryz.f31];refine hgR ?_
 repeat' ((first | refine hfk ?_ ?_<;>intros | refine hik ?_)<;>refine hgS ?_)
 exact RLe.ofEq rfl
theorem zb9:∀ b∈zs17,b.name.size<=1073741824/\b.s.sz<=160000:=fun b hb=>by
 have h:∀ a b:Int,inI a->inI b->(ofS a b).sz<=160000:=fun a b ha hb=>Nat.le_trans (Nat.max_le.2 ⟨wtn ha,wtn hb⟩) (by decide)
 unfold zs17 at hb;simp only [List.mem_cons,List.not_mem_nil,or_false] at hb
 rcases hb with rfl | rfl | rfl
 . exact ⟨by decide,h _ _ (by decide) (by decide)⟩
 . exact ⟨by decide,h _ _ (by decide) (by decide)⟩
 . exact ⟨by decide,h _ _ (by decide) (by decide)⟩
theorem zbx:∀ t∈ms17,t.Sm:=fun t ht=>by
 unfold ms17 at ht;simp only [List.mem_cons,List.not_mem_nil,or_false] at ht;subst ht;exact ⟨by decide,by decide,by decide⟩
def vmn:Kr->Kr->Bool
 | .inl e,.inl e'=>decide (e=e')
 | .inr (.tru c d),.inr (.tru c' d')=>c==c'&&d==d'
 | .inr (.num v),.inr (.num w)=>decide (v.lo.num=w.lo.num)&&decide (v.lo.den=w.lo.den)&&(decide (v.hi.num=w.hi.num)&&decide (v.hi.den=w.hi.den))
 | _,_=>false
theorem vym:∀{a b:Kr},vmn a b=true->a=b
 | .inl e,.inl e',h=>by rw [of_decide_eq_true h]
 | .inr (.tru c d),.inr (.tru c' d'),h=>by
  unfold vmn at h;simp only [Bool.and_eq_true,beq_iff_eq] at h;rw [h.1,h.2]
 | .inr (.num v),.inr (.num w),h=>by
  unfold vmn at h;simp only [Bool.and_eq_true,decide_eq_true_eq] at h;rw [Iv.ext' (Rat.ext h.1.1 h.1.2) (Rat.ext h.2.1 h.2.2)]
 | .inl _,.inr (.tru _ _),h=>by cases h
 | .inl _,.inr (.num _),h=>by cases h
 | .inr (.tru _ _),.inl _,h=>by cases h
 | .inr (.num _),.inl _,h=>by cases h
 | .inr (.tru _ _),.inr (.num _),h=>by cases h
 | .inr (.num _),.inr (.tru _ _),h=>by cases h
theorem xrs (x:Ex) (hx:x.Sm):CallsD Γ prog 11 [.agg (exC x),.one (.sl 9 (zs17.map Zn.C)),.one (.sl 3 (ms17.map Tb.C))] (hoR (zq3 false (hulF x zs17 ms17))):=vbh x zs17 ms17 hx (by decide) (by decide) zb9 zbx
theorem vfw (x:Ex) (hx:x.Sm):CallsD Γ prog 13 [.agg (exC x),.one (.sl 9 (zs17.map Zn.C)),.one (.sl 3 (ms17.map Tb.C))] (htR (zq3 true (hulF x zs17 ms17))):=zn3 x zs17 ms17 hx (by decide) (by decide) zb9 zbx
theorem vz3 (x:Ex) (a b:Int) (hx:x.Sm) (ha:inI a) (hb:inI b) (hab:(a:Rat)<=(b:Rat)) (h:vmn (zq3 false (hulF x zs17 ms17)) (.inr (.num ⟨a,b,hab⟩))=true):CallsD Γ prog 32 [.agg (exC x),.one (cI a),.one (cI b)] (.one (cB true)):=by
 have h1:=xrs (Γ:=Γ) x hx;rw [vym h] at h1;have h2:=z8v (Γ:=Γ) a b ha hb;have h3:=toD (Γ:=Γ) (x94 (ofS a b) (ofS a b) (Nat.max_le.2 ⟨Nat.le_trans (wtn ha) (by decide),Nat.le_trans (wtn hb) (by decide)⟩) (Nat.max_le.2 ⟨Nat.le_trans (wtn ha) (by decide),Nat.le_trans (wtn hb) (by decide)⟩));rw [decide_eq_true rfl] at h3;have h3:CallsD Γ prog 15 [.agg (scC (ofS a b)),.agg (scC (ofS a b))] (.one (cB true)):=h3;refine CallsD.run [] Go.Proofs.Tryz.func32 rfl rfl rfl ?_;simp only [Go.Proofs.Tryz.f32];refine hgR ?_
 repeat' ((first | refine hfk ?_ ?_<;>intros | refine hik ?_ | with_reducible first | refine hcA ?_ | refine hcB ?_ | refine v6l (zz1) ?_ | refine vgi (zz1) ?_ | refine v6l (zec) ?_ | refine vgi (zec) ?_)<;>refine hgS ?_)
 all_goals first
  | exact RLe.ofEq rfl
  | (exfalso;omega)
theorem wml (x:Ex) (e:Int) (hx:x.Sm) (h:vmn (zq3 false (hulF x zs17 ms17)) (.inl e)=true):CallsD Γ prog 33 [.agg (exC x),.one (cI e)] (.one (cB true)):=by
 have h1:=xrs (Γ:=Γ) x hx;rw [vym h] at h1;refine CallsD.run [] Go.Proofs.Tryz.func33 rfl rfl rfl ?_;simp only [Go.Proofs.Tryz.f33];refine hgR ?_
 repeat' ((first | refine hfk ?_ ?_<;>intros | refine hik ?_ | with_reducible first | refine hcA ?_ | refine hcB ?_ | refine v6l (zz1) ?_ | refine vgi (zz1) ?_ | refine v6l (zec) ?_ | refine vgi (zec) ?_)<;>refine hgS ?_)
 all_goals first
  | exact RLe.ofEq rfl
  | exact RLe.ofEq (by simp)
  | (exfalso;omega)
theorem cCan (x:Ex) (c d:Bool) (hx:x.Sm) (h:vmn (zq3 true (hulF x zs17 ms17)) (.inr (.tru c d))=true):CallsD Γ prog 35 [.agg (exC x),.one (cB c),.one (cB d)] (.one (cB true)):=by
 have h1:=vfw (Γ:=Γ) x hx;rw [vym h] at h1
 cases c<;>cases d
 all_goals
  refine CallsD.run [] Go.Proofs.Tryz.func35 rfl rfl rfl ?_;simp only [Go.Proofs.Tryz.f35];refine hgR ?_
  repeat' ((first | refine hfk ?_ ?_<;>intros | refine hik ?_ | with_reducible first | refine hcA ?_ | refine hcB ?_ | refine v6l (zz1) ?_ | refine vgi (zz1) ?_ | refine v6l (zec) ?_ | refine vgi (zec) ?_)<;>refine hgS ?_)
  all_goals first
   | exact RLe.ofEq rfl
   | (exfalso;omega)
def xa:Ex:=xnam ⟨⟨[97]⟩⟩
def xb:Ex:=xnam ⟨⟨[98]⟩⟩
def xm:Ex:=xnam ⟨⟨[109]⟩⟩
mutual
def Ex.smB:Ex->Bool
 | .mk _ _ u s l=>Nat.ble l.length 1073741824&&Nat.ble u.size 1073741824&&Nat.ble s.size 1073741824&&Ex.smBL l
def Ex.smBL:List Ex->Bool
 | []=>true
 | x::l=>Ex.smB x&&Ex.smBL l
end
theorem Ex.z5h:∀ l:List Ex,Ex.smBL l=l.all Ex.smB
 | []=>by rw [Ex.smBL];rfl
 | x::l=>by rw [Ex.smBL,Ex.z5h l];rfl
theorem Ex.Sm.of:∀ x:Ex,x.smB=true->x.Sm:=by
 refine Ex.ind ?_;intro x ih h
 cases x with
 | mk o n u s l=>
  rw [Ex.smB,Ex.z5h] at h;simp only [Bool.and_eq_true,Nat.ble_eq,List.all_eq_true] at h;obtain ⟨⟨⟨h1,h2⟩,h3⟩,h4⟩:=h;exact .mk _ h1 h2 h3 (fun y hy=>ih y hy (h4 y hy))
theorem w4k:CallsD Γ prog 11 [.agg (exC (xop 9 (xnum 1) xa)),.one (.sl 9 (zs17.map Zn.C)),.one (.sl 3 (ms17.map Tb.C))] (.tup [.agg (scC ⟨qF (some (Rat.divInt 1 3)),qF (some ((1:Int):Rat))⟩),.one (cI 0)]):=by
 have h:=xrs (Γ:=Γ) (xop 9 (xnum 1) xa) (Ex.Sm.of _ (by kernel_rfl));rw [vym (a:=zq3 false (hulF (xop 9 (xnum 1) xa) zs17 ms17)) (b:=.inr (.num ⟨Rat.divInt 1 3,((1:Int):Rat),by decide⟩)) (by kernel_rfl)] at h;exact h
theorem wub:CallsD Γ prog 9 [] (.one (cB true)):=by
 have a1:=yw8 (Γ:=Γ) ⟨⟨[97]⟩⟩;have a2:=yw8 (Γ:=Γ) ⟨⟨[98]⟩⟩;have a3:=yw8 (Γ:=Γ) ⟨⟨[109]⟩⟩;change CallsD _ _ _ _ (.agg (exC xa)) at a1;change CallsD _ _ _ _ (.agg (exC xb)) at a2;change CallsD _ _ _ _ (.agg (exC xm)) at a3;have q1:CallsD Γ prog 27 [.one (cI 1),.one (cI 3)] (qR (some (Rat.divInt 1 3)) 0):=qOf 1 3 (by decide) (by decide) (by decide);have q2:=oInt (Γ:=Γ) 1 (by decide);have hs:(ivS ⟨Rat.divInt 1 3,((1:Int):Rat),by decide⟩).sz<=67108864:=Nat.le_of_ble_eq_true (by kernel_rfl);have q3:=toD (Γ:=Γ) (x94 (ivS ⟨Rat.divInt 1 3,((1:Int):Rat),by decide⟩) (ivS ⟨Rat.divInt 1 3,((1:Int):Rat),by decide⟩) hs hs);rw [decide_eq_true rfl] at q3;have q3:CallsD Γ prog 15 [.agg (scC ⟨qF (some (Rat.divInt 1 3)),qF (some ((1:Int):Rat))⟩),.agg (scC ⟨qF (some (Rat.divInt 1 3)),qF (some ((1:Int):Rat))⟩)] (.one (cB true)):=q3;have s1:=vz3 (Γ:=Γ) (xop 6 xa xb) 3 5 (Ex.Sm.of _ (by kernel_rfl)) (by decide) (by decide) (by decide) (by kernel_rfl);have s2:=vz3 (Γ:=Γ) (xop 7 xa xa) (-2) 2 (Ex.Sm.of _ (by kernel_rfl)) (by decide) (by decide) (by decide) (by kernel_rfl);have s3:=vz3 (Γ:=Γ) (xop 8 xa xm) (-3) 3 (Ex.Sm.of _ (by kernel_rfl)) (by decide) (by decide) (by decide) (by kernel_rfl);have f1:=wml (Γ:=Γ) (xop 9 (xnum 1) xm) 15 (Ex.Sm.of _ (by kernel_rfl)) (by kernel_rfl);have s4:=vz3 (Γ:=Γ) (wzr xa) 4 9 (Ex.Sm.of _ (by kernel_rfl)) (by decide) (by decide) (by decide) (by kernel_rfl);have f2:=wml (Γ:=Γ) (wzr xm) 4 (Ex.Sm.of _ (by kernel_rfl)) (by kernel_rfl);have s5:=vz3 (Γ:=Γ) (wzr (xnum 2)) 9 9 (Ex.Sm.of _ (by kernel_rfl)) (by decide) (by decide) (by decide) (by kernel_rfl);have n1:=cCan (Γ:=Γ) (xop 12 xa xb) true true (Ex.Sm.of _ (by kernel_rfl)) (by kernel_rfl);have n2:=cCan (Γ:=Γ) (xop 12 xa (xnum 4)) true false (Ex.Sm.of _ (by kernel_rfl)) (by kernel_rfl);have n3:=cCan (Γ:=Γ) (xop 13 xb (xnum 2)) true false (Ex.Sm.of _ (by kernel_rfl)) (by kernel_rfl);have n4:=cCan (Γ:=Γ) (xop 13 xa xb) true true (Ex.Sm.of _ (by kernel_rfl)) (by kernel_rfl);have s6:=vz3 (Γ:=Γ) (xif (xop 12 xa xb) xa (xnum 10)) 1 10 (Ex.Sm.of _ (by kernel_rfl)) (by decide) (by decide) (by decide) (by kernel_rfl);have s7:=vz3 (Γ:=Γ) (xif (xop 12 xa (xnum 4)) xa (xop 9 (xnum 1) xm)) 1 3 (Ex.Sm.of _ (by kernel_rfl)) (by decide) (by decide) (by decide) (by kernel_rfl);have n5:=cCan (Γ:=Γ) (xnot (xop 12 xa xm)) true false (Ex.Sm.of _ (by kernel_rfl)) (by kernel_rfl);rw [show exC (xnot (xop 12 xa xm))=[cI 4,cI 0,cS ⟨⟨[]⟩⟩,cS ⟨⟨[]⟩⟩,.sl 5 [(xop 12 xa xm).cells]] from rfl,Ex.vle] at n5;have n6:=cCan (Γ:=Γ) (xop 15 (xop 12 xa xb) (xop 13 xb (xnum 2))) true false (Ex.Sm.of _ (by kernel_rfl)) (by kernel_rfl);refine CallsD.run [] Go.Proofs.Tryz.func9 rfl rfl rfl ?_;simp only [Go.Proofs.Tryz.f9];refine hgR ?_
 repeat' ((first | refine hfk ?_ ?_<;>intros | refine hik ?_ | with_reducible first | refine hcA ?_ | refine hcB ?_ | refine v6l (w4k) ?_ | refine vgi (w4k) ?_ | refine v6l (yst _) ?_ | refine vgi (yst _) ?_ | refine v6l (v9q _ _ _) ?_ | refine vgi (v9q _ _ _) ?_ | refine v6l (yku _) ?_ | refine vgi (yku _) ?_ | refine v6l (zrl _ _ _) ?_ | refine vgi (zrl _ _ _) ?_ | refine v6l (zz1) ?_ | refine vgi (zz1) ?_ | refine v6l (zec) ?_ | refine vgi (zec) ?_)<;>refine hgS ?_)
 all_goals exact RLe.ofEq rfl
end Go.Hp.T
namespace Go.Hp.T
open Go Go.RowKit Go.Slot Go.Hp Go.Slot.T
set_option maxRecDepth 10000
set_option maxHeartbeats 4000000
def InsK:Kn->Kn->Prop
 | .tru c d,.tru c' d'=>(c'=true->c=true)/\(d'=true->d=true)
 | .num v,.num w=>w.Le v
 | _,_=>False
theorem InsK.t:∀{k k':Kn},InsK k k'->k'.t=k.t
 | .tru _ _,.tru _ _,_=>rfl
 | .num _,.num _,_=>rfl
def Kn.some:Kn->Prop
 | .tru c d=>c=true\/d=true
 | .num _=>True
def PtK:Kn->Rs->Prop
 | .tru c d,r=>r.t=true/\c=r.i/\d = !r.i
 | .num v,r=>r.t=false/\∃ q,r.v=some q/\v=Iv.pt q
theorem PtK.t:∀{k:Kn} {r:Rs},PtK k r->r.t=k.t
 | .tru _ _,_,h=>h.1
 | .num _,_,h=>h.1
end Go.Hp.T
namespace Go.Hp.T
open Go Go.RowKit Go.Slot Go.Hp Go.Slot.T
open Go.Proofs.Tryz (prog)
set_option maxRecDepth 10000
set_option maxHeartbeats 4000000
variable {Γ:List (Nat×List Cell)}
theorem n0:((0:Nat):Int)=0:=rfl
end Go.Hp.T
namespace Go.Hp.T
open Go Go.RowKit Go.Slot Go.Hp
set_option maxRecDepth 10000
variable {vs vs':List Vr}
def tbad (V:List (ByteArray×Dm)) (t:Tb):Bool:=(ycr V t.name).isSome||decide (¬(zte t.unit).2=0)||!zi4 (fun s=>(zte s).2) t||isWord t.name
section
variable {α:Type} {bad:α->Bool} {nm:α->ByteArray} {vl:α->Dm}
theorem x68 (s:ByteArray):∀ l:List α,(∀ v∈l,seq s (nm v)=false)->ycr (l.map fun v=>(nm v,vl v)) s=none
 | [],_=>rfl
 | v::l,h=>by
  rw [List.map_cons,ycr,h v (by simp),cond_false];exact x68 s l (fun w hw=>h w (by simp [hw]))
theorem z6k {s:ByteArray}:∀{l:List α},ycr (l.map fun v=>(nm v,vl v)) s=none->∀ v∈l,seq s (nm v)=false
 | [],_,v,hv=>by cases hv
 | w::l,h,v,hv=>by
  rw [List.map_cons,ycr] at h
  cases hs:seq s (nm w) with
  | true=>rw [hs] at h;cases h
  | false=>
   rw [hs,cond_false] at h
   rcases List.mem_cons.1 hv with rfl | hv
   . exact hs
   . exact z6k h v hv
end
structure xn9 (vs:List Vr) (ms:List Tb):Prop where
 v:∀ v∈vs,(!isName v.name||isWord v.name||!zmf v.d)=false
 vp:vs.Pairwise (fun a b=>seq b.name a.name=false)
 t:∀ t∈ms,tbad (vs.map fun v=>(v.name,v.d)) t=false
 tp:ms.Pairwise (fun a b=>seq b.name a.name=false)
theorem w6e {t:Tb} (hsub:∀ v∈vs',v∈vs) (h:tbad (vs.map fun v=>(v.name,v.d)) t=false):tbad (vs'.map fun v=>(v.name,v.d)) t=false:=by
 unfold tbad at h ⊢;simp only [Bool.or_eq_false_iff] at h ⊢;refine ⟨⟨⟨?_,h.1.1.2⟩,h.1.2⟩,h.2⟩
 have h1:ycr (vs.map fun v=>(v.name,v.d)) t.name=none:=by
  cases hl:ycr (vs.map fun v=>(v.name,v.d)) t.name with
  | none=>rfl
  | some d=>rw [hl] at h;exact absurd h.1.1.1 (by simp)
 rw [x68 t.name vs' (fun v hv=>z6k h1 v (hsub v hv))];rfl
theorem xn9.less {ms ms':List Tb} (h:xn9 vs ms) (hv:vs'.Sublist vs) (ht:ms'.Sublist ms):xn9 vs' ms':=
 ⟨fun v hv'=>h.v v (hv.subset hv'),h.vp.sublist hv,fun t ht'=>w6e (fun _ hv'=>hv.subset hv') (h.t t (ht.subset ht')),h.tp.sublist ht⟩
def FitV (k:Ty) (r:Rs×Int):Prop:=(r.2=0/\r.1.t=k.t/\r.1.v.isSome = !k.t)\/((r.2=15\/r.2=4)/\r.1=Rs.zero)
theorem FitV.ok {k:Ty} {r:Rs×Int} (h:FitV k r) (he:r.2=0):r.1.t=k.t/\r.1.v.isSome = !k.t:=by
 rcases h with h | h
 . exact h.2
 . rcases h.1 with h | h<;>rw [he] at h<;>cases h
theorem xpi {α:Type} [Inhabited α] {l:List α} {x:α} (h:x∈l):∃ i,i<l.length/\l.getD i default=x:=by
 obtain ⟨i,hi,rfl⟩:=List.getElem_of_mem h;exact ⟨i,hi,by simp [hi]⟩
end Go.Hp.T
namespace Go.Hp.T
open Go Go.RowKit Go.Slot Go.Hp Go.Slot.T
set_option maxRecDepth 10000
end Go.Hp.T
namespace Go.Hp.T
open Go Go.RowKit Go.Slot Go.Hp Go.Slot.T
set_option maxRecDepth 10000
set_option maxHeartbeats 4000000
end Go.Hp.T
namespace Go.Hp.T
open Go Go.RowKit Go.Slot Go.Hp Go.Slot.T
set_option maxRecDepth 10000
theorem xc3 {x:Ex} (h:xub x=true):x.shaped=true:=by unfold xub at h;rw [Bool.and_eq_true] at h;exact h.2
end Go.Hp.T
namespace Go.Hp.T
open Go Go.RowKit Go.Slot Go.Hp Go.Slot.T
open Go.Proofs.Tryz (prog)
set_option maxRecDepth 10000
set_option maxHeartbeats 4000000
variable {Γ:List (Nat×List Cell)}
variable {ms:List Tb}
structure Zn.Sm (b:Zn):Prop where
 n:b.name.size<=1073741824
 s:b.s.sz<=1048576
def Dm.C (d:Dm):List Cell:=dmC d
theorem Dm.C_eq (d:Dm):d.C=dmC d:=rfl
attribute [go_sem] Dm.C_eq
structure Ar17 (x:Ex) (zs:List Zn) (ms:List Tb):Prop where
 x:x.Sm
 b:zs.length<=1048576
 m:ms.length<=1048576
 bs:∀ b∈zs,b.Sm
 ms:∀ t∈ms,t.Sm
def w9c (b:Zn):Bool:=decide ((b.name.size:Int)<=40)&&decide (b.s.sz<=4)
def wsk (x:Ex) (zs:List Zn) (ms:List Tb):Bool:=(zs.take 9).all w9c&&(wjp x [] ms&&decide ((zs.length:Int)<=8))
theorem vtj {x:Ex} {zs:List Zn} (h:wsk x zs ms=true):(∀ b∈zs,b.s.sz<=4)/\zs.length<=8:=by
 unfold wsk at h;simp only [Bool.and_eq_true,decide_eq_true_eq] at h
 have hl:zs.length<=8:=by omega
 refine ⟨fun b hb=>?_,hl⟩
 have:=h.1
 rw [List.take_of_length_le (by omega),List.all_eq_true] at this
 have:=this b hb
 unfold w9c at this;simp only [Bool.and_eq_true,decide_eq_true_eq] at this;exact this.2
theorem CallsD.argN {f:FuncId} {args args':List AV} {res:AV} (h:CallsD Γ prog f args' res) (hle:LeS args args'):CallsD Γ prog f args res:=⟨h.1,fun M w vs hM hg hr=>h.2 M w vs hM hg (RdBL.le hle hr)⟩
theorem yin (x:Ex) (zs:List Zn) (ms:List Tb) (h:Ar17 x zs ms):CallsD Γ prog 10 [.agg (exC x),.one (.sl 9 (zs.map Zn.C)),.one (.sl 3 (ms.map Tb.C))] (.one (cB (wsk x zs ms))):=by
 have f1:=wc3 (Γ:=Γ) x [] ms h.x (by decide) (fun b hb=>by cases hb) (by have:=h.m;omega) h.ms;have f1:CallsD Γ prog 38 [.agg (exC x),.one (.raw (.slice none 0 0)),.one (.sl 3 (ms.map Tb.C))] (.one (cB (wjp x [] ms))):=CallsD.argN f1 (.cons (.refl _) (.cons (.one (.nilSl _)) (.cons (.refl _) .nil)));have hl:=h.b;unfold wsk;generalize wjp x [] ms=b1 at f1;generalize hR:((zs.take 9).all w9c&&(b1&&decide ((zs.length:Int)<=8)))=R;refine CallsD.run [] Go.Proofs.Tryz.func10 rfl rfl rfl ?_;simp only [Go.Proofs.Tryz.f10];refine hgR ?_;refine y55 [1,2,3] (fun n:Nat=>[(7,.one (.dat (cI n)))]) (fun _=>[.box ((exC x).map .dat) (some 24)]) (fun n=>n<=zs.length/\n<=9/\∀ j,j<n->w9c (zs.getD j default)=true) (fun n=>zs.length-n) 0 ⟨Nat.zero_le _,by omega,fun j hj=>by omega⟩ ?_ ?_
 . refine hg ?_;exact StH.same svl rfl
 rintro n ⟨hn,hn9,hj⟩
 have hc:n<zs.length->CallsD Γ prog 16 [.agg (scC (zs.getD n default).s),.one (cI 4)] (.one (cB (decide ((zs.getD n default).s.sz<=4)))):=fun h'=>toD (xmj _ (by have:=(h.bs _ (w4t h')).s;omega))
 refine hg ?_
 repeat' ((first | refine hfk ?_ ?_<;>intros | refine hik ?_ | with_reducible first | refine hcA ?_ | refine hcB ?_ | refine v6l (hc (by omega)) ?_ | refine vgi (hc (by omega)) ?_)<;>refine hgS ?_)
 all_goals first
  | exact ⟨n+1,⟨by omega,by omega,xf4 hj (by unfold w9c;simp only [Bool.and_eq_true,decide_eq_true_eq];omega)⟩,by omega,StH.same svl rfl⟩
  | (rw [<-hR,vep (n:=9) (i:=n) (by omega) (by omega) (by unfold w9c;simp only [Bool.and_eq_false_iff,decide_eq_false_iff_not];omega)];exact RLe.ofEq rfl)
  | (rw [<-hR,zpv hj (by omega)];refine lfE ?_;first | exact trivial | rfl)
theorem x4g (zs:List Zn) (ms:List Tb) (hb:zs.length<=1048576) (hm:ms.length<=1048576) (hbs:∀ b∈zs,b.Sm) (hms:∀ t∈ms,t.Sm):CallsD Γ prog 65 [.one (.sl 9 (zs.map Zn.C)),.one (.sl 3 (ms.map Tb.C))] (.one (cB (entZ zs ms).isSome)):=by
 have hf:=w0x (Γ:=Γ) (zs.map Zn.name) ms (by rw [List.length_map];exact hb) hm (fun s hs=>by
  obtain ⟨b,hb',e⟩:=List.mem_map.1 hs
  rw [<-e];exact (hbs b hb').n) hms
 have hR:(entZ zs ms).isSome=(zs.all (fun b=>decide b.s.ok)&&(ms.all tbOk&&decide (xfk (zs.map Zn.name++ms.map Tb.name)))):=by
  rw [show (entZ zs ms).isSome=_ from xbc,Bool.and_assoc]
 rw [hR];generalize (ms.all tbOk&&decide (xfk (zs.map Zn.name++ms.map Tb.name)))=F at hf;clear hR hms;generalize hR:(zs.all (fun b=>decide b.s.ok)&&F)=R;rw [List.map_map] at hf;refine CallsD.run [] Go.Proofs.Tryz.func65 rfl rfl rfl ?_;simp only [Go.Proofs.Tryz.f65];refine hgR ?_;refine y55 [0,1] (fun n:Nat=>[(5,.one (.sl 0 1 0 n)),(6,.one (.dat (cI n)))]) (fun n=>[.arr (.sl 1 ((zs.take n).map (strC∘Zn.name))) 0 (some 9)])
  (fun n=>n<=zs.length/\∀ j,j<n->(zs.getD j default).s.ok) (fun n=>zs.length-n) 0 ⟨Nat.zero_le _,fun j hj=>by omega⟩ ?_ ?_
 . refine hg ?_;refine StH.trans (StH.empty (d:=5) (es:=1) (c:=.sl 1 []) (T:=some 9) rfl rfl (fun r hr=>by cases hr) rfl) ?_;refine hg ?_;exact StH.same svl rfl
 rintro n ⟨hn,hj⟩
 have hlenA:(zs.take n).length=n:=by rw [List.length_take];omega
 refine hg ?_;refine vnx (fun hlt _=>?_) (fun hlt _=>?_)
 . have hlt':n<zs.length:=by omega
   have hc:=v4r (Γ:=Γ) (zs.getD n default).s (by have:=(hbs _ (w4t hlt')).s;omega)
   have ht:(zs.take n).map (strC∘Zn.name)++[[cS (zs.getD n default).name]]=(zs.take (n+1)).map (strC∘Zn.name):=by
    rw [z4f hlt',List.map_append];rfl
   have hl2:((zs.take (n+1)).map (strC∘Zn.name)).length=n+1:=by simp;omega
   by_cases hok:(zs.getD n default).s.ok
   . rw [decide_eq_true hok] at hc;have hnext:=xf4 (p:=fun j=>(zs.getD j default).s.ok) hj hok;clear hj hok hR;refine hg ?_
     repeat' ((first | refine hfk ?_ ?_<;>intros | refine hik ?_ | with_reducible first | refine hcA ?_ | refine hcB ?_)<;>refine hgS ?_)
     refine ⟨n+1,⟨by omega,hnext⟩,by omega,?_⟩
     try simp only [ht,hl2]
     exact StH.back [0,1,5,6] 0 1 1 rfl rfl rfl rfl rfl (by kernel_rfl) (StH.same svl rfl)
   . rw [decide_eq_false hok] at hc
     rw [<-hR,show zs.all (fun b=>decide b.s.ok)=false by
      cases hall:zs.all (fun b=>decide b.s.ok) with
      | false=>rfl
      | true=>exact absurd (of_decide_eq_true (List.all_eq_true.1 hall _ (w4t hlt'))) hok]
     clear hR ht hok hj;refine hg ?_
     repeat' ((first | refine hfk ?_ ?_<;>intros | refine hik ?_ | with_reducible first | refine hcA ?_ | refine hcB ?_)<;>refine hgS ?_)
     exact RLe.ofEq rfl
 . have e:n=zs.length:=by omega
   subst e
   rw [<-hR,show zs.all (fun b=>decide b.s.ok)=true by
    rw [List.all_eq_true];intro b hb';obtain ⟨j,hj',rfl⟩:=xpi hb'
    exact decide_eq_true (hj j hj'),List.take_length,Bool.true_and]
   clear hR hj;refine hg ?_
   repeat' ((first | refine hfk ?_ ?_<;>intros | refine hik ?_ | with_reducible first | refine hcA ?_ | refine hcB ?_)<;>refine hgS ?_)
   exact RLe.ofEq rfl
theorem xvl {zs:List Zn} {V:Vi} {T:Vt} (hb:zs.length<=1048576) (h:entZ zs ms=some (V,T)):ZnOk zs V:=by
 obtain ⟨h1,_,_,h4,_⟩:=y36 h;exact ⟨by omega,fun b hb'=>x6c (of_decide_eq_true (h1 b hb')),h4⟩
theorem xt2 (x:Ex) (zs:List Zn) (ms:List Tb) (h:Ar17 x zs ms) (hq:∀ b∈zs,b.s.sz<=4):CallsD Γ prog 41 [.agg (exC x),.one (.sl 9 (zs.map Zn.C)),.one (.sl 3 (ms.map Tb.C))] (krR (hulF x zs ms)):=by
 have c1:=zox (Γ:=Γ) x h.x;rw [y8f] at c1;have c2:=yv4 (Γ:=Γ) x h.x;have c3:=x4g (Γ:=Γ) zs ms h.b h.m h.bs h.ms;unfold hulF
 cases h1:xub x with
 | false=>
  rw [h1] at c1;refine CallsD.run [] Go.Proofs.Tryz.func41 rfl rfl rfl ?_;simp only [Go.Proofs.Tryz.f41];refine hgR ?_
  repeat' ((first | refine hfk ?_ ?_<;>intros | refine hik ?_ | with_reducible first | refine hcA ?_ | refine hcB ?_)<;>refine hgS ?_)
  exact xp8 2
 | true=>cases h2:x.xi4 with
  | true=>
   rw [h1] at c1;rw [h2] at c2;refine CallsD.run [] Go.Proofs.Tryz.func41 rfl rfl rfl ?_;simp only [Go.Proofs.Tryz.f41];refine hgR ?_
   repeat' ((first | refine hfk ?_ ?_<;>intros | refine hik ?_ | with_reducible first | refine hcA ?_ | refine hcB ?_)<;>refine hgS ?_)
   exact xp8 2
  | false=>
   rw [h1] at c1;rw [h2] at c2
   cases h3:entZ zs ms with
   | none=>
    rw [h3] at c3;have c3:CallsD Γ prog 65 [.one (.sl 9 (zs.map Zn.C)),.one (.sl 3 (ms.map Tb.C))] (.one (cB false)):=c3;refine CallsD.run [] Go.Proofs.Tryz.func41 rfl rfl rfl ?_;simp only [Go.Proofs.Tryz.f41];refine hgR ?_
    repeat' ((first | refine hfk ?_ ?_<;>intros | refine hik ?_ | with_reducible first | refine hcA ?_ | refine hcB ?_)<;>refine hgS ?_)
    exact xp8 1
   | some p=>
    obtain ⟨V,T⟩:=p;rw [h3] at c3;have c3:CallsD Γ prog 65 [.one (.sl 9 (zs.map Zn.C)),.one (.sl 3 (ms.map Tb.C))] (.one (cB true)):=c3;have hsh:x.shaped=true:=xc3 h1;have hnd:=Nat.le_trans (Nat.mul_le_mul_left 4300 (wl8 h1)) (by decide:4300*200<=33554400);have hV:=vlg (B:=4300) h3 (fun b hb=>by have:=hq b hb;omega);have hT:=x3w h3 h.ms;have c4:=yrq (Γ:=Γ) (B:=4300) (by decide) zs ms V T (xvl h.b h3) (by have:=h.m;omega) hV (fun s=>(y36 h3).2.2.2.2 s) hT x h.x hsh h2 hnd;have hk:=(zfk (B:=4300) (by decide) hV hT x hsh h2).mono hnd;show CallsD _ _ _ _ (krR (x.hul V T));generalize x.hul V T=r at c4 hk
    rcases r with e | k
    . have he:¬e=0:=hk;refine CallsD.run [] Go.Proofs.Tryz.func41 rfl rfl rfl ?_;simp only [Go.Proofs.Tryz.f41];refine hgR ?_
      repeat' ((first | refine hfk ?_ ?_<;>intros | refine hik ?_ | with_reducible first | refine hcA ?_ | refine hcB ?_)<;>refine hgS ?_)
      all_goals first
       | (exfalso;omega)
       | exact xp8 e
    . refine CallsD.run [] Go.Proofs.Tryz.func41 rfl rfl rfl ?_;simp only [Go.Proofs.Tryz.f41];refine hgR ?_
      repeat' ((first | refine hfk ?_ ?_<;>intros | refine hik ?_ | with_reducible first | refine hcA ?_ | refine hcB ?_)<;>refine hgS ?_)
      all_goals first
       | (exfalso;omega)
       | exact RLe.ofEq rfl
theorem ywj (x:Ex) (zs:List Zn) (ms:List Tb) (h:Ar17 x zs ms) (hq:∀ b∈zs,b.s.sz<=4):CallsD Γ prog 12 [.agg (exC x),.one (.sl 9 (zs.map Zn.C)),.one (.sl 3 (ms.map Tb.C))] (hoR (zq3 false (hulF x zs ms))):=by
 have hc:=xt2 (Γ:=Γ) x zs ms h hq;have hk:=z5d (x:=x) (zs:=zs) (ms:=ms) (B:=4300) (by decide) (fun b hb=>by have:=hq b hb;omega) h.ms;generalize hulF x zs ms=r at hc hk ⊢
 rcases r with e | ⟨c,d⟩ | v
 . have he:¬e=0:=hk;show CallsD _ _ _ _ (.tup [.agg (scC Sc.zero),.one (cI e)]);refine CallsD.run [] Go.Proofs.Tryz.func12 rfl rfl rfl ?_;simp only [Go.Proofs.Tryz.f12];refine hgR ?_
   repeat' ((first | refine hfk ?_ ?_<;>intros | refine hik ?_ | with_reducible first | refine hcA ?_ | refine hcB ?_)<;>refine hgS ?_)
   all_goals first
    | (exfalso;omega)
    | exact vr3
 . show CallsD _ _ _ _ (.tup [.agg (scC Sc.zero),.one (cI 13)]);refine CallsD.run [] Go.Proofs.Tryz.func12 rfl rfl rfl ?_;simp only [Go.Proofs.Tryz.f12];refine hgR ?_
   repeat' ((first | refine hfk ?_ ?_<;>intros | refine hik ?_ | with_reducible first | refine hcA ?_ | refine hcB ?_)<;>refine hgS ?_)
   all_goals first
    | (exfalso;omega)
    | exact vr3
 . show CallsD _ _ _ _ (.tup [.agg (ivC v),.one (cI 0)]);refine CallsD.run [] Go.Proofs.Tryz.func12 rfl rfl rfl ?_;simp only [Go.Proofs.Tryz.f12];refine hgR ?_
   repeat' ((first | refine hfk ?_ ?_<;>intros | refine hik ?_ | with_reducible first | refine hcA ?_ | refine hcB ?_)<;>refine hgS ?_)
   all_goals first
    | (exfalso;omega)
    | exact RLe.ofEq rfl
theorem yg3 (x:Ex) (zs:List Zn) (ms:List Tb) (h:Ar17 x zs ms) (hq:∀ b∈zs,b.s.sz<=4):CallsD Γ prog 14 [.agg (exC x),.one (.sl 9 (zs.map Zn.C)),.one (.sl 3 (ms.map Tb.C))] (htR (zq3 true (hulF x zs ms))):=by
 have hc:=xt2 (Γ:=Γ) x zs ms h hq;have hk:=z5d (x:=x) (zs:=zs) (ms:=ms) (B:=4300) (by decide) (fun b hb=>by have:=hq b hb;omega) h.ms;generalize hulF x zs ms=r at hc hk ⊢
 rcases r with e | ⟨c,d⟩ | v
 . have he:¬e=0:=hk;show CallsD _ _ _ _ (.tup [.one (cB false),.one (cB false),.one (cI e)]);refine CallsD.run [] Go.Proofs.Tryz.func14 rfl rfl rfl ?_;simp only [Go.Proofs.Tryz.f14];refine hgR ?_
   repeat' ((first | refine hfk ?_ ?_<;>intros | refine hik ?_ | with_reducible first | refine hcA ?_ | refine hcB ?_)<;>refine hgS ?_)
   all_goals first
    | (exfalso;omega)
    | exact RLe.ofEq rfl
 . show CallsD _ _ _ _ (.tup [.one (cB c),.one (cB d),.one (cI 0)]);refine CallsD.run [] Go.Proofs.Tryz.func14 rfl rfl rfl ?_;simp only [Go.Proofs.Tryz.f14];refine hgR ?_
   repeat' ((first | refine hfk ?_ ?_<;>intros | refine hik ?_ | with_reducible first | refine hcA ?_ | refine hcB ?_)<;>refine hgS ?_)
   all_goals first
    | (exfalso;omega)
    | exact RLe.ofEq rfl
 . show CallsD _ _ _ _ (.tup [.one (cB false),.one (cB false),.one (cI 13)]);refine CallsD.run [] Go.Proofs.Tryz.func14 rfl rfl rfl ?_;simp only [Go.Proofs.Tryz.f14];refine hgR ?_
   repeat' ((first | refine hfk ?_ ?_<;>intros | refine hik ?_ | with_reducible first | refine hcA ?_ | refine hcB ?_)<;>refine hgS ?_)
   all_goals first
    | (exfalso;omega)
    | exact RLe.ofEq rfl
end Go.Hp.T
namespace Go.Slot
open Go Go.RowKit Go.ChangeShapes
variable {P:Program} {H:Type} {enc:TypeId×Value->H} {w:World} {spare:Nat->Bool} {held:Bool}
variable {a:Addr}
inductive Sp where
 | int (k:IntKind)
 | bool
 | str
 | ints (k:IntKind)
 | sl (l:List Sp)
inductive Fit (N:Nat):Sp->Cell->Prop
 | int {k:IntKind} {n:Int} (h:k.min<=n/\n<=k.max):Fit N (.int k) (.raw (.int k n))
 | bool {b:Bool}:Fit N .bool (.raw (.bool b))
 | str {s:ByteArray} (h:s.size<=N):Fit N .str (.raw (.string s))
 | ints {k:IntKind} {L:List Int} (hl:L.length<=N) (h:∀ x∈L,k.min<=x/\x<=k.max):Fit N (.ints k) (.ints k L)
 | sl {l:List Sp} {rows:List (List Cell)} (hl:rows.length<=N) (hlen:∀ r∈rows,r.length=l.length) (h:∀(r:List Cell),r∈rows->∀(i:Nat) (s:Sp) (c:Cell),l[i]? = some s->r[i]? = some c->Fit N s c):Fit N (.sl l) (.sl l.length rows)
def FitL (N:Nat) (l:List Sp) (cs:List Cell):Prop:=cs.length=l.length/\∀(i:Nat) (s:Sp) (c:Cell),l[i]? = some s->cs[i]? = some c->Fit N s c
theorem FitL.one {N:Nat} {s:Sp} {c:Cell} (h:Fit N s c):FitL N [s] [c]:=⟨rfl,fun i s' c' hs hc=>by
 cases i with
 | zero=>simp at hs hc;subst hs hc;exact h
 | succ i=>simp at hs⟩
structure Bulk (bk:DataW H->Nat):Prop where
 str:∀ b,b.length<=bk (.lit (.string b))
 elems:∀ l r,l.length<=bk (.slice l r)
 elem:∀ l r d,d∈l->bk d<=bk (.slice l r)
 part:∀ l d,d∈l->bk d<=bk (.agg l)
theorem RdD.app0 {M:Nat->Nat->Prop} {w:World}:∀{vs us:List Value} {cs ds:List Cell},RdD M w vs cs->RdD M w us ds->RdD M w (vs++us) (cs++ds)
 | [],_,[],_,_,h=>h
 | _::_,_,_::_,_,h,h'=>⟨h.1,RdD.app0 h.2 h'⟩
theorem cellAt {v:Value} (h:w.cell? a=some v):a.spot=none:=by
 unfold World.cell? at h;split at h
 . split at h
   . cases h
   . rename_i hs;simpa using hs
 . cases h
theorem addrAt (h:a.spot=none) (n:Nat):a.add n=⟨a.block,a.off+n,none⟩:=by
 unfold Addr.add
 split
 . rename_i e;subst e;cases a;simp at h;subst h;rfl
 . rfl
section
variable {bk:DataW H->Nat} {N:Nat}
end
end Go.Slot
namespace Go.Slot
open Go Go.RowKit Go.ChangeShapes Go.WideShapes
variable {P:Program} {H:Type} {enc:TypeId×Value->H}
variable {W W':World}
def M0:Nat->Nat->Prop:=fun _ _=>False
section
variable {w:World} {spare:Nat->Bool} {held:Bool} {bk:DataW H->Nat} {N:Nat} {r:Reach} {b0:Nat}
end
theorem ylq (hl:laidOutB P=true) {W W':World} (hb:Below W.heap.size W W') {sp:Nat->Bool}:∀{ts:List TypeId} {vs:List Value} {ds:List (DataW H)} {ps:List MemPlace},(∀ t∈ts,P.readableRec t=true/\t<P.types.size)->
 DataW.TrodAll enc P W 0 (fun _=>true) true ts vs ds ps->(∀ p∈ps,p.block<W.heap.size)->(∀ p∈ps,sp p.block=true)->DataW.TrodAll enc P W' 0 sp true ts vs ds ps
 | [],vs,ds,ps,_,h,_,_=>by
  obtain ⟨rfl,rfl,rfl⟩:=trodAll_nil h;exact trodAll_mk0
 | t::ts,vs,ds,ps,hts,h,hlt,hsp=>by
  obtain ⟨v,vs',d,ds',p,q,rfl,rfl,rfl,⟨fuel,h1⟩,h2⟩:=trodAll_cons h;have ht:=hts t (by simp)
  exact ⟨p,q,⟨fuel,DataW.trod_stays (kids_book hl ht.1) (book_sized ht.1) (fun h=>by cases h) ⟨ht.2,book_self t⟩ h1 (fun x hx=>hb.same (hlt x (by simp [hx]))) (fun x hx=>hsp x (by simp [hx]))⟩,
   ylq hl hb (fun u hu=>hts u (by simp [hu])) h2 (fun x hx=>hlt x (by simp [hx])) (fun x hx=>hsp x (by simp [hx])),rfl⟩
theorem zx6 {may:MemPlace->Prop} (hb:Below W.heap.size W W'):W.keptBut W' may:=by
 refine ⟨hb.os,hb.output,fun i hi=>?_⟩;rw [hb.block i hi]
 split
 . rename_i h1 h2;rw [h1] at h2;cases h2;exact ⟨rfl,rfl,rfl,fun _ _=>rfl⟩
 . rename_i h1 h2;rw [h1] at h2;cases h2;exact .inr ⟨rfl,rfl⟩
 . rfl
theorem vnd (hb:Below W.heap.size W W') {a:Addr} (h:a.block<W.heap.size):W'.frozen? a=W.frozen? a:=by
 unfold World.frozen?;rw [hb.block _ h]
theorem vmu (hl:laidOutB P=true) {f:Func} {s:ChangeSpec} {apart fresh handsOn again:Bool} {args:Array Value} {ds gs:List (DataW H)} {before:List MemPlace} {tb:TypeId}
 (hts:∀ t∈f.params.toList,P.readableRec t=true/\t<P.types.size) (hv:s.vars=[]) (hrt:f.resultTypes=#[tb]) (htb:P.underlying tb=some .bool)
 (hfn:∀ ds gs:List (DataW H),DataW.TrodAll enc P W 0 (fun _=>true) true f.params.toList args.toList ds before->gs=[]->(s.fn H (ds++gs)).results=[.lit (.bool true)]/\(s.fn H (ds++gs)).args=ds/\(s.fn H (ds++gs)).vars=[])
 (hW:DataW.Whole enc P f.params.toList s.vars apart W args.toList ds gs before) (hb:Below W.heap.size W W'):s.post enc P f apart fresh handsOn again W args (.bool true) W':=by
 have hlt:∀ p∈before,p.block<W.heap.size:=fun p hp=>hW.lt p hp
 have hW':=hW;obtain ⟨p,q,hA,hV,rfl,hfz,hnd⟩:=hW;rw [hv] at hV;obtain ⟨rfl,rfl⟩:=trodVars_none hV;rw [List.append_nil] at hW' hlt hfz hnd hfn;obtain ⟨e1,e2,e3⟩:=hfn ds [] hA rfl
 have hres:∀(b:Nat) (sp:Nat->Bool) (hd:Bool),DataW.TrodAll enc P W' b sp hd f.resultTypes.toList ((Value.bool true).resultList f.resultTypes.size) (s.fn H (ds++[])).results []:=fun b sp hd=>by
  rw [e1,hrt];exact trodAll_cons_mk (shut_bool htb true) trodAll_mk0
 have hargs:∀ sp:Nat->Bool,(∀ x∈p,sp x.block=true)->DataW.TrodAll enc P W' 0 sp true f.params.toList args.toList (s.fn H (ds++[])).args p:=fun sp hsp=>by
  rw [e2];exact ylq hl hb hts hA hlt hsp
 have hvars:∀ sp:Nat->Bool,DataW.TrodVars enc P W' sp s.vars (s.fn H (ds++[])).vars []:=fun sp=>by
  rw [e3,hv];exact rfl
 refine ⟨ds,[],p,[],p,[],hW',hres _ _ _,hargs _ (fun x hx=>by simpa using hlt x hx),hvars _,zx6 hb,fun _=>⟨?_,_,_,([]++p)++[],⟨[]++p,[],trodAll_append (hargs _ (fun _ _=>rfl)) (hres _ _ _),hvars _,rfl,?_,?_⟩,?_⟩⟩
 . exact ok_one hrt rfl (okWide_bool_mk htb true)
 . intro b off hp
   have hp':MemPlace.cell b off∈p:=by simpa using hp
   rw [vnd hb (hlt _ hp')];exact hfz b off hp'
 . intro ha;simpa using hnd ha
 . intro x hx _;simpa using hx
end Go.Slot
