/- The proof, part X34: A5, A6, Qa. -/
import Derived.Test.YtpkininnjhbeaaaGreatDoorX33
import Derived.Test.YtpkininnjhbeaaaGreatDoorX29
namespace Go.Hp.T
open Go Go.RowKit Go.Slot Go.Hp Go.Slot.T
open Go.Proofs.Tryz (prog)
set_option maxRecDepth 10000
set_option maxHeartbeats 8000000
variable {Γ:List (Nat×List Cell)}
variable {B:Nat}
theorem v58 (q:Rat) (h:qs q<=67108864):CallsD Γ prog 52 [.agg (qC (some q))] (.agg (qC (some q))):=by
 have:=vrk (Γ:=Γ) (Fc.of q) h
 rw [Af.zvt] at this;exact this
theorem zex (n:Nat) (V:Va) (T:Vt) (x:Ex) (hl:3<=x.args.length) (hl2:x.args.length<=1073741824)
 (h:∀ i,i<3->xpp Γ prog 41 (rdE n V T) [.one (.ptr 0 0),.agg ((exC (x.args.getD i default)).map .dat)] (rdE n V T) (thS ((x.args.getD i default).aff n V T))) :
 xpp Γ prog 82 (rdE n V T) [.one (.ptr 0 0),.agg ((exC x).map .dat)] (rdE n V T) (thS (chA (x.args.map (Ex.aff n V T)))):=by
 have h0:=h 0 (by decide);have h1:=h 1 (by decide);have h2:=h 2 (by decide);clear h
 have e:chA (x.args.map (Ex.aff n V T))=bif decide (¬((x.args.getD 0 default).aff n V T).2=0) then (Th.zero,((x.args.getD 0 default).aff n V T).2) else bif !((x.args.getD 0 default).aff n V T).1.t then (Th.zero,13) else bif ((x.args.getD 0 default).aff n V T).1.i then (x.args.getD 1 default).aff n V T else (x.args.getD 2 default).aff n V T:=by
  unfold chA;rw [getD_map (show 0<x.args.length by omega),getD_map (show 1<x.args.length by omega),getD_map (show 2<x.args.length by omega)]
 rw [e];generalize (x.args.getD 0 default).aff n V T=r0 at h0;generalize (x.args.getD 1 default).aff n V T=r1 at h1;generalize (x.args.getD 2 default).aff n V T=r2 at h2;obtain ⟨⟨t0,i0,v0,l0⟩,e0⟩:=r0;simp only at h0 ⊢;refine xpp.run [] Go.Proofs.Tryz.func82 rfl rfl ?_;simp only [Go.Proofs.Tryz.f82];refine hgR ?_;refine hg ?_;refine x6x (xpp.preN h0 (zt9 n V T) rfl rfl) ?_;clear h0;refine hg ?_
 repeat' ((first | refine hfk ?_ ?_<;>intros | refine hik ?_)<;>refine hgS ?_)
 . exact StH.z9p rfl (by kernel_rfl) rfl rfl
 . exact StH.z9p rfl (by kernel_rfl) rfl rfl
 . refine x6x (xpp.preN h1 (zt9 n V T) rfl rfl) ?_;refine hg ?_
   repeat' ((first | refine hfk ?_ ?_<;>intros | refine hik ?_)<;>refine hgS ?_)
   exact StH.vzq rfl (by kernel_rfl) (by simp [*])
 . refine x6x (xpp.preN h2 (zt9 n V T) rfl rfl) ?_;refine hg ?_
   repeat' ((first | refine hfk ?_ ?_<;>intros | refine hik ?_)<;>refine hgS ?_)
   exact StH.vzq rfl (by kernel_rfl) (by simp [*])
theorem wzo (n:Nat) (V:Va) (T:Vt) (x:Ex) (hx:x.Sm) (hn:inI x.n) (h0:x.op=0) (h6:n<=6):xpp Γ prog 81 (rdE n V T) [.one (.ptr 0 0),.agg ((exC x).map .dat)] (rdE n V T) (thS (wfn n x.n x.unit)):=by
 have hu:=hx.u;have hz:=x10 hn;have ho:=oInt (Γ:=Γ) x.n hn
 rcases veq x.unit with ⟨u,h,hq⟩ | ⟨e,he,h⟩
 . have hr:=xyv (Γ:=Γ) hu h;obtain ⟨r1,r2⟩:=yv0 h;have hf:=zdl (Γ:=Γ) (x.n:Rat) u r1 r2 (Nat.le_trans hz (by decide)) (by omega);have hnum:=yfa (Γ:=Γ) n V T (some ((x.n:Rat)*u.f)) h6
   have e1:wfn n x.n x.unit=(numA n (some ((x.n:Rat)*u.f)),0):=by unfold wfn facO;rw [h];rfl
   rw [e1];refine xpp.run [] Go.Proofs.Tryz.func81 rfl rfl ?_;simp only [Go.Proofs.Tryz.f81];refine hgR ?_
   repeat' ((first | refine hfk ?_ ?_<;>intros | refine hik ?_ | with_reducible first | refine wml (hr) ?_ | refine ysj (hr) ?_ | refine wml (ho) ?_ | refine ysj (ho) ?_ | refine wml (hf) ?_ | refine ysj (hf) ?_)<;>refine hgS ?_)
   all_goals try (exfalso;omega)
   refine x6x (xpp.preN hnum (zt9 n V T) rfl rfl) ?_;refine hg ?_
   repeat' ((first | refine hfk ?_ ?_<;>intros | refine hik ?_)<;>refine hgS ?_)
   exact StH.vzq rfl (by kernel_rfl) rfl
 . have hr:=xmw (Γ:=Γ) x.unit hu;rw [h] at hr
   have e1:wfn n x.n x.unit=(⟨false,false,none,[]⟩,14):=by unfold wfn;rw [h];simp only [decide_eq_true he,cond_true];rfl
   rw [e1];refine xpp.run [] Go.Proofs.Tryz.func81 rfl rfl ?_;simp only [Go.Proofs.Tryz.f81];refine hgR ?_
   repeat' ((first | refine hfk ?_ ?_<;>intros | refine hik ?_ | with_reducible first | refine wml (hr) ?_ | refine ysj (hr) ?_)<;>refine hgS ?_)
   all_goals first
    | (exfalso;omega)
    | exact StH.z9p rfl (by kernel_rfl) rfl rfl
def lfB (n:Nat) (V:Va) (T:Vt) (x:SB) (k:Rat) (cs:List Rat):Nat->List SB
 | 0=>rdE n V T++[x,.box ((thZ false false).map .dat) (some 80),.box ((afC (k,cs)).map .dat) (some 36),.box [.dat (.raw (.int .i64 (qF (some k)).s)),.dat (.ints .i64 (qF (some k)).L),.dat (.raw (.int .i64 (qF (some k)).t)),.dat (.ints .i64 (qF (some k)).M),.dat .zc] (some 36)]
 | i+1=>rdE n V T++[x,.box ((thZ false false).map .dat) (some 80),.box ((afC (k,cs)).map .dat) (some 36),.box [.dat (.raw (.int .i64 (qF (some k)).s)),.dat (.ints .i64 (qF (some k)).L),.dat (.raw (.int .i64 (qF (some k)).t)),.dat (.ints .i64 (qF (some k)).M),.sl 7 4 0 (i+1)] (some 36),.arr (.sl 4 ((cs.take (i+1)).map rowQ)) 0 (some 33)]
theorem xuk (n:Nat) (V:Va) (T:Vt) (x:Ex) (_hx:x.Sm) (h1:x.op=1) (hV:∀ s f,z2f V s=some f->f.2.length<=1048576/\qs f.1<=67108864/\∀ q∈f.2,qs q<=67108864):xpp Γ prog 81 (rdE n V T) [.one (.ptr 0 0),.agg ((exC x).map .dat)] (rdE n V T) (thS (x5b V x.name)):=by
 unfold x5b
 cases hlk:z2f V x.name with
 | none=>
  show xpp _ _ _ _ _ _ (thS (⟨false,false,none,[]⟩,11));refine xpp.run [] Go.Proofs.Tryz.func81 rfl rfl ?_;simp only [Go.Proofs.Tryz.f81];refine hgR ?_
  repeat' ((first | refine hfk ?_ ?_<;>intros | refine hik ?_)<;>refine hgS ?_)
  all_goals try (exfalso;omega)
  refine hg1 @hlk ?_
  repeat' ((first | refine hfk ?_ ?_<;>intros | refine hik ?_)<;>refine hgS ?_)
  all_goals first
   | (exfalso;omega)
   | exact StH.z9p rfl (by kernel_rfl) rfl rfl
 | some f=>
  obtain ⟨k,cs⟩:=f;obtain ⟨v1,v2,v3⟩:=hV _ _ hlk;simp only at v1 v2 v3;have c0:=v58 (Γ:=Γ) k v2
  have ci:∀ i,i<cs.length->CallsD Γ prog 52 [.agg (qC (some (cs.getD i default)))] (.agg (qC (some (cs.getD i default)))):=fun i hi=>v58 (Γ:=Γ) _ (v3 _ (by simp [hi]))
  show xpp _ _ _ _ _ _ (thS (⟨false,false,some k,cs⟩,0));refine xpp.run [] Go.Proofs.Tryz.func81 rfl rfl ?_;simp only [Go.Proofs.Tryz.f81];refine hgR ?_
  repeat' ((first | refine hfk ?_ ?_<;>intros | refine hik ?_)<;>refine hgS ?_)
  all_goals try (exfalso;omega)
  refine hg1 @hlk ?_
  repeat' ((first | refine hfk ?_ ?_<;>intros | refine hik ?_ | with_reducible first | refine wml (c0) ?_ | refine ysj (c0) ?_)<;>refine hgS ?_)
  all_goals try (exfalso;omega)
  refine x20 [3,4,6,8,35,36] (fun i:Nat=>[(37,.one (.dat (cI (i))))]) (lfB n V T (.box [.dat (cI 1),.dat (cI x.n),.dat (cS x.unit),.dat (cS x.name),.dat (.sl 5 (x.args.map Ex.cells))] (some 24)) k cs)
   (fun i=>i<=cs.length) (fun i=>cs.length-i) 0 (Nat.zero_le _) ?_ ?_
  . refine hg ?_;exact StH.same svl rfl
  intro i hi
  rcases i with _ | i
  . simp only [lfB];refine hg ?_;refine vt2 (fun h _=>?_) (fun h _=>?_)
    . have hsn:[rowQ (cs.getD 0 default)]=(cs.take (0+1)).map rowQ:=by
       rw [wcz (by omega)];rfl
      have c1:=ci 0 (by omega);refine hg ?_
      repeat' ((first | refine hfk ?_ ?_<;>intros | refine hik ?_ | with_reducible first | refine wml (c1) ?_ | refine ysj (c1) ?_)<;>refine hgS ?_)
      refine ⟨1,by omega,by omega,?_⟩;simp only;rw [<-hsn];exact StH.z04 [3,4,6,8,35,36,37] 7 8 8 rfl rfl rfl rfl rfl rfl rfl (by kernel_rfl) (StH.same svl rfl)
    . have h0:cs=[]:=List.eq_nil_of_length_eq_zero (by omega);subst h0;refine hg ?_
      repeat' ((first | refine hfk ?_ ?_<;>intros | refine hik ?_)<;>refine hgS ?_)
      exact StH.trans (StH.vzq rfl (by kernel_rfl) rfl) (StH.tup1 (.cons (.agg (.cons (.refl _) (.cons (.refl _) (.cons (.refl _) (.cons (.refl _) (.cons (.refl _) (.cons (.refl _) (.cons (.dat (.zcSl _)) .nil)))))))) (.cons (.refl _) .nil)))
  . simp only [lfB]
    have hz:(cs.take (i+1)).length=i+1:=by simp;omega
    refine hg1 @hz ?_;refine vt2 (fun h _=>?_) (fun h _=>?_)
    . have hsn:(cs.take (i+1)).map rowQ++[rowQ (cs.getD (i+1) default)]=(cs.take (i+1+1)).map rowQ:=by
       rw [wcz (l:=cs) (i:=i+1) (by omega),List.map_append];rfl
      have c1:=ci (i+1) (by omega);refine hg1 @hz ?_
      repeat' ((first | refine hfk ?_ ?_<;>intros | refine hik ?_ | with_reducible first | refine wml (c1) ?_ | refine ysj (c1) ?_)<;>refine hgS ?_)
      refine ⟨i+1+1,by omega,by omega,?_⟩;simp only;rw [<-hsn];refine StH.z04 [3,4,6,8,35,36,37] 7 9 8 rfl rfl rfl rfl rfl rfl rfl (by kernel_rfl) (StH.same svl ?_);simp only [List.length_append,List.length_map,List.length_singleton,hz];rfl
    . have e1:cs.take (i+1)=cs:=List.take_of_length_le (by omega);refine hg1 @hz ?_
      repeat' ((first | refine hfk ?_ ?_<;>intros | refine hik ?_)<;>refine hgS ?_)
      rw [e1];refine StH.v0g (avs:=[.agg (thC ⟨false,false,some k,cs⟩),.one (cI 0)]) (bs:=[7]) ?_ rfl rfl (by kernel_rfl) rfl;rw [e1] at hz;simp [zfb,argD,w8n,zyf,gB,Cell.esz,Cell.cnt,Hp.subC,hz]
theorem wto {n:Nat} (hB:4300<=B) (V:Va) (T:Vt) (hV:Asm n B V) (hT:∀ s t,z2f T s=some t->t.Sm/\tbOk t=true) (h6:n<=6):∀ x:Ex,x.Sm->x.shaped=true->x.wqm=false->B*x.nd<=33554432->xpp Γ prog 41 (rdE n V T) [.one (.ptr 0 0),.agg ((exC x).map .dat)] (rdE n V T) (thS (x.aff n V T)):=by
 refine Ex.ind (fun x ih hx hsh hcl hnd=>?_);have hl:=hx.len;have haff:=Ex.xpb n V T x
 have hnode:xer x=true:=by rw [Ex.ypb,Bool.and_eq_true] at hsh;exact hsh.1
 have hargs:∀ y∈x.args,y.shaped=true:=by rw [Ex.ypb,Bool.and_eq_true,List.all_eq_true] at hsh;exact hsh.2
 have hcalls:x.op≠3/\∀ y∈x.args,y.wqm=false:=by
  rw [Ex.xrx,Bool.or_eq_false_iff,decide_eq_false_iff_not,List.any_eq_false] at hcl;exact ⟨hcl.1,fun y hy=>by simpa using hcl.2 y hy⟩
 have hnds:∀ y∈x.args,B*y.nd<=33554432:=fun y hy=>Nat.le_trans (Nat.mul_le_mul_left _ (by have:=Ex.xka hy;have:=Ex.xk0 x;omega)) hnd
 have hB2:B<=B*x.nd:=Nat.le_mul_of_pos_right _ (by rw [Ex.xk0];omega);by_cases hne:x.args.length=0
 . have hlf:xpp Γ prog 81 (rdE n V T) [.one (.ptr 0 0),.agg ((exC x).map .dat)] (rdE n V T) (thS (x.aff n V T)):=by
    by_cases h0:x.op=0
    . rw [decide_eq_true h0,cond_true] at haff;have hn:=xsm hnode h0;rw [haff];exact wzo n V T x hx (by unfold inI;omega) h0 h6
    . rw [decide_eq_false h0, cond_false] at haff;by_cases h1:x.op=1
      . rw [decide_eq_true h1,cond_true] at haff;rw [haff]
        exact xuk n V T x hx h1 (fun s f hf=>by
         obtain ⟨a1,a2,a3⟩:=hV s f hf
         exact ⟨by omega,by omega,fun q hq=>by have:=a3 q hq;omega⟩)
      . exfalso;unfold xer at hnode;rw [decide_eq_false h0,decide_eq_false h1,hne] at hnode;simp at hnode
   refine xpp.run [] Go.Proofs.Tryz.func41 rfl rfl ?_;simp only [Go.Proofs.Tryz.f41];refine hgR ?_
   repeat' ((first | refine hfk ?_ ?_<;>intros | refine hik ?_)<;>refine hgS ?_)
   all_goals try (exfalso;omega)
   refine x6x (xpp.preN hlf (zt9 n V T) rfl rfl) ?_;refine hg ?_
   repeat' ((first | refine hfk ?_ ?_<;>intros | refine hik ?_)<;>refine hgS ?_)
   exact StH.vzq rfl (by kernel_rfl) rfl
 have h0:x.op≠0:=fun h=>by
  unfold xer at hnode;rw [decide_eq_true h] at hnode;simp only [cond_true,Bool.and_eq_true,decide_eq_true_eq] at hnode;omega
 have h1:x.op≠1:=fun h=>by
  unfold xer at hnode;rw [decide_eq_false h0,cond_false] at hnode
  cases hc:(decide (¬x.n=0)||decide (¬x.unit.size=0)) with
  | true=>rw [hc] at hnode;cases hnode
  | false=>
   rw [hc,decide_eq_true h] at hnode;simp only [cond_true,cond_false,Bool.and_eq_true,decide_eq_true_eq] at hnode;omega
 rw [decide_eq_false h0,cond_false,decide_eq_false h1,cond_false] at haff;obtain ⟨hl2,hl3⟩:=zd3 hnode hcalls.1 hne;by_cases h5:x.op=5
 . rw [decide_eq_true h5,cond_true] at haff;rw [haff];have hl3':=hl3 h5
   have hch:=zex (Γ:=Γ) n V T x hl3' hl (fun i hi=>by
    have hm:=y7p (show i<x.args.length by omega)
    exact ih _ hm (hx.arg _ hm) (hargs _ hm) (hcalls.2 _ hm) (hnds _ hm))
   refine xpp.run [] Go.Proofs.Tryz.func41 rfl rfl ?_;simp only [Go.Proofs.Tryz.f41];refine hgR ?_
   repeat' ((first | refine hfk ?_ ?_<;>intros | refine hik ?_)<;>refine hgS ?_)
   all_goals try (exfalso;omega)
   rw [show cI 5=cI x.op by rw [h5]];refine x6x (xpp.preN hch (zt9 n V T) rfl rfl) ?_;refine hg ?_
   repeat' ((first | refine hfk ?_ ?_<;>intros | refine hik ?_)<;>refine hgS ?_)
   exact StH.vzq rfl (by kernel_rfl) rfl
 rw [decide_eq_false h5,cond_false] at haff
 have hG:∀ y∈x.args,(y.aff n V T).2=0->(y.aff n V T).1.G n 33554432:=fun y hy h=>(xni (T:=T) hB hV y (hargs y hy) (hcalls.2 y hy) h).mono (by have:=hnds y hy;omega)
 rw [haff];clear haff hnd hV hB2;generalize hS:seqA (x.args.map (Ex.aff n V T))=S;refine xpp.run [] Go.Proofs.Tryz.func41 rfl rfl ?_;simp only [Go.Proofs.Tryz.f41];refine hgR ?_
 repeat' ((first | refine hfk ?_ ?_<;>intros | refine hik ?_)<;>refine hgS ?_)
 all_goals try (exfalso;omega)
 refine x20 [0,3,4,29,30] (fun p:Nat×List Th=>[(6,.one (.sl 5 7 0 p.2.length)),(31,.one (.dat (cI p.1)))])
  (fun p=>rdE n V T++[.box ((exC x).map .dat) (some 24),.box ((thZ false false).map .dat) (some 80),.arr (.sl 7 (p.2.map Th.C)) 0 (some 80)])
  (fun p=>p.1<=x.args.length/\p.2.length=p.1/\(∀ r∈p.2,r.G n 33554432)/\S=match seqA ((x.args.drop p.1).map (Ex.aff n V T)) with
    | .inl e=>.inl e
    | .inr r=>.inr (p.2++r)) (fun p=>x.args.length-p.1) (0,[]) ⟨Nat.zero_le _,rfl,fun r hr=>(by cases hr),by simp only [List.drop_zero,List.nil_append];rw [hS];cases S<;>rfl⟩ ?_ ?_
 . refine hg ?_;refine StH.trans (StH.empty (d:=6) (es:=7) (c:=.sl 7 []) (T:=some 80) rfl rfl (fun r hr=>by cases hr) rfl) ?_;refine hg ?_;exact StH.same svl rfl
 clear hS;rintro ⟨i,rs⟩ ⟨q1,q2,q3,q4⟩;simp only at q1 q2 q3 q4;refine hg ?_;refine vt2 (fun hlt _=>?_) (fun hlt _=>?_)
 . have hlt':i<x.args.length:=by omega
   have hy:=y7p hlt';rw [xfc hlt',List.map_cons] at q4;have hGy:=hG _ hy;refine hg ?_;refine x6x (xpp.preN (ih _ hy (hx.arg _ hy) (hargs _ hy) (hcalls.2 _ hy) (hnds _ hy)) (zt9 n V T) rfl rfl) ?_;generalize hr:Ex.aff n V T (x.args.getD i default)=r at q4 hGy ⊢;obtain ⟨t,e⟩:=r;rw [seqA] at q4;simp only at q4 hGy;refine hg ?_;refine vt2 (fun he hd=>?_) (fun he hd=>?_)
   . refine hg ?_
     have q4':S=.inl e:=by rw [q4,show decide (¬e=0)=true from hd];rfl
     rw [q4'];exact StH.z9p rfl (by kernel_rfl) rfl rfl
   . refine hg ?_;rw [show decide (¬e=0)=false from hd,cond_false] at q4;have hGt:=hGy (by omega)
     have q4':S=match seqA ((x.args.drop (i+1)).map (Ex.aff n V T)) with
      | .inl e=>.inl e
      | .inr r=>.inr ((rs++[t])++r):=by
      rw [q4]
      cases seqA ((x.args.drop (i+1)).map (Ex.aff n V T)) with
      | inl e=>rfl
      | inr r=>simp only [List.append_assoc,List.singleton_append]
     have hmap:rs.map Th.C++[thC t]=(rs++[t]).map Th.C:=by simp;rfl
     rw [hmap]
     refine ⟨(i+1,rs++[t]),⟨by dsimp only;omega,by dsimp only;rw [List.length_append,List.length_singleton,q2],fun r hr'=>by
      rcases List.mem_append.1 hr' with h | h
      . exact q3 r h
      . rw [List.mem_singleton.1 h];exact hGt,q4'⟩,by dsimp only;omega,?_⟩
     refine StH.z04 [0,3,4,6,29,30,31] 5 8 6 rfl rfl rfl rfl rfl rfl rfl (by kernel_rfl) ?_;refine hg ?_;exact StH.same svl rfl
 . have q4':S=.inr rs:=by rw [q4,List.drop_eq_nil_of_le (by omega)];show (match seqA [] with | .inl e=>Sum.inl e | .inr r=>Sum.inr (rs++r))=_;rw [seqA];simp only [List.append_nil]
   rw [q4'];clear q4 q4' ih hG
   have hlen:rs.length=x.args.length:=by omega
   have hlen0:0<rs.length:=by omega
   have hr0:=q3 _ (y7p (show 0<rs.length by omega));by_cases h2:x.op=2
   . have hk:=yyg (Γ:=Γ) V T x.name (rs.getD 0 default) hr0 h6 (by decide) hT;rw [show wxq n T x.op x.name (.inr rs)=xu8 n T x.name (rs.getD 0 default) by show opA n T x.op x.name rs=_;unfold opA;rw [decide_eq_true h2];rfl];refine hg ?_
     repeat' ((first | refine hfk ?_ ?_<;>intros | refine hik ?_)<;>refine hgS ?_)
     all_goals try (exfalso;omega)
     refine xhw 3 (fun ξ=>xpp.preN hk (zt9 n V T) rfl rfl) rfl rfl ?_;generalize xu8 n T x.name (rs.getD 0 default)=r;obtain ⟨⟨t,i,v,l⟩,e⟩:=r;refine hg ?_
     repeat' ((first | refine hfk ?_ ?_<;>intros | refine hik ?_)<;>refine hgS ?_)
     exact StH.vzq rfl (by kernel_rfl) rfl
   have hlg:∀ h:x.op=4\/x.op=14\/x.op=15,wxq n T x.op x.name (.inr rs)=logA x.op rs:=fun h4=>by
    show opA n T x.op x.name rs=_;unfold opA;rw [decide_eq_false h2,show (decide (x.op=4)||decide (x.op=14)||decide (x.op=15))=true by rcases h4 with h | h | h<;>simp [h]];rfl
   by_cases h4:x.op=4\/x.op=14\/x.op=15
   . have hk:=y34 (Γ:=Γ) x.op rs hlen0 (by omega) (fun h=>by
      have:=hl2 h2 (fun h4=>by omega)
      omega)
     rw [hlg h4];generalize logA x.op rs=r at hk;obtain ⟨⟨t,i,v,l⟩,e⟩:=r;refine hg ?_
     rcases h4 with h4 | h4 | h4
     all_goals
      rw [h4] at hk
      repeat' ((first | refine hfk ?_ ?_<;>intros | refine hik ?_ | with_reducible first | refine wml (hk) ?_ | refine ysj (hk) ?_)<;>refine hgS ?_)
      all_goals first
       | (exfalso;omega)
       | exact StH.vzq rfl (by kernel_rfl) rfl
   clear hlg;have hl:=hl2 h2 (fun h=>h4 (.inl h))
   have hlen1:1<rs.length:=by omega
   have hr1:=q3 _ (y7p hlen1)
   have hop:wxq n T x.op x.name (.inr rs)=bif decide (x.op=8)||decide (x.op=9) then scaA x.op (rs.getD 0 default) (rs.getD 1 default) else
    bif decide (x.op=6)||decide (x.op=7) then sumA x.op (rs.getD 0 default) (rs.getD 1 default) else cmpA x.op (rs.getD 0 default) (rs.getD 1 default):=by
    show opA n T x.op x.name rs=_;unfold opA;rw [decide_eq_false h2,show (decide (x.op=4)||decide (x.op=14)||decide (x.op=15))=false by simp only [Bool.or_eq_false_iff,decide_eq_false_iff_not];exact ⟨⟨fun h=>h4 (.inl h),fun h=>h4 (.inr (.inl h))⟩,fun h=>h4 (.inr (.inr h))⟩];rfl
   rw [hop];clear hop;by_cases h8:x.op=8\/x.op=9
   . have hk:=zda (Γ:=Γ) x.op h8 (rs.getD 0 default) (rs.getD 1 default) hr0 hr1 (by omega) (by decide);rw [show (decide (x.op=8)||decide (x.op=9))=true by rcases h8 with h | h<;>simp [h],cond_true];generalize scaA x.op (rs.getD 0 default) (rs.getD 1 default)=r at hk;obtain ⟨⟨t,i,v,l⟩,e⟩:=r;refine hg ?_
     rcases h8 with h8 | h8
     all_goals
      rw [h8] at hk
      repeat' ((first | refine hfk ?_ ?_<;>intros | refine hik ?_ | with_reducible first | refine wml (hk) ?_ | refine ysj (hk) ?_)<;>refine hgS ?_)
      all_goals first
       | (exfalso;omega)
       | exact StH.vzq rfl (by kernel_rfl) rfl
   rw [show (decide (x.op=8)||decide (x.op=9))=false by simp only [Bool.or_eq_false_iff,decide_eq_false_iff_not];exact ⟨fun h=>h8 (.inl h),fun h=>h8 (.inr h)⟩,cond_false];by_cases h7:x.op=6\/x.op=7
   . have hk:=zlw (Γ:=Γ) x.op (rs.getD 0 default) (rs.getD 1 default) hr0 hr1 (by omega) (by decide);rw [show (decide (x.op=6)||decide (x.op=7))=true by rcases h7 with h | h<;>simp [h],cond_true];generalize sumA x.op (rs.getD 0 default) (rs.getD 1 default)=r at hk;obtain ⟨⟨t,i,v,l⟩,e⟩:=r;refine hg ?_
     rcases h7 with h7 | h7
     all_goals
      rw [h7] at hk
      repeat' ((first | refine hfk ?_ ?_<;>intros | refine hik ?_ | with_reducible first | refine wml (hk) ?_ | refine ysj (hk) ?_)<;>refine hgS ?_)
      all_goals first
       | (exfalso;omega)
       | exact StH.vzq rfl (by kernel_rfl) rfl
   . have hk:=x7p (Γ:=Γ) V T x.op (rs.getD 0 default) (rs.getD 1 default) hr0 hr1 (by omega) (by decide);rw [show (decide (x.op=6)||decide (x.op=7))=false by simp only [Bool.or_eq_false_iff,decide_eq_false_iff_not];exact ⟨fun h=>h7 (.inl h),fun h=>h7 (.inr h)⟩,cond_false];refine hg ?_
     repeat' ((first | refine hfk ?_ ?_<;>intros | refine hik ?_)<;>refine hgS ?_)
     all_goals try (exfalso;omega)
     refine xhw 3 (fun ξ=>xpp.preN hk (zt9 n V T) rfl rfl) rfl rfl ?_;generalize cmpA x.op (rs.getD 0 default) (rs.getD 1 default)=r;obtain ⟨⟨t,i,v,l⟩,e⟩:=r;refine hg ?_
     repeat' ((first | refine hfk ?_ ?_<;>intros | refine hik ?_)<;>refine hgS ?_)
     exact StH.vzq rfl (by kernel_rfl) rfl
theorem xyf (V:Va):(envA V).length=V.length:=yzr _ V
theorem wxu (T:Vt):(envB T).length=T.length:=yzr _ T
attribute [go_sem] xyf wxu
def rdO (n:Nat):Option (Va×Vt)->List SB
 | none=>[]
 | some p=>rdE n p.1 p.2
def rdR:Option (Va×Vt)->SV
 | none=>.tup [.one .any,.one (.dat (cB false))]
 | some _=>.tup [.one (.ptr 0 0),.one (.dat (cB true))]
theorem wdm {J:List SB} {h1:HC}:StH Γ [] [SV.tup [.one h1,.one (.dat (cB false))]] J [SV.tup [.one .any,.one (.dat (cB false))]] []:=
 StH.trans (StH.tup1 (l':=[.one .any,.one (.dat (cB false))]) (.cons (.one (.any _)) (.cons (.refl _) .nil))) (by
  have:=StH.cutB (Γ:=Γ) (e:=[]) (I:=[SV.tup [.one .any,.one (.dat (cB false))]]) (J:=J) 0 (Nat.le_refl _) (by unfold yyj;rfl)
  exact this)
theorem zar (n:Nat) (V:Va) (T:Vt) (b:Bool):StH Γ [] [SV.tup [.one (.ptr 2 0),.one (.dat (cB b))]] [mA V,mB T,.box [.dat (cI n),.mp 0,.mp 1] (some 127)] [SV.tup [.one (.ptr 0 0),.one (.dat (cB b))]] (rdE n V T):=by
 have e1:swL 1 2 [mA V,mB T,.box [.dat (cI n),.mp 0,.mp 1] (some 127)]=[mA V,.box [.dat (cI n),.mp 0,.mp 2] (some 127),mB T]:=by
  show [swSB 1 2 (mA V),.box [.dat (cI n),.mp 0,.mp 2] (some 127),swSB 1 2 (mB T)]=_;rw [vho,vcy]
 have e2:swL 0 1 [mA V,.box [.dat (cI n),.mp 0,.mp 2] (some 127),mB T]=rdE n V T:=by
  show [.box [.dat (cI n),.mp 1,.mp 2] (some 127),swSB 0 1 (mA V),swSB 0 1 (mB T)]=_;rw [vho,vcy]
 have h1:=StH.vim (Γ:=Γ) (e:=[]) (I:=[SV.tup [.one (.ptr 2 0),.one (.dat (cB b))]]) (J:=[mA V,mB T,.box [.dat (cI n),.mp 0,.mp 1] (some 127)]) (i:=1) (j:=2) (by decide) (by decide) (by simp) (by simp);have h2:=StH.vim (Γ:=Γ) (e:=[]) (I:=[SV.tup [.one (.ptr 1 0),.one (.dat (cB b))]]) (J:=[mA V,.box [.dat (cI n),.mp 0,.mp 2] (some 127),mB T]) (i:=0) (j:=1) (by decide) (by decide) (by simp) (by simp);rw [e1] at h1;rw [e2] at h2;exact h1.trans h2
theorem v12 (k:Rat) (cs:List Rat):(Af.of k cs).c=qF (some k):=rfl
theorem v0e (k:Rat) (cs:List Rat):(Af.of k cs).l.map Fc.C=cs.map rowQ:=vqk cs
theorem zxz (nm:ByteArray) (k:Rat) (cs:List Rat):Sl.val ⟨nm,Af.of k cs⟩=(k,cs):=by
 show ((Fc.of k).val,(cs.map Fc.of).map Fc.val)=_;rw [List.map_map,Fc.xhg]
 congr 1
 conv=>rhs;rw [<-List.map_id cs]
 exact List.map_congr_left (fun q _=>Fc.xhg q)
theorem zw1 (ss:List Sl) (ms:List Tb) (hl:ss.length<=1073741824) (hm:ms.length<=1073741824) (hs:∀ s∈ss,s.name.size<=1073741824/\s.f.l.length<=1048576/\s.f.le 67108864) (hms:∀ t∈ms,t.Sm) :
 xpp Γ prog 40 [] [.one (.dat (.sl 6 (ss.map Sl.C))),.one (.dat (.sl 3 (ms.map Tb.C)))] (rdO (nOf ss) (entA ss ms)) (rdR (entA ss ms)):=by
 have hbad:∀ n,nOf ss=n->gS n [] ss=none->entA ss ms=none:=fun n hn h=>by unfold entA;rw [hn,h]
 have hbad2:∀ n V,nOf ss=n->gS n [] ss=some V->gTb V [] ms=none->entA ss ms=none:=fun n V hn h k=>by unfold entA;rw [hn,h];simp only [k]
 have hgood:∀ n V T,nOf ss=n->gS n [] ss=some V->gTb V [] ms=some T->entA ss ms=bif decide ((V.length:Int)=ss.length)&&decide ((T.length:Int)=ms.length) then some (V,T) else none:=fun n V T hn h k=>by unfold entA;rw [hn,h];simp only [k]
 generalize hn:nOf ss=n;have hbad:=hbad n hn
 have hbad2:=fun V=>hbad2 n V hn
 have hgood:=fun V T=>hgood n V T hn
 have e1:ss.length≠0->(ss.getD 0 default).f.l.length=n:=fun h=>by
  cases ss with
  | nil=>exact absurd rfl h
  | cons s l=>exact hn
 have e0:ss.length=0->n=0:=fun h=>by rw [<-hn,List.eq_nil_of_length_eq_zero h];rfl
 generalize entA ss ms=E at *;clear hn;refine xpp.run [] Go.Proofs.Tryz.func40 rfl rfl ?_;simp only [Go.Proofs.Tryz.f40];refine hgR ?_
 repeat' ((first | refine hfk ?_ ?_<;>intros | refine hik ?_)<;>refine hgS ?_)
 all_goals
  refine x20 [0,1,6,29,30] (fun p:Nat×Va=>[(31,.one (.dat (cI p.1)))]) (fun p=>[mA p.2,mB [],.box [.dat (cI n),.mp 0,.mp 1] (some 127)])
   (fun p=>p.1<=ss.length/\gS n [] ss=gS n p.2 (ss.drop p.1)) (fun p=>ss.length-p.1) (0,[]) ⟨Nat.zero_le _,rfl⟩ ?_ ?_
  . refine hg ?_;exact StH.same svl (by first | rfl | (rw [e1 (by omega)];done) | (rw [e1 (by omega)];rfl) | (rw [e0 (by omega)];done) | (rw [e0 (by omega)];rfl))
  rintro ⟨i,V⟩ ⟨h1,h2⟩;simp only at h1 h2;clear e1 e0;refine hg ?_;refine vt2 (fun hlt _=>?_) (fun hlt _=>?_)
  . have hlt':i<ss.length:=by omega
    have hy:=hs _ (y7p hlt');rw [xfc hlt',gS] at h2;refine hg ?_;have hr:=v1n (Γ:=Γ) (ss.getD i default).f n hy.2.1 hy.2.2;have hnm:=vfk (Γ:=Γ) (ss.getD i default).name (by have:=hy.1;omega);have hwd:=yko (Γ:=Γ) (ss.getD i default).name;clear hgood hbad2;generalize ss.getD i default=s at *;obtain ⟨nm,f⟩:=s;simp only at hy h2 hr hnm hwd ⊢;generalize isName nm=b1 at *;generalize isWord nm=b2 at *;by_cases hok:f.ok n
    . obtain ⟨k,cs,rfl,hcs⟩:=Af.vy4 hok;rw [decide_eq_true hok] at hr h2;rw [zxz] at h2;rw [y6w] at hr;rw [v0e];simp only [v12];clear hok
      repeat' ((first | refine hfk ?_ ?_<;>intros | refine hik ?_ | with_reducible first | refine wml (hnm) ?_ | refine ysj (hnm) ?_ | refine wml (hwd) ?_ | refine ysj (hwd) ?_ | refine wml (hr) ?_ | refine ysj (hr) ?_)<;>refine hgS ?_)
      all_goals first
       | exact wdm
       | (rw [hbad (by rw [h2];simp [*])];exact wdm)
       | (refine ⟨(i+1,updF V nm (k,cs)),⟨by dsimp only;omega,by first | rfl | (rw [h2];simp [*];done) | (simp [*];done)⟩,by dsimp only;omega,?_⟩
          refine StH.cutN [0,1,6,29,30,31] 3 rfl ?_ ?_
          . refine hg ?_;exact trivial
          exact StH.same svl rfl)
    . rw [decide_eq_false hok] at hr h2;rw [Af.C_eq] at hr
      repeat' ((first | refine hfk ?_ ?_<;>intros | refine hik ?_ | with_reducible first | refine wml (hnm) ?_ | refine ysj (hnm) ?_ | refine wml (hwd) ?_ | refine ysj (hwd) ?_ | refine wml (hr) ?_ | refine ysj (hr) ?_)<;>refine hgS ?_)
      all_goals first
       | exact wdm
       | (rw [hbad (by rw [h2];simp [*])];exact wdm)
  . have hV:gS n [] ss=some V:=by rw [h2,List.drop_eq_nil_of_le (by omega)];rfl
    have hbad2:=hbad2 V hV
    have hgood:=fun T=>hgood V T hV
    clear h2 h1 hlt hbad hV;refine hg ?_;refine x20 [0,1,6,63,64] (fun p:Nat×Vt=>[(65,.one (.dat (cI p.1)))]) (fun p=>[mA V,mB p.2,.box [.dat (cI n),.mp 0,.mp 1] (some 127)])
     (fun p=>p.1<=ms.length/\gTb V [] ms=gTb V p.2 (ms.drop p.1)) (fun p=>ms.length-p.1) (0,[]) ⟨Nat.zero_le _,rfl⟩ ?_ ?_
    . refine hg ?_;exact StH.same svl rfl
    rintro ⟨j,T⟩ ⟨h1,h2⟩;simp only at h1 h2;refine hg ?_;refine vt2 (fun hlt _=>?_) (fun hlt _=>?_)
    . have hlt':j<ms.length:=by omega
      have hy:=hms _ (y7p hlt');rw [xfc hlt',gTb] at h2;have hr:=w8d (Γ:=Γ) _ hy.n hy.u hy.r;have hwd:=yko (Γ:=Γ) (ms.getD j default).name
      replace h2:gTb V [] ms=bif (z2f V (ms.getD j default).name).isSome||isWord (ms.getD j default).name||!vgr (fun s=>(xx7 s).2) (ms.getD j default) then none else gTb V (updF T (ms.getD j default).name (ms.getD j default)) (ms.drop (j+1)):=h2
      generalize isWord (ms.getD j default).name=b2 at *;generalize vgr (fun s=>(xx7 s).2) (ms.getD j default)=b3 at *;clear hgood hms;refine hg ?_
      cases hl:z2f V (ms.getD j default).name with
      | none =>
       rw [hl] at h2;refine hg1 @hl ?_
       repeat' ((first | refine hfk ?_ ?_<;>intros | refine hik ?_ | with_reducible first | refine wml (hr) ?_ | refine ysj (hr) ?_ | refine wml (hwd) ?_ | refine ysj (hwd) ?_)<;>refine hgS ?_)
       all_goals first
        | exact wdm
        | (rw [hbad2 (by rw [h2];simp [*])];exact wdm)
        | (refine ⟨(j+1,updF T (ms.getD j default).name (ms.getD j default)),⟨by dsimp only;omega,by first | rfl | (rw [h2];simp [*];done) | (simp [*];done)⟩,by dsimp only;omega,?_⟩
           refine StH.cutN [0,1,6,63,64,65] 3 rfl ?_ ?_
           . refine hg ?_;exact trivial
           exact StH.same svl rfl)
      | some d=>
       rw [hl] at h2;refine hg1 @hl ?_
       repeat' ((first | refine hfk ?_ ?_<;>intros | refine hik ?_ | with_reducible first | refine wml (hr) ?_ | refine ysj (hr) ?_ | refine wml (hwd) ?_ | refine ysj (hwd) ?_)<;>refine hgS ?_)
       all_goals first
        | exact wdm
        | (rw [hbad2 (by rw [h2];simp [*])];exact wdm)
    . have hT : gTb V [] ms = some T := by rw [h2, List.drop_eq_nil_of_le (by omega)]; rfl
      rw [hgood T hT];clear h2 h1 hlt hbad2 hgood hT;refine hg ?_
      repeat' ((first | refine hfk ?_ ?_<;>intros | refine hik ?_)<;>refine hgS ?_)
      all_goals first
       | exact wdm
       | (generalize decide ((T.length:Int)=ms.length)=q
          cases q
          . exact wdm
          . exact zar n V T true)
theorem xf9:∀ x:Ex,x.Sm->CallsD Γ prog 39 [.agg (exC x)] (.one (cB x.wqm)):=by
 refine Ex.ind (fun x ih hx=>?_);have hl:=hx.len;have hc:CallsD Γ prog 77 [.one (.sl 5 (x.args.map Ex.cells)),fN 39] (.one (cB (x.args.any Ex.wqm))):=vps x.args _ _ hl (fun y hy=>ih y hy (hx.arg y hy));refine CallsD.run [] Go.Proofs.Tryz.func39 rfl rfl rfl ?_;simp only [Go.Proofs.Tryz.f39];refine hgR ?_
 repeat' ((first | refine hfk ?_ ?_<;>intros | refine hik ?_ | with_reducible first | refine wml (hc) ?_ | refine ysj (hc) ?_)<;>refine hgS ?_)
 all_goals refine RLe.ofEq ?_
 all_goals rw [Ex.xrx]
 all_goals (refine bsE ?_;try exact trivial)
abbrev afR (r:Th×Int):AV:=.tup [.agg [.raw (.int .i64 (qF r.1.c).s),.ints .i64 (qF r.1.c).L,.raw (.int .i64 (qF r.1.c).t),.ints .i64 (qF r.1.c).M,.sl 4 (r.1.l.map rowQ)],.one (cI r.2)]
theorem afEq {e:Int} {r:Th×Int} (h:r=(Th.zero,e)):RLe (.tup [.agg [cI 0,.zc,cI 0,.zc,.zc],.one (cI e)]) (afR r):=by
 subst h;exact .tup (.cons (.agg (.cons (.refl _) (.cons (.zuc _) (.cons (.refl _) (.cons (.zuc _) (.cons (.zcSl _) .nil)))))) (.cons (.refl _) .nil))
theorem v0f (hB:4300<=B) (hB2:B*200<=33554432) (x:Ex) (ss:List Sl) (ms:List Tb) (hx:x.Sm) (hn:nOf ss<=6) (hl:ss.length<=1073741824) (hm:ms.length<=1073741824) (hs:∀ s∈ss,s.name.size<=1073741824/\s.f.l.length<=1048576/\s.f.le 67108864) (hsm:∀ s∈ss,s.sm B) (hms:∀ t∈ms,t.Sm) :
 CallsD Γ prog 10 [.agg (exC x),.one (.sl 6 (ss.map Sl.C)),.one (.sl 3 (ms.map Tb.C))] (afR (affF x ss ms)):=by
 have hr:=zw1 (Γ:=Γ) ss ms hl hm hs hms;have c1:=zfy (Γ:=Γ) x hx;have c2:=xf9 (Γ:=Γ) x hx
 cases hr1:zqs x with
 | false=>
  rw [hr1] at c1
  have e:affF x ss ms=(Th.zero,2):=by unfold affF;rw [hr1];rfl
  rw [e];refine CallsD.run [] Go.Proofs.Tryz.func10 rfl rfl rfl ?_;simp only [Go.Proofs.Tryz.f10];refine hgR ?_
  repeat' ((first | refine hfk ?_ ?_<;>intros | refine hik ?_ | with_reducible first | refine wml (c1) ?_ | refine ysj (c1) ?_)<;>refine hgS ?_)
  exact afEq rfl
 | true=>cases hc1:x.wqm with
  | true=>
   rw [hr1] at c1;rw [hc1] at c2;rw [show affF x ss ms=(Th.zero,2) by unfold affF;rw [hr1,hc1];rfl];refine CallsD.run [] Go.Proofs.Tryz.func10 rfl rfl rfl ?_;simp only [Go.Proofs.Tryz.f10];refine hgR ?_
   repeat' ((first | refine hfk ?_ ?_<;>intros | refine hik ?_ | with_reducible first | refine wml (c1) ?_ | refine ysj (c1) ?_ | refine wml (c2) ?_ | refine ysj (c2) ?_)<;>refine hgS ?_)
   exact afEq rfl
  | false=>
   rw [hr1] at c1;rw [hc1] at c2
   have hsh:x.shaped=true:=by unfold zqs at hr1;rw [Bool.and_eq_true] at hr1;exact hr1.2
   cases hrd:entA ss ms with
   | none=>
    rw [hrd] at hr;rw [show affF x ss ms=(Th.zero,1) by unfold affF;rw [hr1,hc1,hrd];rfl]
    have hr2:∀ a b:SB,xpp Γ prog 40 [a,b] [.one (.dat (.sl 6 (ss.map Sl.C))),.one (.dat (.sl 3 (ms.map Tb.C)))] [a,b] (.tup [.one .any,.one (.dat (cB false))]):=fun a b=>xpp.at [] (J:=[a,b]) hr (by decide) rfl rfl rfl
    refine CallsD.run [] Go.Proofs.Tryz.func10 rfl rfl rfl ?_;simp only [Go.Proofs.Tryz.f10];refine hgR ?_
    repeat' ((first | refine hfk ?_ ?_<;>intros | refine hik ?_ | with_reducible first | refine wml (c1) ?_ | refine ysj (c1) ?_ | refine wml (c2) ?_ | refine ysj (c2) ?_)<;>refine hgS ?_)
    refine zqa (hr2 _ _) rfl ?_;refine hg ?_
    repeat' ((first | refine hfk ?_ ?_<;>intros | refine hik ?_)<;>refine hgS ?_)
    exact afEq rfl
   | some p=>
    obtain ⟨V,T⟩:=p;rw [hrd] at hr
    have hr2:∀ a b:SB,xpp Γ prog 40 [a,b] [.one (.dat (.sl 6 (ss.map Sl.C))),.one (.dat (.sl 3 (ms.map Tb.C)))] [a,b,.box [.dat (cI (nOf ss)),.mp 3,.mp 4] (some 127),mA V,mB T] (.tup [.one (.ptr 2 0),.one (.dat (cB true))]):=fun a b=>by
     have h:=xpp.at [] (J:=[a,b]) hr (by decide) rfl rfl rfl
     have e:putR [] [a,b] (rdO (nOf ss) (some (V,T)))=[a,b,.box [.dat (cI (nOf ss)),.mp 3,.mp 4] (some 127),mA V,mB T]:=by
      show [a,b,.box [.dat (cI (nOf ss)),.mp 3,.mp 4] (some 127),rnSB _ (mA V),rnSB _ (mB T)]=_;rw [vis,zgw]
     rw [e] at h;exact h
    have hnd:=zvr hr1;have hB3:B*x.nd<=33554432:=Nat.le_trans (Nat.mul_le_mul_left _ hnd) hB2;have hV:=zd4 hrd hsm;have hc:=wto (Γ:=Γ) hB V T hV (yxy hrd hms) hn x hx hsh hc1 hB3
    have hc2:∀ a b:SB,xpp Γ prog 41 [a,b,.box [.dat (cI (nOf ss)),.mp 3,.mp 4] (some 127),mA V,mB T] [.one (.ptr 2 0),.agg ((exC x).map .dat)] [a,b,.box [.dat (cI (nOf ss)),.mp 3,.mp 4] (some 127),mA V,mB T] (thS (x.aff (nOf ss) V T)):=fun a b=>
     xpp.roN [2,3,4] (J:=[a,b,.box [.dat (cI (nOf ss)),.mp 3,.mp 4] (some 127),mA V,mB T]) hc (by decide) rfl (by
      show [some _,some (mA V),some (mB T)]=[some _,some (rnSB _ (mA V)),some (rnSB _ (mB T))]
      rw [vis,zgw];rfl)
    have e:affF x ss ms=bif decide (¬(x.aff (nOf ss) V T).2=0) then (Th.zero,(x.aff (nOf ss) V T).2) else bif (x.aff (nOf ss) V T).1.t then (Th.zero,13) else ((x.aff (nOf ss) V T).1,0):=by unfold affF;rw [hr1,hc1,hrd];rfl
    rw [e];clear hc hr hV e;generalize x.aff (nOf ss) V T=r at hc2 ⊢;obtain ⟨⟨t,i,v,l⟩,e⟩:=r;refine CallsD.run [] Go.Proofs.Tryz.func10 rfl rfl rfl ?_;simp only [Go.Proofs.Tryz.f10];refine hgR ?_
    repeat' ((first | refine hfk ?_ ?_<;>intros | refine hik ?_ | with_reducible first | refine wml (c1) ?_ | refine ysj (c1) ?_ | refine wml (c2) ?_ | refine ysj (c2) ?_)<;>refine hgS ?_)
    refine zqa (hr2 _ _) rfl ?_;refine hg ?_
    repeat' ((first | refine hfk ?_ ?_<;>intros | refine hik ?_)<;>refine hgS ?_)
    refine x6x (hc2 _ _) ?_;refine hg ?_
    repeat' ((first | refine hfk ?_ ?_<;>intros | refine hik ?_)<;>refine hgS ?_)
    all_goals first
     | exact afEq (by simp [*])
     | exact RLe.ofEq (by simp [*])
end Go.Hp.T
namespace Go.Hp.T
open Go Go.RowKit Go.Slot Go.Hp Go.Slot.T
open Go.Proofs.Tryz (prog)
set_option maxRecDepth 10000
set_option maxHeartbeats 4000000
variable {Γ:List (Nat×List Cell)}
variable {i:Nat} {c:Int}
theorem vol {p:Nat->Prop} (h:∀ j,j<i->p j) (hi:p i):∀ j,j<i+1->p j:=fun j hj=>by
 rcases Nat.lt_or_eq_of_le (Nat.le_of_lt_succ hj) with h2 | h2
 . exact h j h2
 . rw [h2];exact hi
theorem vas (c:Int):CallsD Γ prog 164 [.one (c8 c)] (.one (cB (wxl c))):=by
 refine CallsD.run [] Go.Proofs.Tryz.func164 rfl rfl rfl ?_;simp only [Go.Proofs.Tryz.f164];refine hgR ?_
 repeat' ((first | refine hfk ?_ ?_<;>intros | refine hik ?_)<;>refine hgS ?_)
 all_goals refine lf1 @wxl.eq_def ?_;first | exact trivial | rfl
theorem xyb (c:Int):CallsD Γ prog 165 [.one (c8 c)] (.one (cB (isDigit c))):=by
 refine CallsD.run [] Go.Proofs.Tryz.func165 rfl rfl rfl ?_;simp only [Go.Proofs.Tryz.f165];refine hgR ?_
 repeat' ((first | refine hfk ?_ ?_<;>intros | refine hik ?_)<;>refine hgS ?_)
 all_goals refine lf1 @isDigit.eq_def ?_;first | exact trivial | rfl
theorem wp7 (h:c<32\/126<c):xtc c=false:=by
 unfold xtc
 rcases h with h | h
 . rw [decide_eq_false (show ¬32<=c by omega)];rfl
 . rw [decide_eq_false (show ¬c<=126 by omega),Bool.and_false]
theorem xou (h:¬c<32) (h':¬126<c):xtc c=true:=by
 unfold xtc;rw [decide_eq_true (show 32<=c by omega),decide_eq_true (show c<=126 by omega)];rfl
theorem x9o {s:ByteArray} (hi:i<s.size) (hj:∀ j,j<i->xtc (yuk s j)=true) (h:xtc (yuk s i)=false):yn7 s=false:=by
 unfold yn7;rw [yxq (by omega) hj (.inr h),decide_eq_true (show ¬((i:Int)=s.size) by omega),Bool.or_true];rfl
theorem voo {s:ByteArray} (hj:∀ j,j<s.size->xtc (yuk s j)=true):yn7 s=decide ((s.size:Int)<=400):=by
 unfold yn7;rw [yxq (Nat.le_refl _) hj (.inl rfl),decide_eq_false (show ¬¬((s.size:Int)=s.size) from fun h=>h rfl),Bool.or_false];by_cases h:(s.size:Int)<=400
 . rw [decide_eq_true h,decide_eq_false (show ¬400<(s.size:Int) by omega)];rfl
 . rw [decide_eq_false h,decide_eq_true (show 400<(s.size:Int) by omega)];rfl
theorem zti (s:ByteArray) (hs:s.size<=1073741824):CallsD Γ prog 234 [.one (cS s)] (.one (cB (yn7 s))):=by
 refine CallsD.run [] Go.Proofs.Tryz.func234 rfl rfl rfl ?_;simp only [Go.Proofs.Tryz.f234];refine hgR ?_;refine x20 [0] (fun n:Nat=>[(3,.one (.dat (cI n)))]) (fun _=>[]) (fun n=>n<=s.size/\∀ j,j<n->xtc (yuk s j)=true) (fun n=>s.size-n) 0 ⟨Nat.zero_le _,fun j hj=>by omega⟩ ?_ ?_
 . refine hg ?_;exact StH.same svl rfl
 intro n hn;obtain ⟨hn,hj⟩:=hn;refine hg ?_
 repeat' ((first | refine hfk ?_ ?_<;>intros | refine hik ?_)<;>refine hgS ?_)
 . rw [x9o (by omega) hj (wp7 (.inr (by assumption)))];exact RLe.ofEq rfl
 . refine ⟨n+1,⟨by omega,vol hj (xou (by assumption) (by assumption))⟩,by omega,StH.same svl rfl⟩
 . rw [x9o (by omega) hj (wp7 (.inl (by assumption)))];exact RLe.ofEq rfl
 . have e:n=s.size:=by omega
   subst e;rw [voo hj];exact RLe.ofEq rfl
theorem xhj {s:ByteArray} (hi:i<s.size) (hj:∀ j,j<i->xic (yuk s j)=true) (h:xic (yuk s i)=false):isName s=false:=by
 unfold isName;rw [yxq (by omega) hj (.inr h),decide_eq_false (show ¬((i:Int)=s.size) by omega),Bool.and_false]
theorem wc9 {s:ByteArray} (h:¬(s.size:Int)<=20):isName s=false:=by
 unfold isName;rw [decide_eq_false h,Bool.and_false,Bool.false_and]
theorem y3x (h:wxl c=true):xic c=true:=by unfold xic;rw [h];rfl
theorem wex (s:ByteArray) (hs:s.size<=1073741824):CallsD Γ prog 110 [.one (cS s)] (.one (cB (isName s))):=by
 refine CallsD.run [] Go.Proofs.Tryz.func110 rfl rfl rfl ?_;simp only [Go.Proofs.Tryz.f110];refine hgR ?_
 repeat' ((first | refine hfk ?_ ?_<;>intros | refine hik ?_ | with_reducible first | refine wml (vas _) ?_ | refine ysj (vas _) ?_)<;>refine hgS ?_)
 . exact RLe.ofEq (by unfold isName;simp [*])
 . rename_i h1 _ h2 _ h3;refine x20 [0] (fun n:Nat=>[(3,.one (.dat (cI n)))]) (fun _=>[]) (fun n=>n<=s.size/\0<n/\∀ j,j<n->xic (yuk s j)=true) (fun n=>s.size-n) 1 ⟨by omega,by omega,fun j hj=>?_⟩ ?_ ?_
   . have e:j=0:=by omega
     subst e;exact y3x h3
   . refine hg ?_;exact StH.same svl rfl
   intro n hn;obtain ⟨hn,hn0,hj⟩:=hn;refine hg ?_
   repeat' ((first | refine hfk ?_ ?_<;>intros | refine hik ?_ | with_reducible first | refine wml (vas _) ?_ | refine ysj (vas _) ?_ | refine wml (xyb _) ?_ | refine ysj (xyb _) ?_)<;>refine hgS ?_)
   . rename_i h4 h5 h6 _;rw [xhj (by omega) hj (by unfold xic;rw [h4,h5,decide_eq_false h6];rfl)];exact RLe.ofEq rfl
   . rename_i h6 _;exact ⟨n+1,⟨by omega,by omega,vol hj (by unfold xic;rw [decide_eq_true (show yuk s n=95 by omega),Bool.or_true])⟩,by omega,StH.same svl rfl⟩
   . rename_i h5;exact ⟨n+1,⟨by omega,by omega,vol hj (by unfold xic;rw [h5,Bool.or_true,Bool.true_or])⟩,by omega,StH.same svl rfl⟩
   . rename_i h4;exact ⟨n+1,⟨by omega,by omega,vol hj (y3x h4)⟩,by omega,StH.same svl rfl⟩
   . have e:n=s.size:=by omega
     subst e
     have e:isName s=true:=by
      unfold isName;rw [yxq (Nat.le_refl _) hj (.inl rfl),h3,decide_eq_true (show ¬s.size=0 by omega),decide_eq_true (show (s.size:Int)<=20 by omega),decide_eq_true rfl];rfl
     rw [e];exact RLe.ofEq rfl
 . rw [wc9 (by omega)];exact RLe.ofEq rfl
 . rename_i h _
   have e:s.size=0:=by omega
   exact RLe.ofEq (by unfold isName;rw [e];rfl)
def rEs (s:ByteArray):Nat->ByteArray
 | 0=>⟨#[34]⟩
 | i+1=>(bif decide (yuk s i=34)||decide (yuk s i=92) then rEs s i++⟨#[92]⟩ else rEs s i)++s.extract i (i+1)
theorem ylo (s:ByteArray) (i:Nat):rEs s (i+1)=(bif decide (yuk s i=34)||decide (yuk s i=92) then rEs s i++⟨#[92]⟩ else rEs s i)++s.extract i (i+1):=by rw [rEs]
theorem wf0 (s:ByteArray):∀ i,(rEs s i).size<=2*i+1
 | 0=>by unfold rEs;decide
 | i+1=>by
  have:=wf0 s i
  have h2:(⟨#[92]⟩:ByteArray).size=1:=rfl
  have h3:(s.extract i (i+1)).size<=1:=by rw [ByteArray.size_extract];omega
  unfold rEs
  cases decide (yuk s i=34)||decide (yuk s i=92)<;>simp only [cond_true,cond_false,ByteArray.size_append]<;>omega
theorem wgn (s:ByteArray) (hs:s.size<=1073741824):CallsD Γ prog 235 [.one (cS s)] (.one (cS (rEs s s.size++⟨#[34]⟩))):=by
 refine CallsD.run [] Go.Proofs.Tryz.func235 rfl rfl rfl ?_;simp only [Go.Proofs.Tryz.f235];refine hgR ?_;refine x20 [0] (fun n:Nat=>[(3,.one (.dat (cS (rEs s n)))),(4,.one (.dat (cI n)))]) (fun _=>[]) (fun n=>n<=s.size) (fun n=>s.size-n) 0 (Nat.zero_le _) ?_ ?_
 . refine hg ?_;exact StH.same svl rfl
 intro n hn;have hl:=wf0 s n
 have h3:(s.extract n (n+1)).size<=1:=by rw [ByteArray.size_extract];omega
 have h4:(rEs s n).size+1+(s.extract n (n+1)).size<=9223372036854775807:=by omega
 have h5:(rEs s n).size+(s.extract n (n+1)).size<=9223372036854775807:=by omega
 clear h3 hl;refine hg ?_
 repeat' ((first | refine hfk ?_ ?_<;>intros | refine hik ?_)<;>refine hgS ?_)
 . rename_i _ _ h6 _
   have e:rEs s n++⟨#[92]⟩++s.extract n (n+1)=rEs s (n+1):=by rw [ylo,decide_eq_true h6,Bool.or_true];rfl
   rw [e];exact ⟨n+1,by omega,by omega,StH.same svl rfl⟩
 . rename_i h7 _ h6 _
   have e:rEs s n++s.extract n (n+1)=rEs s (n+1):=by rw [ylo,decide_eq_false h6,decide_eq_false h7];rfl
   rw [e];exact ⟨n+1,by omega,by omega,StH.same svl rfl⟩
 . rename_i h7 _
   have e:rEs s n++⟨#[92]⟩++s.extract n (n+1)=rEs s (n+1):=by rw [ylo,decide_eq_true h7,Bool.true_or];rfl
   rw [e];exact ⟨n+1,by omega,by omega,StH.same svl rfl⟩
 . have e:n=s.size:=by omega
   subst e;exact RLe.ofEq rfl
theorem yrb (s:ByteArray) (hs:s.size<=1073741824):∃ t,CallsD Γ prog 192 [.one (cS s)] (.tup [.one (cS t),.one (cB (yn7 s))]):=by
 refine ⟨bif yn7 s then rEs s s.size++⟨#[34]⟩ else ⟨#[]⟩,?_⟩;refine CallsD.run [] Go.Proofs.Tryz.func192 rfl rfl rfl ?_;simp only [Go.Proofs.Tryz.f192];refine hgR ?_
 repeat' ((first | refine hfk ?_ ?_<;>intros | refine hik ?_ | with_reducible first | refine wml (zti s hs) ?_ | refine ysj (zti s hs) ?_ | refine wml (wgn s hs) ?_ | refine ysj (wgn s hs) ?_)<;>refine hgS ?_)
 all_goals refine lfE ?_;first | exact trivial | rfl
end Go.Hp.T
