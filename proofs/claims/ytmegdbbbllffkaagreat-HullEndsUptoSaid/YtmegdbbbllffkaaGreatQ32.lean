/- The proof, part Q32: Ne, Gb, Sd. -/
import Derived.Test.YtmegdbbbllffkaaGreatQ30
import Derived.Test.YtmegdbbbllffkaaGreatQ31
namespace Go.Hp.T
open Go Go.RowKit Go.Slot Go.Hp Go.Slot.T
open Go.Proofs.Tryz (prog)
set_option maxRecDepth 10000
set_option maxHeartbeats 4000000
variable {Γ:List (Nat×List Cell)}
theorem cTIn (n:Int):CallsD Γ prog 129 [.one (cI n)] (.one (cB (inT n))):=by
 refine CallsD.run [] Go.Proofs.Tryz.func129 rfl rfl rfl ?_;simp only [Go.Proofs.Tryz.f129];refine hgR ?_
 repeat' ((first | refine hfk ?_ ?_<;>intros | refine hik ?_)<;>refine hgS ?_)
 all_goals refine lf1 @inT.eq_def ?_;first | exact trivial | rfl
theorem vqa (s:ByteArray) (hs:s.size<=1073741824):CallsD Γ prog 79 [.one (cS s)] (.tup [.agg (unX (zth s).1),.one (cI (zth s).2)]):=by
 have:=zhn (Γ:=Γ) s hs
 rw [vtx] at this;exact this
theorem xzk:(ztb prog 9 51=some 6)=True:=eq_true (by kernel_rfl)
theorem y1t:aggT prog 51=true:=by kernel_rfl
theorem vyq:prog.eqGuardType prog.depth 51=false:=by kernel_rfl
theorem xv0 (a b c d e f:Int):fitT prog 9 51 [.int .i64 a,.int .i64 b,.int .i64 c,.int .i64 d,.int .i64 e,.int .i64 f]=true:=by kernel_rfl
attribute [go_sem] xzk y1t vyq xv0
theorem vv4 (t:Tb) (h1:t.name.size<=1073741824) (h2:t.unit.size<=1073741824) (h3:t.rows.length<=1073741824):CallsD Γ prog 80 [.agg (tbC t)] (.one (cB (zi4 (fun s=>(zth s).2) t))):=by
 refine CallsD.run [] Go.Proofs.Tryz.func80 rfl rfl rfl ?_;simp only [Go.Proofs.Tryz.f80];refine hgR ?_
 repeat' ((first | refine hfk ?_ ?_<;>intros | refine hik ?_ | with_reducible first | refine v6l (vqa t.unit h2) ?_ | refine vgi (vqa t.unit h2) ?_ | refine v6l (vv6 t.name (by omega)) ?_ | refine vgi (vv6 t.name (by omega)) ?_)<;>refine hgS ?_)
 . refine lf1 @zi4.eq_def ?_;first | exact trivial | rfl
 . refine y55 [1,28,29] (fun i:Nat=>[(30,.one (.dat (cI i)))]) (fun _=>[.box ((tbC t).map .dat) (some 122),.box ((unX (zth t.unit).1).map .dat) (some 143)]) (fun i=>i<=t.rows.length/\∀ j,j<i->rowAt t.rows j=true) (fun i=>t.rows.length-i) 0 ⟨Nat.zero_le _,fun j hj=>by omega⟩ ?_ ?_
   . refine hg ?_;exact StH.same svl rfl
   rintro i ⟨hi,hj⟩
   have hbad:rowAt t.rows i=false->i<t.rows.length->zi4 (fun s=>(zth s).2) t=false:=fun h h'=>by
    unfold zi4 zx5;rw [zch h' h,Bool.and_false]
   refine hg ?_
   repeat' ((first | refine hfk ?_ ?_<;>intros | refine hik ?_ | with_reducible first | refine v6l (cTIn _) ?_ | refine vgi (cTIn _) ?_)<;>refine hgS ?_)
   all_goals first
    | (rw [hbad (by (refine bs1 @rowAt.eq_def ?_;try exact trivial)) (by omega)];exact RLe.ofEq rfl)
    | (refine ⟨i+1,⟨by omega,xrx hj (by (refine bs1 @rowAt.eq_def ?_;try exact trivial))⟩,by omega,StH.back [1,28,29,30] 2 2 2 rfl rfl rfl rfl rfl (by kernel_rfl) (StH.same svl rfl)⟩)
    | (refine RLe.ofEq ?_;rw [show zi4 (fun s=>(zth s).2) t=true from by unfold zi4 zx5;rw [ye8 (fun j hj'=>hj j (by omega))];(refine bsE ?_;try exact trivial)])
 . refine lf1 @zi4.eq_def ?_;first | exact trivial | rfl
 . refine lf1 @zi4.eq_def ?_;first | exact trivial | rfl
theorem wv4 (a b r:Ty):CallsD Γ prog 132 [.agg (tyC a),.agg (tyC b),.agg (tyC r)] (tyR (xkg a b r)):=by
 refine CallsD.run [] Go.Proofs.Tryz.func132 rfl rfl rfl ?_;simp only [Go.Proofs.Tryz.f132];refine hgR ?_
 repeat' ((first | refine hfk ?_ ?_<;>intros | refine hik ?_)<;>refine hgS ?_)
 all_goals refine lf1 @xkg.eq_def ?_;first | exact trivial | rfl
theorem zye (d:Dm):CallsD Γ prog 130 [.agg (dmC d)] (.agg (tyC ⟨false,d⟩)):=by
 refine CallsD.run [] Go.Proofs.Tryz.func130 rfl rfl rfl ?_;simp only [Go.Proofs.Tryz.f130];refine hgR ?_
 repeat' ((first | refine hfk ?_ ?_<;>intros | refine hik ?_)<;>refine hgS ?_)
 all_goals refine lfE ?_;first | exact trivial | rfl
theorem ywj:CallsD Γ prog 133 [] (.agg (tyC ⟨true,Dm.zero⟩)):=by
 refine CallsD.run [] Go.Proofs.Tryz.func133 rfl rfl rfl ?_;simp only [Go.Proofs.Tryz.f133];refine hgR ?_
 repeat' ((first | refine hfk ?_ ?_<;>intros | refine hik ?_)<;>refine hgS ?_)
 all_goals refine lfE ?_;first | exact trivial | rfl
theorem wah (o:Int) (a b:Ty):CallsD Γ prog 134 [.one (cI o),.agg (tyC a),.agg (tyC b)] (tyR (zom o a b)):=by
 refine CallsD.run [] Go.Proofs.Tryz.func134 rfl rfl rfl ?_;simp only [Go.Proofs.Tryz.f134];refine hgR ?_
 repeat' ((first | refine hfk ?_ ?_<;>intros | refine hik ?_ | with_reducible first | refine v6l (zyo a.d b.d) ?_ | refine vgi (zyo a.d b.d) ?_ | refine v6l (wxd a.d b.d) ?_ | refine vgi (wxd a.d b.d) ?_ | refine v6l (zye _) ?_ | refine vgi (zye _) ?_)<;>refine hgS ?_)
 all_goals refine lf1 @zom.eq_def ?_;first | exact trivial | rfl
theorem zfm:∀ x:Ex,x.Sm->CallsD Γ prog 46 [.agg (exC x)] (.one (cB x.xi4)):=by
 refine Ex.ind (fun x ih hx=>?_);have hl:=hx.len;have hc:CallsD Γ prog 75 [.one (.sl 5 (x.args.map Ex.cells)),fN 46] (.one (cB (x.args.any Ex.xi4))):=ynb x.args _ _ hl (fun y hy=>ih y hy (hx.arg y hy));refine CallsD.run [] Go.Proofs.Tryz.func46 rfl rfl rfl ?_;simp only [Go.Proofs.Tryz.f46];refine hgR ?_
 repeat' ((first | refine hfk ?_ ?_<;>intros | refine hik ?_ | with_reducible first | refine v6l (hc) ?_ | refine vgi (hc) ?_)<;>refine hgS ?_)
 all_goals refine RLe.ofEq ?_
 all_goals rw [Ex.wd9]
 all_goals (refine bsE ?_;try exact trivial)
theorem yjn (l:List Ty) (f:FuncId) (p:Ty->Bool) (hl:l.length<=1073741824) (h:∀ y∈l,CallsD Γ prog f [.agg (tyC y)] (.one (cB (p y)))) :
 CallsD Γ prog 228 [.one (.sl 7 (l.map Ty.C)),fN f] (.one (cI (idxF p l))):=by
 refine CallsD.run [] Go.Proofs.Tryz.func228 rfl rfl rfl ?_;simp only [Go.Proofs.Tryz.f228];refine hgR ?_;refine y55 [0,1,7] (fun i:Nat=>[(8,.one (.dat (cI i)))]) (fun _=>[]) (fun i=>i<=l.length/\∀ j,j<i->p (l.getD j default)=false) (fun i=>l.length-i) 0 ⟨Nat.zero_le _,fun j hj=>by omega⟩ ?_ ?_
 . refine hg ?_;exact StH.same svl rfl
 intro i hi;obtain ⟨hi,hj⟩:=hi;refine hg ?_
 repeat' ((first | refine hfk ?_ ?_<;>intros | refine hik ?_ | with_reducible first | refine v6l (h _ (w4t (show i<l.length by omega))) ?_ | refine vgi (h _ (w4t (show i<l.length by omega))) ?_)<;>refine hgS ?_)
 . rename_i hp;rw [(yo6 hi hj).2 (by omega) hp];exact RLe.ofEq rfl
 . rename_i hp;exact ⟨i+1,⟨by omega,xrx hj hp⟩,by omega,StH.same svl rfl⟩
 . rw [(yo6 hi hj).1 (by omega)];exact RLe.ofEq rfl
theorem xnl (l:List Ty) (f:FuncId) (p:Ty->Bool) (hl:l.length<=1073741824) (h:∀ y∈l,CallsD Γ prog f [.agg (tyC y)] (.one (cB (p y)))) :
 CallsD Γ prog 187 [.one (.sl 7 (l.map Ty.C)),fN f] (.one (cB (l.any p))):=by
 refine CallsD.run [] Go.Proofs.Tryz.func187 rfl rfl rfl ?_;simp only [Go.Proofs.Tryz.f187];refine hgR ?_
 repeat' ((first | refine hfk ?_ ?_<;>intros | refine hik ?_ | with_reducible first | refine v6l (yjn l f p hl h) ?_ | refine vgi (yjn l f p hl h) ?_)<;>refine hgS ?_)
 exact RLe.ofEq (by rw [<-wb5])
theorem xkt (t:Ty):CallsD Γ prog 188 [.agg (tyC t)] (.one (cB (!t.t))):=by
 refine CallsD.run [] Go.Proofs.Tryz.func188 rfl rfl rfl ?_;simp only [Go.Proofs.Tryz.f188];refine hgR ?_
 repeat' ((first | refine hfk ?_ ?_<;>intros | refine hik ?_)<;>refine hgS ?_)
 all_goals refine lfE ?_;first | exact trivial | rfl
theorem yv2 (l:List Ty) (hl:l.length<=1073741824):CallsD Γ prog 135 [.one (.sl 7 (l.map Ty.C))] (tyR (xc6 l)):=by
 have hc:CallsD Γ prog 187 [.one (.sl 7 (l.map Ty.C)),fN 188] (.one (cB (l.any (fun t=>!t.t)))):=xnl l _ _ hl (fun y _=>xkt y);refine CallsD.run [] Go.Proofs.Tryz.func135 rfl rfl rfl ?_;simp only [Go.Proofs.Tryz.f135];refine hgR ?_
 repeat' ((first | refine hfk ?_ ?_<;>intros | refine hik ?_ | with_reducible first | refine v6l (hc) ?_ | refine vgi (hc) ?_ | refine v6l (ywj) ?_ | refine vgi (ywj) ?_)<;>refine hgS ?_)
 all_goals refine lf1 @xc6.eq_def ?_;first | exact trivial | rfl
abbrev mE (l:List (ByteArray×Dm)):SB:=.map (envE l)
theorem x88 {x:Dm}:(decide (x.a=0)&&(decide (x.b=0)&&(decide (x.c=0)&&(decide (x.d=0)&&(decide (x.e=0)&&decide (x.f=0))))))=decide (x=Dm.zero):=v7r (y:=Dm.zero)
attribute [go_sem] x88
theorem x09 (V T:List (ByteArray×Dm)) (s:ByteArray) (k:Ty):vfe Γ prog 131 [mE V,mE T] [.agg [.mp 0,.mp 1],.one (.dat (cS s)),.agg ((tyC k).map .dat)] [mE V,mE T] (tyS (x59 T s k)):=by
 cases h:ycr T s with
 | none=>
  refine vfe.run [] Go.Proofs.Tryz.func131 rfl rfl ?_;simp only [Go.Proofs.Tryz.f131];refine hgR ?_;refine hg1 @h ?_
  repeat' ((first | refine hfk ?_ ?_<;>intros | refine hik ?_)<;>refine hgS ?_)
  exact StH.zx4 rfl (by kernel_rfl) (by simp only [x59,h];rfl)
 | some d=>
  refine vfe.run [] Go.Proofs.Tryz.func131 rfl rfl ?_;simp only [Go.Proofs.Tryz.f131];refine hgR ?_;refine hg1 @h ?_
  repeat' ((first | refine hfk ?_ ?_<;>intros | refine hik ?_ | with_reducible first | refine v6l (zye d) ?_ | refine vgi (zye d) ?_)<;>refine hgS ?_)
  all_goals exact StH.zx4 rfl (by kernel_rfl) (by ((refine bs2 @x59.eq_def @h ?_;try exact trivial))<;>first | rfl | trivial)
def zgx (V:List (ByteArray×Dm)) (x:Ex):Ty×Int:=bif decide (x.op=1) then (match ycr V x.name with
 | none=>(Ty.zero,11)
 | some d=>(⟨false,d⟩,0)) else
 bif decide (¬(zth x.unit).2=0) then (Ty.zero,14) else (⟨false,dmO (zth x.unit).1⟩,0)
theorem y06 (V T:List (ByteArray×Dm)) (x:Ex) (hx:x.Sm):vfe Γ prog 81 [mE V,mE T] [.agg [.mp 0,.mp 1],.agg ((exC x).map .dat)] [mE V,mE T] (tyS (zgx V x)):=by
 have hu:=hx.u
 cases h:ycr V x.name with
 | none=>
  refine vfe.run [] Go.Proofs.Tryz.func81 rfl rfl ?_;simp only [Go.Proofs.Tryz.f81];refine hgR ?_
  repeat' ((first | refine hfk ?_ ?_<;>intros | refine hik ?_ | with_reducible first | refine v6l (vqa x.unit hu) ?_ | refine vgi (vqa x.unit hu) ?_ | refine v6l (zye _) ?_ | refine vgi (zye _) ?_)<;>refine hgS ?_)
  all_goals try refine hg1 @h ?_
  all_goals try repeat' ((first | refine hfk ?_ ?_<;>intros | refine hik ?_ | with_reducible first | refine v6l (vqa x.unit hu) ?_ | refine vgi (vqa x.unit hu) ?_ | refine v6l (zye _) ?_ | refine vgi (zye _) ?_)<;>refine hgS ?_)
  all_goals exact StH.zx4 rfl (by kernel_rfl) (by ((refine bs2 @zgx.eq_def @h ?_;try exact trivial))<;>first | rfl | trivial)
 | some d=>
  refine vfe.run [] Go.Proofs.Tryz.func81 rfl rfl ?_;simp only [Go.Proofs.Tryz.f81];refine hgR ?_
  repeat' ((first | refine hfk ?_ ?_<;>intros | refine hik ?_ | with_reducible first | refine v6l (vqa x.unit hu) ?_ | refine vgi (vqa x.unit hu) ?_ | refine v6l (zye _) ?_ | refine vgi (zye _) ?_)<;>refine hgS ?_)
  all_goals try refine hg1 @h ?_
  all_goals try repeat' ((first | refine hfk ?_ ?_<;>intros | refine hik ?_ | with_reducible first | refine v6l (vqa x.unit hu) ?_ | refine vgi (vqa x.unit hu) ?_ | refine v6l (zye _) ?_ | refine vgi (zye _) ?_)<;>refine hgS ?_)
  all_goals exact StH.zx4 rfl (by kernel_rfl) (by ((refine bs2 @zgx.eq_def @h ?_;try exact trivial))<;>first | rfl | trivial)
theorem zz5 (V T:List (ByteArray×Dm)) (x:Ex) (ts:List Ty) (hl:ts.length<=1073741824) (h1:1<=ts.length) (h2:x.op≠2->x.op≠4->2<=ts.length) (h3:x.op=5->3<=ts.length) :
 vfe Γ prog 82 [mE V,mE T] [.agg [.mp 0,.mp 1],.agg ((exC x).map .dat),.one (.dat (.sl 7 (ts.map Ty.C)))] [mE V,mE T] (tyS (wqq T x.op x.name ts)):=by
 refine vfe.run [] Go.Proofs.Tryz.func82 rfl rfl ?_;simp only [Go.Proofs.Tryz.f82];refine hgR ?_
 repeat' ((first | refine hfk ?_ ?_<;>intros | refine hik ?_ | with_reducible first | refine v6l (wv4 (ts.getD 0 default) (ts.getD 1 default) ⟨true,Dm.zero⟩) ?_ | refine vgi (wv4 (ts.getD 0 default) (ts.getD 1 default) ⟨true,Dm.zero⟩) ?_ | refine v6l (wv4 _ _ _) ?_ | refine vgi (wv4 _ _ _) ?_ | refine v6l (wah _ _ _) ?_ | refine vgi (wah _ _ _) ?_ | refine v6l (yv2 ts hl) ?_ | refine vgi (yv2 ts hl) ?_ | refine v6l (ywj) ?_ | refine vgi (ywj) ?_)<;>refine hgS ?_)
 . refine zo7 [] (vfe.pre (x09 V T x.name (ts.getD 0 default)) (w1l V T) rfl rfl) ?_;refine hg ?_
   repeat' ((first | refine hfk ?_ ?_<;>intros | refine hik ?_)<;>refine hgS ?_)
   exact StH.zx4 rfl (by kernel_rfl) (by ((refine bs1 @wqq.eq_def ?_;try exact trivial))<;>first | rfl | trivial)
 all_goals exact StH.zx4 rfl (by kernel_rfl) (by ((refine bs1 @wqq.eq_def ?_;try exact trivial))<;>first | rfl | trivial)
mutual
def Ex.ty (V T:List (ByteArray×Dm)):Ex->Ty×Int
 | .mk o n u s l=>bif decide ((l.length:Int)=0) then zgx V (.mk o n u s l) else
  match Ex.tyL V T l with
  | .inl e=>(Ty.zero,e)
  | .inr ts=>wqq T o s ts
def Ex.tyL (V T:List (ByteArray×Dm)):List Ex->Int ⊕ List Ty
 | []=>.inr []
 | y::l=>match Ex.ty V T y with
  | (t,e)=>bif decide (¬e=0) then .inl e else match Ex.tyL V T l with
   | .inl e=>.inl e
   | .inr ts=>.inr (t::ts)
end
theorem Ex.xyt (V T:List (ByteArray×Dm)) (x:Ex):x.ty V T=bif decide ((x.args.length:Int)=0) then zgx V x else
 match Ex.tyL V T x.args with
 | .inl e=>(Ty.zero,e)
 | .inr ts=>wqq T x.op x.name ts:=by cases x;rw [Ex.ty];rfl
theorem cOf (V T:List (ByteArray×Dm)):∀ x:Ex,x.Sm->x.shaped=true->x.xi4=false->vfe Γ prog 48 [mE V,mE T] [.agg [.mp 0,.mp 1],.agg ((exC x).map .dat)] [mE V,mE T] (tyS (x.ty V T)):=by
 refine Ex.ind (fun x ih hx hsh hcl=>?_);have hl:=hx.len;refine vfe.run [] Go.Proofs.Tryz.func48 rfl rfl ?_;simp only [Go.Proofs.Tryz.f48];refine hgR ?_
 repeat' ((first | refine hfk ?_ ?_<;>intros | refine hik ?_)<;>refine hgS ?_)
 . refine xwg (vfe.pre (y06 V T x hx) (w1l V T) rfl rfl) ?_;refine hg ?_;rename_i h;exact StH.zx4 rfl (by kernel_rfl) (by rw [Ex.xyt,h];rfl)
 . rename_i h0 hd0
   have hne:x.args.length≠0:=by omega
   have hnode:yxn x=true:=by rw [Ex.xg3,Bool.and_eq_true] at hsh;exact hsh.1
   have hargs:∀ y∈x.args,y.shaped=true:=by rw [Ex.xg3,Bool.and_eq_true,List.all_eq_true] at hsh;exact hsh.2
   have hcalls:x.op≠3/\∀ y∈x.args,y.xi4=false:=by
    rw [Ex.wd9,Bool.or_eq_false_iff,decide_eq_false_iff_not,List.any_eq_false] at hcl;exact ⟨hcl.1,fun y hy=>by simpa using hcl.2 y hy⟩
   obtain ⟨hl2,hl3⟩:=x6z hnode hcalls.1 hne
   have hty:x.ty V T=match Ex.tyL V T x.args with
    | .inl e=>(Ty.zero,e)
    | .inr ts=>wqq T x.op x.name ts:=by rw [Ex.xyt,hd0,cond_false]
   refine y55 [2,3,4,21,22] (fun p:Nat×List Ty=>[(6,.one (.sl 5 7 0 p.2.length)),(23,.one (.dat (cI p.1)))])
    (fun p=>[mE V,mE T,.box [.mp 0,.mp 1] (some 103),.box ((exC x).map .dat) (some 24),.box ((tyC Ty.zero).map .dat) (some 55),.arr (.sl 7 (p.2.map Ty.C)) 0 (some 55)])
    (fun p=>p.1<=x.args.length/\p.2.length=p.1/\Ex.tyL V T x.args=match Ex.tyL V T (x.args.drop p.1) with
      | .inl e=>.inl e
      | .inr r=>.inr (p.2++r)) (fun p=>x.args.length-p.1) (0,[]) ⟨Nat.zero_le _,rfl,by simp only [List.drop_zero,List.nil_append];split<;>simp only [*]⟩ ?_ ?_
   . refine hg ?_;refine StH.trans (StH.empty (d:=6) (es:=7) (c:=.sl 7 []) (T:=some 55) rfl rfl (fun r hr=>by cases hr) rfl) ?_;refine hg ?_;exact StH.same svl rfl
   rintro ⟨i,ts⟩ ⟨h1,h2,h3⟩;simp only at h1 h2 h3;refine hg ?_;refine vnx (fun hlt _=>?_) (fun hlt _=>?_)
   . have hlt':i<x.args.length:=by omega
     have hy:=w4t hlt';rw [xqz hlt',Ex.tyL] at h3;refine hg ?_;refine xwg (vfe.pre (ih _ hy (hx.arg _ hy) (hargs _ hy) (hcalls.2 _ hy)) (w1l V T) rfl rfl) ?_;generalize hr:Ex.ty V T (x.args.getD i default)=r at h3 ⊢;obtain ⟨t,e⟩:=r;simp only at h3;refine hg ?_;refine vnx (fun he hd=>?_) (fun he hd=>?_)
     . refine hg ?_
       have h3':Ex.tyL V T x.args=.inl e:=by rw [h3,show decide (¬e=0)=true from hd];rfl
       exact StH.zx4 rfl (by kernel_rfl) (by rw [hty,h3'];rfl)
     . refine hg ?_;rw [show decide (¬e=0)=false from hd,cond_false] at h3
       have h3':Ex.tyL V T x.args=match Ex.tyL V T (x.args.drop (i+1)) with
        | .inl e=>.inl e
        | .inr r=>.inr ((ts++[t])++r):=by
        rw [h3]
        cases Ex.tyL V T (x.args.drop (i+1)) with
        | inl e=>rfl
        | inr r=>simp only [List.append_assoc,List.singleton_append]
       have hmap:ts.map Ty.C++[tyC t]=(ts++[t]).map Ty.C:=by simp;rfl
       rw [hmap];refine ⟨(i+1,ts++[t]),⟨by dsimp only;omega,by dsimp only;rw [List.length_append,List.length_singleton,h2],h3'⟩,by dsimp only;omega,?_⟩;refine StH.xuw [2,3,4,6,21,22,23] 5 8 6 rfl rfl rfl rfl rfl rfl rfl (by kernel_rfl) ?_;refine hg ?_;exact StH.same svl rfl
   . have h3':Ex.tyL V T x.args=.inr ts:=by rw [h3,List.drop_eq_nil_of_le (by omega),Ex.tyL];simp only [List.append_nil]
     refine hg ?_;refine v44 (zz5 V T x ts (by omega) (by omega) (fun a b=>by have:=hl2 a b;omega) (fun a=>by have:=hl3 a;omega)) (ξ:=[.box [.mp 0,.mp 1] (some 103),.box ((exC x).map .dat) (some 24),.box ((tyC Ty.zero).map .dat) (some 55),.arr (.sl 7 (ts.map Ty.C)) (ts.length*7) (some 55)]) (w1l V T) ?_ ?_ rfl rfl ?_
     . refine hg2 @dzL.eq_def @dzS.eq_def ?_;exact trivial
     . refine hg2 @dzB.eq_def @dzS.eq_def ?_;exact trivial
     . refine hg ?_;exact StH.zx4 rfl (by kernel_rfl) (by rw [hty,h3'];rfl)
theorem vl5:∀(l:List It) (u v:Un),wf3 l u=some v->(∀ x∈l,x.ok)->qs v.f<=qs u.f+100*l.length
 | [],u,v,h,_=>by rw [wf3] at h;cases h;omega
 | x::l,u,v,h,hx=>by
  rw [wf3] at h;split at h
  . cases h
  . rename_i w hw;have h1:=vl5 l _ _ h (fun y hy=>hx y (by simp [hy]));obtain ⟨_,h2,_⟩:=xk3 hw;obtain ⟨_,_,h3,h4⟩:=hx x (by simp)
    have hq:qs (ymb u.f w.f x.e)<=qs u.f+9*(qs w.f+1):=by
     have:=zki u.f w.f x.e x.e.natAbs
     rw [<-xbq] at this;have h9:x.e.natAbs*(qs w.f+1)<=9*(qs w.f+1):=Nat.mul_le_mul_right _ (by omega);omega
    simp only at h1;rw [List.length_cons];omega
theorem v4u (s:ByteArray):(∃ u,zth s=(some u,0)/\qs u.f<=4200)\/(∃ e,e≠0/\zth s=(none,e)):=by
 unfold zth
 split
 . exact .inr ⟨12,by decide,rfl⟩
 . rename_i l hl
   split
   . exact .inr ⟨11,by decide,rfl⟩
   . rename_i u hu
     cases hd:zmf u.d with
     | false=>exact .inr ⟨3,by decide,rfl⟩
     | true=>
      refine .inl ⟨u,rfl,?_⟩;have h1:=yqi hl;have h2:=vl5 _ _ _ hu h1.2
      have:=zn5
      simp only at h2;omega
def facO (s:ByteArray):Option Rat:=(zth s).1.map (·.f)
theorem yzw (s:ByteArray):qz (facO s)<=4200:=by
 unfold facO
 rcases v4u s with ⟨u,h,hq⟩ | ⟨e,_,h⟩
 . rw [h];exact hq
 . rw [h];exact Nat.zero_le _
def aft (q:Rat):List Rw->Nat
 | []=>0
 | r::l=>bif decide ((r.k:Rat)<=q) then aft q l+1 else 0
theorem z7c {q:Rat}:∀{l:List Rw} {i:Nat},i<=l.length->(∀ j,j<i->(((l.getD j default).k:Rat)<=q))->(i<l.length->¬(((l.getD i default).k:Rat)<=q))->aft q l=i
 | [],i,hi,_,_=>by simp at hi;subst hi;rfl
 | x::l,0,_,_,h=>by
  have h':¬(x.k:Rat)<=q:=h (by simp);unfold aft;rw [decide_eq_false h'];rfl
 | x::l,i+1,hi,hj,h=>by
  have h0:(x.k:Rat)<=q:=hj 0 (by omega)
  have:=z7c (l:=l) (i:=i) (by simpa using hi) (fun j hj'=>by simpa using hj (j+1) (by omega)) (fun h'=>by simpa using h (by simpa using h'))
  unfold aft;rw [decide_eq_true h0,this];rfl
theorem xds (q:Rat):∀ l:List Rw,aft q l<=l.length
 | []=>Nat.le_refl _
 | x::l=>by
  have:=xds q l
  unfold aft
  cases decide ((x.k:Rat)<=q) with
  | true=>rw [cond_true,List.length_cons];omega
  | false=>rw [cond_false];omega
def Rows (l:List Rw):Prop:=∀ i,i<l.length->inT (l.getD i default).k=true/\inT (l.getD i default).v=true/\(0<i->(l.getD (i-1) default).k<(l.getD i default).k)
theorem wju {n:Int} (h:inT n=true):-1099511627776<=n/\n<=1099511627776:=by
 unfold inT at h;simpa using h
theorem zhg {l:List Rw} (h:zx5 l=true):Rows l:=fun i hi=>by
 have:=List.all_eq_true.1 h i (List.mem_range.2 hi)
 unfold rowAt at this;simp only [Bool.and_eq_true,Bool.not_eq_true',Bool.and_eq_false_iff,decide_eq_false_iff_not] at this;exact ⟨this.1.1,this.1.2,fun h0=>by rcases this.2 with h | h<;>omega⟩
theorem Rows.mono {l:List Rw} (h:Rows l):∀{i j:Nat},i<=j->j<l.length->(l.getD i default).k<=(l.getD j default).k:=by
 intro i j hij
 induction j with
 | zero => intro _; have : i = 0 := by omega
           subst this;exact Int.le_refl _
 | succ j ih=>
  intro hj
  rcases Nat.lt_or_eq_of_le hij with h1 | h1
  . have h2:=ih (by omega) (by omega);have h3:=(h (j+1) hj).2.2 (by omega);rw [Nat.add_sub_cancel] at h3;omega
  . subst h1;exact Int.le_refl _
theorem y6s {a b:Int} (h:a<=b):(a:Rat)<=(b:Rat):=Rat.intCast_le_intCast.2 h
theorem yun {t:Tb} (h:zi4 (fun s=>(zth s).2) t=true):(∃ u,zth t.unit=(some u,0)/\qs u.f<=4200)/\isName t.name=true/\t.rows.length<=100/\Rows t.rows:=by
 unfold zi4 at h;simp only [Bool.and_eq_true,Bool.not_eq_true',decide_eq_false_iff_not,Classical.not_not] at h;obtain ⟨⟨⟨h1,h2⟩,h3⟩,h4⟩:=h;refine ⟨?_,h2,by omega,zhg h4⟩
 rcases v4u t.unit with h | ⟨e,he,h⟩
 . exact h
 . rw [h] at h1;exact absurd h1 he
theorem zps {k:Int} {q:Rat}:decide (cmpO (some (k:Rat)) (some q)<=0)=decide ((k:Rat)<=q):=by
 apply decide_eq_decide.2;show Fc.ordQ _ _<=0↔_
 rcases Fc.ygb (k:Rat) q with ⟨h,e⟩ | ⟨h,e⟩ | ⟨h,e⟩<;>rw [e]
 . exact ⟨fun _=>Rat.le_of_lt h,fun _=>by decide⟩
 . rw [h];exact ⟨fun _=>Rat.le_refl,fun _=>by decide⟩
 . exact ⟨fun h'=>absurd h' (by decide),fun h'=>absurd h' (Rat.not_le.2 h)⟩
theorem yo8 (r:Rw) (q:Rat) (hr:inT r.k=true) (hq:qs q<=67108864):CallsD Γ prog 230 [.agg (rwC r),.agg (qC (some q))] (.one (cI (bif decide ((r.k:Rat)<=q) then -1 else 1))):=by
 have hk:=wju hr
 have hin:inI r.k:=by unfold inI;omega
 have h1:=oInt (Γ:=Γ) r.k hin;have hz:=wtn hin;have h2:=oCmp (Γ:=Γ) (some (r.k:Rat)) (some q) (by omega) hq;rw [<-zps];have hcr:=zpb (some (r.k:Rat)) (some q);generalize cmpO (some (r.k:Rat)) (some q)=c at *;refine CallsD.run [] Go.Proofs.Tryz.func230 rfl rfl rfl ?_;simp only [Go.Proofs.Tryz.f230];refine hgR ?_
 repeat' ((first | refine hfk ?_ ?_<;>intros | refine hik ?_ | with_reducible first | refine v6l (h1) ?_ | refine vgi (h1) ?_ | refine v6l (h2) ?_ | refine vgi (h2) ?_)<;>refine hgS ?_)
 all_goals refine lfE ?_;first | exact trivial | rfl
theorem vv5 {i j:Nat} (h:i+j<=4611686018427387904):IntKind.i64.wrap (ishr .u64 ((i:Int)+j) 1)=(((i+j) / 2:Nat):Int):=by
 have e:ishr .u64 ((i:Int)+j) 1=((i:Int)+j) / 2:=by
  unfold ishr;rw [show (min (1:Int).toNat IntKind.u64.bits)=1 by decide];rw [Int.fdiv_eq_ediv_of_nonneg _ (by decide)];rfl
 rw [e,w64 (by omega)];omega
abbrev unQ (u:Un):List Cell:=[cI u.d.a,cI u.d.b,cI u.d.c,cI u.d.d,cI u.d.e,cI u.d.f,.raw (.int .i64 (qF (some u.f)).s),.ints .i64 (qF (some u.f)).L,.raw (.int .i64 (qF (some u.f)).t),.ints .i64 (qF (some u.f)).M]
theorem v1q {s:ByteArray} {u:Un} (hs:s.size<=1073741824) (h:zth s=(some u,0)):CallsD Γ prog 79 [.one (cS s)] (.tup [.agg (unQ u),.one (cI 0)]):=by
 have hr:=vqa (Γ:=Γ) s hs;rw [h] at hr;exact hr
theorem cBin (l:List Rw) (q:Rat) (f:FuncId) (hl:l.length<=1073741824) (hs:Rows l)
 (h:∀ r∈l,CallsD Γ prog f [.agg (rwC r),.agg (qC (some q))] (.one (cI (bif decide ((r.k:Rat)<=q) then -1 else 1)))) :
 CallsD Γ prog 229 [.one (.sl 2 (l.map Rw.C)),.agg (qC (some q)),fN f] (.tup [.one (cI (aft q l)),.one (cB false)]):=by
 generalize hR:aft q l=R;refine CallsD.run [] Go.Proofs.Tryz.func229 rfl rfl rfl ?_;simp only [Go.Proofs.Tryz.f229];refine hgR ?_;refine y55 [0,2,4,8] (fun p:Nat×Nat=>[(9,.one (.dat (cI p.1))),(10,.one (.dat (cI p.2)))]) (fun _=>[.box ((qC (some q)).map .dat) (some 33)])
  (fun p=>p.1<=p.2/\p.2<=l.length/\(∀ j,j<p.1->(((l.getD j default).k:Rat)<=q))/\(∀ j,p.2<=j->j<l.length->¬(((l.getD j default).k:Rat)<=q))) (fun p=>p.2-p.1) (0,l.length) ⟨Nat.zero_le _,Nat.le_refl _,fun j hj=>by omega,fun j h1 h2=>by omega⟩ ?_ ?_
 . refine hg ?_;exact StH.same svl rfl
 rintro ⟨i,j⟩ ⟨h1,h2,h3,h4⟩;simp only at h1 h2 h3 h4;refine hg ?_;refine vnx (fun hlt _=>?_) (fun hlt _=>?_)
 . have hw:=vv5 (i:=i) (j:=j) (by omega)
   have hm:(i+j) / 2<l.length:=by omega
   have hmi:i<=(i+j) / 2:=by omega
   have hmj:(i+j) / 2<j:=by omega
   have hc:=h _ (w4t hm)
   have hlo:decide (((l.getD ((i+j) / 2) default).k:Rat)<=q)=true->∀ k,k<(i+j) / 2+1->(((l.getD k default).k:Rat)<=q):=fun hq k hk=>Rat.le_trans (y6s (hs.mono (by omega) hm)) (of_decide_eq_true hq)
   have hhi:decide (((l.getD ((i+j) / 2) default).k:Rat)<=q)=false->∀ k,(i+j) / 2<=k->k<l.length->¬(((l.getD k default).k:Rat)<=q):=fun hq k hk hk2 hle=>of_decide_eq_false hq (Rat.le_trans (y6s (hs.mono hk hk2)) hle)
   clear h hs;generalize hM:(i+j) / 2=m at *;clear hM;generalize decide (((l.getD m default).k:Rat)<=q)=b at hc hlo hhi;refine hg1 @hw ?_
   cases b with
   | true=>
    repeat' ((first | refine hfk ?_ ?_<;>intros | refine hik ?_ | with_reducible first | refine v6l (hc) ?_ | refine vgi (hc) ?_)<;>refine hgS ?_)
    all_goals first
     | exact ⟨(m+1,j),⟨by dsimp only;omega,h2,hlo rfl,h4⟩,by dsimp only;omega,StH.same svl rfl⟩
     | (exfalso;simp_all;done)
   | false=>
    repeat' ((first | refine hfk ?_ ?_<;>intros | refine hik ?_ | with_reducible first | refine v6l (hc) ?_ | refine vgi (hc) ?_)<;>refine hgS ?_)
    all_goals first
     | exact ⟨(i,m),⟨by dsimp only;omega,by dsimp only;omega,h3,hhi rfl⟩,by dsimp only;omega,StH.same svl rfl⟩
     | (exfalso;simp_all;done)
 . have h4':∀ k,i<=k->k<l.length->¬(((l.getD k default).k:Rat)<=q):=fun k hk=>h4 k (by omega)
   have hR2:R=i:=by rw [<-hR];exact z7c (by omega) h3 (fun h=>h4' i (Nat.le_refl _) h)
   rw [hR2];refine hg ?_;by_cases hn:i<l.length
   . have hc:=h _ (w4t hn);rw [decide_eq_false (h4' i (Nat.le_refl _) hn),cond_false] at hc
     repeat' ((first | refine hfk ?_ ?_<;>intros | refine hik ?_ | with_reducible first | refine v6l (hc) ?_ | refine vgi (hc) ?_)<;>refine hgS ?_)
     all_goals refine lfE ?_;first | exact trivial | rfl
   . repeat' ((first | refine hfk ?_ ?_<;>intros | refine hik ?_)<;>refine hgS ?_)
     all_goals first
      | (exfalso;omega)
      | refine lfE ?_;first | exact trivial | rfl
theorem zt6 (t:Tb) (q:Rat) (ht:zi4 (fun s=>(zth s).2) t=true) (hq:qs q<=67108864):CallsD Γ prog 190 [.agg (tbC t),.agg (qC (some q))] (.tup [.one (cI (aft q t.rows)),.one (cB (decide (0<(aft q t.rows:Int))&&decide (cmpO (some (((t.rows.getD (aft q t.rows-1) default).k:Int):Rat)) (some q)=0)))]):=by
 obtain ⟨_,_,hl,hrows⟩:=yun ht
 have hb:=cBin (Γ:=Γ) t.rows q 230 (by omega) hrows (fun r hr=>yo8 r q (by
  obtain ⟨i,hi,rfl⟩:=List.getElem_of_mem hr
  have:=(hrows i hi).1
  rw [show t.rows.getD i default=t.rows[i] from by simp [hi]] at this
  exact this) hq)
 have hle:=xds q t.rows;have hcr:=zpb (some (((t.rows.getD (aft q t.rows-1) default).k:Int):Rat)) (some q);by_cases h0:aft q t.rows=0
 . rw [h0] at hb ⊢;refine CallsD.run [] Go.Proofs.Tryz.func190 rfl rfl rfl ?_;simp only [Go.Proofs.Tryz.f190];refine hgR ?_
   repeat' ((first | refine hfk ?_ ?_<;>intros | refine hik ?_ | with_reducible first | refine v6l (hb) ?_ | refine vgi (hb) ?_)<;>refine hgS ?_)
   all_goals first
    | (exfalso;omega)
    | refine lfE ?_;first | exact trivial | rfl
 . have hk:=wju (hrows (aft q t.rows-1) (by omega)).1
   have hin:inI (t.rows.getD (aft q t.rows-1) default).k:=by unfold inI;omega
   have hz:=wtn hin;have o1:=oInt (Γ:=Γ) (t.rows.getD (aft q t.rows-1) default).k hin;have o2:=oCmp (Γ:=Γ) (some (((t.rows.getD (aft q t.rows-1) default).k:Int):Rat)) (some q) (by omega) hq;generalize cmpO (some (((t.rows.getD (aft q t.rows-1) default).k:Int):Rat)) (some q)=c at *;generalize aft q t.rows=k at *;refine CallsD.run [] Go.Proofs.Tryz.func190 rfl rfl rfl ?_;simp only [Go.Proofs.Tryz.f190];refine hgR ?_
   repeat' ((first | refine hfk ?_ ?_<;>intros | refine hik ?_ | with_reducible first | refine v6l (hb) ?_ | refine vgi (hb) ?_ | refine v6l (o1) ?_ | refine vgi (o1) ?_ | refine v6l (o2) ?_ | refine vgi (o2) ?_)<;>refine hgS ?_)
   all_goals refine lfE ?_;first | exact trivial | rfl
def zxd (t:Tb) (n:Int):Option Rat:=mulO (some (n:Rat)) (facO t.unit)
theorem xan (t:Tb) (n:Int) (ht:zi4 (fun s=>(zth s).2) t=true) (hu:t.unit.size<=1073741824) (hn:inI n):CallsD Γ prog 191 [.agg (tbC t),.one (cI n)] (.agg (qC (zxd t n))):=by
 obtain ⟨u,h1,h2⟩:=(yun ht).1;have hr:=v1q (Γ:=Γ) hu h1;have hz:=wtn hn;have hm:=oMul (Γ:=Γ) (some (n:Rat)) (some u.f) (by omega) (by show qs u.f<=_;omega);rw [show zxd t n=mulO (some (n:Rat)) (some u.f) by unfold zxd facO;rw [h1];rfl];refine CallsD.run [] Go.Proofs.Tryz.func191 rfl rfl rfl ?_;simp only [Go.Proofs.Tryz.f191];refine hgR ?_
 repeat' ((first | refine hfk ?_ ?_<;>intros | refine hik ?_ | with_reducible first | refine v6l (hr) ?_ | refine vgi (hr) ?_ | refine v6l (oInt n hn) ?_ | refine vgi (oInt n hn) ?_ | refine v6l (hm) ?_ | refine vgi (hm) ?_)<;>refine hgS ?_)
 all_goals refine lfE ?_;first | exact trivial | rfl
def wyo (t:Tb) (v:Option Rat):Option Rat×Int:=bif !zi4 (fun s=>(zth s).2) t then (none,1) else match v with
 | none=>(none,1)
 | some q=>bif decide (aft q t.rows=0) then (none,4) else (zxd t (t.rows.getD (aft q t.rows-1) default).v,0)
theorem ymc (t:Tb) (v:Option Rat) (hv:qz v<=67108864) (h1:t.name.size<=1073741824) (h2:t.unit.size<=1073741824) (h3:t.rows.length<=1073741824):CallsD Γ prog 137 [.agg (tbC t),.agg (qC v)] (qR (wyo t v).1 (wyo t v).2):=by
 have hr:=vv4 (Γ:=Γ) t h1 h2 h3
 cases ht:zi4 (fun s=>(zth s).2) t with
 | false=>
  rw [ht] at hr;rw [show wyo t v=(none,1) by unfold wyo;rw [ht];rfl];refine CallsD.run [] Go.Proofs.Tryz.func137 rfl rfl rfl ?_;simp only [Go.Proofs.Tryz.f137];refine hgR ?_
  repeat' ((first | refine hfk ?_ ?_<;>intros | refine hik ?_ | with_reducible first | refine v6l (hr) ?_ | refine vgi (hr) ?_)<;>refine hgS ?_)
  exact vmy
 | true=>
  rw [ht] at hr
  cases v with
  | none=>
   have hv2:CallsD Γ prog 44 [.agg (qC none)] (.one (cB false)):=wi7 none (by omega);rw [show wyo t none=(none,1) by unfold wyo;rw [ht];rfl];refine CallsD.run [] Go.Proofs.Tryz.func137 rfl rfl rfl ?_;simp only [Go.Proofs.Tryz.f137];refine hgR ?_
   repeat' ((first | refine hfk ?_ ?_<;>intros | refine hik ?_ | with_reducible first | refine v6l (hr) ?_ | refine vgi (hr) ?_ | refine v6l (hv2) ?_ | refine vgi (hv2) ?_)<;>refine hgS ?_)
   exact vmy
  | some q=>
   have hv2:CallsD Γ prog 44 [.agg (qC (some q))] (.one (cB true)):=wi7 (some q) (by omega);have ha:=zt6 (Γ:=Γ) t q ht hv;have hle:=xds q t.rows;by_cases h0:aft q t.rows=0
   . rw [show wyo t (some q)=(none,4) by unfold wyo;rw [ht];simp only [Bool.not_true,cond_false,h0,decide_true,cond_true]];rw [h0] at ha;refine CallsD.run [] Go.Proofs.Tryz.func137 rfl rfl rfl ?_;simp only [Go.Proofs.Tryz.f137];refine hgR ?_
     repeat' ((first | refine hfk ?_ ?_<;>intros | refine hik ?_ | with_reducible first | refine v6l (hr) ?_ | refine vgi (hr) ?_ | refine v6l (hv2) ?_ | refine vgi (hv2) ?_ | refine v6l (ha) ?_ | refine vgi (ha) ?_)<;>refine hgS ?_)
     all_goals first
      | exact vmy
      | (exfalso;omega)
   . rw [show wyo t (some q)=(zxd t (t.rows.getD (aft q t.rows-1) default).v,0) by unfold wyo;rw [ht];simp only [Bool.not_true,cond_false,decide_eq_false h0]];obtain ⟨_,_,hl,hrows⟩:=yun ht;have hn:=wju (hrows (aft q t.rows-1) (by omega)).2.1;have hw:=xan (Γ:=Γ) t (t.rows.getD (aft q t.rows-1) default).v ht h2 (by unfold inI;omega);generalize aft q t.rows=k at *;refine CallsD.run [] Go.Proofs.Tryz.func137 rfl rfl rfl ?_;simp only [Go.Proofs.Tryz.f137];refine hgR ?_
     repeat' ((first | refine hfk ?_ ?_<;>intros | refine hik ?_ | with_reducible first | refine v6l (hr) ?_ | refine vgi (hr) ?_ | refine v6l (hv2) ?_ | refine vgi (hv2) ?_ | refine v6l (ha) ?_ | refine vgi (ha) ?_ | refine v6l (hw) ?_ | refine vgi (hw) ?_)<;>refine hgS ?_)
     all_goals first
      | (exfalso;omega)
      | refine lfE ?_;first | exact trivial | rfl
def ivO:Option Iv->Sc
 | none=>Sc.zero
 | some v=>ivS v
abbrev scC (s:Sc):List Cell:=[.raw (.int .i64 s.low.s),.ints .i64 s.low.L,.raw (.int .i64 s.low.t),.ints .i64 s.low.M,.raw (.int .i64 s.high.s),.ints .i64 s.high.L,.raw (.int .i64 s.high.t),.ints .i64 s.high.M]
abbrev scZ:List Cell:=[cI 0,.zc,cI 0,.zc,cI 0,.zc,cI 0,.zc]
theorem vr3 {e:Int}:RLe (.tup [.agg scZ,.one (cI e)]) (.tup [.agg (scC Sc.zero),.one (cI e)]):=.tup (.cons wu9 (.cons (.refl _) .nil))
theorem wz0 {b:Bool}:RLe (.tup [.agg scZ,.one (cB b)]) (.tup [.agg (scC Sc.zero),.one (cB b)]):=.tup (.cons wu9 (.cons (.refl _) .nil))
theorem vr2:qs (0:Rat)<=67108864:=by have:=wtn (n:=0) (by unfold inI;omega);exact Nat.le_trans this (by decide)
theorem wse:qs ((1:Int):Rat)<=4:=wtn (n:=1) (by unfold inI;omega)
theorem vfo (a b:Iv) (h:b.has 0=true) (ha:ivZ a<=67108864) (hb:ivZ b<=67108864):CallsD Γ prog 152 [.agg (ivC a),.agg (ivC b)] (.tup [.agg (scC Sc.zero),.one (cI 15)]):=by
 have h1:=ymg (Γ:=Γ) a ha;have h2:=ymg (Γ:=Γ) b hb;have h3:=oInt (Γ:=Γ) 0 (by unfold inI;omega);have h4:=iHas (Γ:=Γ) b ((0:Int):Rat) hb vr2;rw [show b.has ((0:Int):Rat)=true from h] at h4;refine CallsD.run [] Go.Proofs.Tryz.func152 rfl rfl rfl ?_;simp only [Go.Proofs.Tryz.f152];refine hgR ?_
 repeat' ((first | refine hfk ?_ ?_<;>intros | refine hik ?_ | with_reducible first | refine v6l (h1) ?_ | refine vgi (h1) ?_ | refine v6l (h2) ?_ | refine vgi (h2) ?_ | refine v6l (h3) ?_ | refine vgi (h3) ?_ | refine v6l (h4) ?_ | refine vgi (h4) ?_)<;>refine hgS ?_)
 exact vr3
theorem vk8 {b:Iv} (h:b.has 0=false):b.lo≠0/\b.hi≠0:=by
 have:=b.h
 unfold Iv.has at h;constructor
 . intro e;rw [e] at h this;simp [this] at h
 . intro e;rw [e] at h this;simp [this] at h
theorem yol (a b:Iv) (h:b.has 0=false) (ha:ivZ a<=33554432) (hb:ivZ b<=33554400):CallsD Γ prog 152 [.agg (ivC a),.agg (ivC b)] (ivR (a.mul b.inv)):=by
 have h1:=ymg (Γ:=Γ) a (by omega);have h2:=ymg (Γ:=Γ) b (by omega);have h3:=oInt (Γ:=Γ) 0 (by unfold inI;omega);have h4:=iHas (Γ:=Γ) b ((0:Int):Rat) (by omega) vr2;rw [show b.has ((0:Int):Rat)=false from h] at h4;have h5:=oInt (Γ:=Γ) 1 (by unfold inI;omega);have q1:=wse;have d1:=oDiv (Γ:=Γ) (some ((1:Int):Rat)) (some b.hi) (Nat.le_trans q1 (by omega)) (zhi hb);have d2:=oDiv (Γ:=Γ) (some ((1:Int):Rat)) (some b.lo) (Nat.le_trans q1 (by omega)) (zlo hb)
 have e1:∀ x:Rat,x≠0->divO (some ((1:Int):Rat)) (some x)=some (1 / x)/\divE (some ((1:Int):Rat)) (some x)=0:=fun x hx=>by
  simp only [divO,divE,hx,decide_false,cond_false];exact ⟨rfl,trivial⟩
 obtain ⟨n1,n2⟩:=vk8 h;rw [(e1 _ n2).1,(e1 _ n2).2] at d1;rw [(e1 _ n1).1,(e1 _ n1).2] at d2;have e2:b.inv=⟨1 / b.hi,1 / b.lo,Iv.xap h⟩:=dif_pos h;have s1:=x3x ((1:Int):Rat) b.hi;have s2:=x3x ((1:Int):Rat) b.lo;have m:=iMul (Γ:=Γ) a b.inv ha (by rw [e2];show max (qs (1 / b.hi)) (qs (1 / b.lo))<=_;have s1:qs (1 / b.hi)<=_:=s1;have s2:qs (1 / b.lo)<=_:=s2;have z1:qs b.hi<=33554400:=zhi hb;have z2:qs b.lo<=33554400:=zlo hb;omega);rw [e2] at m ⊢;refine CallsD.run [] Go.Proofs.Tryz.func152 rfl rfl rfl ?_;simp only [Go.Proofs.Tryz.f152];refine hgR ?_
 repeat' ((first | refine hfk ?_ ?_<;>intros | refine hik ?_ | with_reducible first | refine v6l (h1) ?_ | refine vgi (h1) ?_ | refine v6l (h2) ?_ | refine vgi (h2) ?_ | refine v6l (h3) ?_ | refine vgi (h3) ?_ | refine v6l (h4) ?_ | refine vgi (h4) ?_ | refine v6l (h5) ?_ | refine vgi (h5) ?_ | refine v6l (d1) ?_ | refine vgi (d1) ?_ | refine v6l (d2) ?_ | refine vgi (d2) ?_ | refine v6l (m) ?_ | refine vgi (m) ?_)<;>refine hgS ?_)
 exact RLe.ofEq rfl
theorem xh7 (q:Rat) (h:qs q<=67108864):CallsD Γ prog 52 [.agg (qC (some q))] (.agg (qC (some q))):=toD (vs2 (qF (some q)) h)
theorem z8z (x y:Rat) (hx:qs x<=67108864) (hy:qs y<=67108864):CallsD Γ prog 196 [.agg (qC (some x)),.agg (qC (some y))] (.tup [.agg (qC (some (min x y))),.agg (qC (some (max x y)))]):=by
 have h1:=oCmp (Γ:=Γ) (some x) (some y) hx hy;have h2:=xh7 (Γ:=Γ) x hx;have h3:=xh7 (Γ:=Γ) y hy;have e:=@vjq x y;by_cases hle:x<=y
 . rw [decide_eq_true hle] at e;have e:=of_decide_eq_true e;rw [show min x y=x by rw [Rat.min_def,if_pos hle],show max x y=y by rw [Rat.max_def,if_pos hle]];have e:cmpO (some x) (some y)<=0:=e;generalize cmpO (some x) (some y)=c at h1 e;refine CallsD.run [] Go.Proofs.Tryz.func196 rfl rfl rfl ?_;simp only [Go.Proofs.Tryz.f196];refine hgR ?_
   repeat' ((first | refine hfk ?_ ?_<;>intros | refine hik ?_ | with_reducible first | refine v6l (h1) ?_ | refine vgi (h1) ?_ | refine v6l (h2) ?_ | refine vgi (h2) ?_ | refine v6l (h3) ?_ | refine vgi (h3) ?_)<;>refine hgS ?_)
   all_goals first
    | (exfalso;omega)
    | exact RLe.ofEq rfl
 . rw [decide_eq_false hle] at e;have e:=of_decide_eq_false e;rw [show min x y=y by rw [Rat.min_def,if_neg hle],show max x y=x by rw [Rat.max_def,if_neg hle]];have e:¬cmpO (some x) (some y)<=0:=e;generalize cmpO (some x) (some y)=c at h1 e;refine CallsD.run [] Go.Proofs.Tryz.func196 rfl rfl rfl ?_;simp only [Go.Proofs.Tryz.f196];refine hgR ?_
   repeat' ((first | refine hfk ?_ ?_<;>intros | refine hik ?_ | with_reducible first | refine v6l (h1) ?_ | refine vgi (h1) ?_ | refine v6l (h2) ?_ | refine vgi (h2) ?_ | refine v6l (h3) ?_ | refine vgi (h3) ?_)<;>refine hgS ?_)
   all_goals first
    | (exfalso;omega)
    | exact RLe.ofEq rfl
theorem iMin (a b:Iv) (ha:ivZ a<=67108864) (hb:ivZ b<=67108864):CallsD Γ prog 153 [.agg (ivC a),.agg (ivC b)] (ivR (a.minI b)):=by
 have h1:=ymg (Γ:=Γ) a ha;have h2:=ymg (Γ:=Γ) b hb;have h3:=z8z (Γ:=Γ) a.lo b.lo (zlo ha) (zlo hb);have h4:=z8z (Γ:=Γ) a.hi b.hi (zhi ha) (zhi hb);refine CallsD.run [] Go.Proofs.Tryz.func153 rfl rfl rfl ?_;simp only [Go.Proofs.Tryz.f153];refine hgR ?_
 repeat' ((first | refine hfk ?_ ?_<;>intros | refine hik ?_ | with_reducible first | refine v6l (h1) ?_ | refine vgi (h1) ?_ | refine v6l (h2) ?_ | refine vgi (h2) ?_ | refine v6l (h3) ?_ | refine vgi (h3) ?_ | refine v6l (h4) ?_ | refine vgi (h4) ?_)<;>refine hgS ?_)
 exact RLe.ofEq rfl
theorem iMax (a b:Iv) (ha:ivZ a<=67108864) (hb:ivZ b<=67108864):CallsD Γ prog 154 [.agg (ivC a),.agg (ivC b)] (ivR (a.maxI b)):=by
 have h1:=ymg (Γ:=Γ) a ha;have h2:=ymg (Γ:=Γ) b hb;have h3:=z8z (Γ:=Γ) a.lo b.lo (zlo ha) (zlo hb);have h4:=z8z (Γ:=Γ) a.hi b.hi (zhi ha) (zhi hb);refine CallsD.run [] Go.Proofs.Tryz.func154 rfl rfl rfl ?_;simp only [Go.Proofs.Tryz.f154];refine hgR ?_
 repeat' ((first | refine hfk ?_ ?_<;>intros | refine hik ?_ | with_reducible first | refine v6l (h1) ?_ | refine vgi (h1) ?_ | refine v6l (h2) ?_ | refine vgi (h2) ?_ | refine v6l (h3) ?_ | refine vgi (h3) ?_ | refine v6l (h4) ?_ | refine vgi (h4) ?_)<;>refine hgS ?_)
 exact RLe.ofEq rfl
theorem yul (a b:Iv) (ha:ivZ a<=67108864) (hb:ivZ b<=67108864):CallsD Γ prog 148 [.agg (ivC a),.agg (ivC b)] (ivR (a.hull b)):=by
 have h1:=ymg (Γ:=Γ) a ha;have h2:=ymg (Γ:=Γ) b hb
 have h3:=toD (Γ:=Γ) (y82 [qF (some a.lo),qF (some a.hi),qF (some b.lo),qF (some b.hi)] (Nat.succ_pos _) (show (4:Nat)<=1048576 by decide) (fun f hf=>by
  simp only [List.mem_cons,List.not_mem_nil,or_false] at hf
  rcases hf with rfl | rfl | rfl | rfl
  . exact Nat.le_trans (Nat.le_max_left _ _) ha
  . exact Nat.le_trans (Nat.le_max_right _ _) ha
  . exact Nat.le_trans (Nat.le_max_left _ _) hb
  . exact Nat.le_trans (Nat.le_max_right _ _) hb))
 rw [show Sc.y7f [qF (some a.lo),qF (some a.hi),qF (some b.lo),qF (some b.hi)]=ivS (a.hull b) from ww1 _ _ _ _] at h3;have h3:CallsD Γ prog 194 [.one (.sl 4 [qC (some a.lo),qC (some a.hi),qC (some b.lo),qC (some b.hi)])] (.agg (ivC (a.hull b))):=h3;refine CallsD.run [] Go.Proofs.Tryz.func148 rfl rfl rfl ?_;simp only [Go.Proofs.Tryz.f148];refine hgR ?_
 repeat' ((first | refine hfk ?_ ?_<;>intros | refine hik ?_ | with_reducible first | refine v6l (h1) ?_ | refine vgi (h1) ?_ | refine v6l (h2) ?_ | refine vgi (h2) ?_ | refine v6l (h3) ?_ | refine vgi (h3) ?_)<;>refine hgS ?_)
 exact RLe.ofEq rfl
def Iv.meet (a b:Iv):Option Iv:=if h:max a.lo b.lo<=min a.hi b.hi then some ⟨_,_,h⟩ else none
theorem v1d (a b:Iv) (ha:ivZ a<=67108864) (hb:ivZ b<=67108864):CallsD Γ prog 155 [.agg (ivC a),.agg (ivC b)] (.tup [.agg (scC (ivO (a.meet b))),.one (cB (a.meets b))]):=by
 have h1:=ymg (Γ:=Γ) a ha;have h2:=ymg (Γ:=Γ) b hb;have h3:=z8z (Γ:=Γ) a.lo b.lo (zlo ha) (zlo hb);have h4:=z8z (Γ:=Γ) a.hi b.hi (zhi ha) (zhi hb)
 have hs1:qs (max a.lo b.lo)<=67108864:=by rcases yqy a.lo b.lo with e | e<;>rw [e]<;>first | exact zlo ha | exact zlo hb
 have hs2:qs (min a.hi b.hi)<=67108864:=by rcases vdq a.hi b.hi with e | e<;>rw [e]<;>first | exact zhi ha | exact zhi hb
 have h5:=oCmp (Γ:=Γ) (some (max a.lo b.lo)) (some (min a.hi b.hi)) hs1 hs2;have e:=@vjq (max a.lo b.lo) (min a.hi b.hi);by_cases hle:max a.lo b.lo<=min a.hi b.hi
 . rw [decide_eq_true hle] at e;have e:=of_decide_eq_true e;have e:cmpO (some (max a.lo b.lo)) (some (min a.hi b.hi))<=0:=e;rw [show a.meet b=some ⟨_,_,hle⟩ from dif_pos hle,show a.meets b=true from decide_eq_true hle];generalize cmpO (some (max a.lo b.lo)) (some (min a.hi b.hi))=c at h5 e;refine CallsD.run [] Go.Proofs.Tryz.func155 rfl rfl rfl ?_;simp only [Go.Proofs.Tryz.f155];refine hgR ?_
   repeat' ((first | refine hfk ?_ ?_<;>intros | refine hik ?_ | with_reducible first | refine v6l (h1) ?_ | refine vgi (h1) ?_ | refine v6l (h2) ?_ | refine vgi (h2) ?_ | refine v6l (h3) ?_ | refine vgi (h3) ?_ | refine v6l (h4) ?_ | refine vgi (h4) ?_ | refine v6l (h5) ?_ | refine vgi (h5) ?_)<;>refine hgS ?_)
   all_goals first
    | (exfalso;omega)
    | exact RLe.ofEq rfl
 . rw [decide_eq_false hle] at e;have e:=of_decide_eq_false e;have e:¬cmpO (some (max a.lo b.lo)) (some (min a.hi b.hi))<=0:=e;rw [show a.meet b=none from dif_neg hle,show a.meets b=false from decide_eq_false hle];generalize cmpO (some (max a.lo b.lo)) (some (min a.hi b.hi))=c at h5 e;refine CallsD.run [] Go.Proofs.Tryz.func155 rfl rfl rfl ?_;simp only [Go.Proofs.Tryz.f155];refine hgR ?_
   repeat' ((first | refine hfk ?_ ?_<;>intros | refine hik ?_ | with_reducible first | refine v6l (h1) ?_ | refine vgi (h1) ?_ | refine v6l (h2) ?_ | refine vgi (h2) ?_ | refine v6l (h3) ?_ | refine vgi (h3) ?_ | refine v6l (h4) ?_ | refine vgi (h4) ?_ | refine v6l (h5) ?_ | refine vgi (h5) ?_)<;>refine hgS ?_)
   all_goals first
    | (exfalso;omega)
    | exact wz0
theorem ws1 (a b:Iv) (ha:ivZ a<=67108864) (hb:ivZ b<=67108864):CallsD Γ prog 156 [.agg (ivC a),.agg (ivC b)] (.one (cB (decide (a=b)))):=by
 have h1:=z9e (Γ:=Γ) (some a.lo) (some b.lo) (zlo ha) (zlo hb);have h2:=z9e (Γ:=Γ) (some a.hi) (some b.hi) (zhi ha) (zhi hb)
 have e:decide (a=b)=(decide (some a.lo=some b.lo)&&decide (some a.hi=some b.hi)):=by
  rw [<-Bool.decide_and];exact decide_eq_decide.2 ⟨fun h=>by rw [h];exact ⟨rfl,rfl⟩,fun h=>Iv.ext' (Option.some.inj h.1) (Option.some.inj h.2)⟩
 rw [e];generalize decide (some a.lo=some b.lo)=c at h1;generalize decide (some a.hi=some b.hi)=d at h2;refine CallsD.run [] Go.Proofs.Tryz.func156 rfl rfl rfl ?_;simp only [Go.Proofs.Tryz.f156];refine hgR ?_
 repeat' ((first | refine hfk ?_ ?_<;>intros | refine hik ?_ | with_reducible first | refine v6l (h1) ?_ | refine vgi (h1) ?_ | refine v6l (h2) ?_ | refine vgi (h2) ?_)<;>refine hgS ?_)
 all_goals refine lfE ?_;first | exact trivial | rfl
theorem yxo {p q:Int} (hp:1<=p) (hq:1<=q):0<Rat.divInt p q:=by
 rw [Rat.divInt_eq_div,Rat.div_def];exact Rat.mul_pos (Rat.intCast_pos.2 (by omega)) (Rat.inv_pos.2 (Rat.intCast_pos.2 (by omega)))
theorem x9l {s:ByteArray} {u:Un} (h:symF s=some u):0<u.f:=by
 unfold symF at h
 repeat' first
  | (cases h;exact yxo (by omega) (by omega))
  | (cases hc:seq s _<;>rw [hc] at h<;>simp only [cond_true,cond_false] at h)
 cases h
theorem v4v {s:ByteArray} {u:Un} (h:ykz s=some u):0<u.f:=by
 unfold ykz at h
 cases h1:(symF s).isSome with
 | true=>rw [h1,cond_true] at h;exact x9l h
 | false=>
  rw [h1,cond_false] at h
  cases h2:(!(preF (x41 s 0)).isSome||!(symF (wcu s 1)).isSome||!wem (wcu s 1)) with
  | true=>rw [h2,cond_true] at h;cases h
  | false=>
   rw [h2,cond_false] at h;split at h
   . rename_i p v hp hv
     cases h;obtain ⟨d,e⟩:=zz2 hp;exact Rat.mul_pos (x9l hv) (yxo d.1 e.1)
   . cases h
theorem xff {g:Rat->Rat} (h:∀ x,0<x->0<g x):∀(n:Nat) (a:Rat),0<a->0<iter g n a
 | 0,_,ha=>ha
 | n+1,a,ha=>xff h n (g a) (h a ha)
theorem zzz:∀(l:List It) (u v:Un),wf3 l u=some v->0<u.f->0<v.f
 | [],u,v,h,hu=>by cases h;exact hu
 | x::l,u,v,h,hu=>by
  unfold wf3 at h;split at h
  . cases h
  . rename_i w hw;have hp:=v4v hw;refine zzz l _ v h ?_;show 0<ymb u.f w.f x.e;unfold ymb
    cases decide (0<x.e) with
    | true=>exact xff (fun y hy=>Rat.mul_pos hy hp) _ _ hu
    | false=>exact xff (fun y hy=>by rw [Rat.div_def];exact Rat.mul_pos hy (Rat.inv_pos.2 hp)) _ _ hu
theorem wrr {s : ByteArray} {u : Un} (h : zth s = (some u, 0)) : zmf u.d = true ∧ 0 < u.f := by
 unfold zth at h;split at h
 . cases h
 . split at h
   . cases h
   . rename_i l hl w hw
     cases hd:zmf w.d with
     | false=>rw [hd,cond_false] at h;cases h
     | true=>
      rw [hd,cond_true] at h
      cases h;exact ⟨hd,zzz _ _ _ hw (show (0:Rat)<((1:Int):Rat) by decide)⟩
end Go.Hp.T
