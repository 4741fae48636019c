/- The proof, part Y24: Ne, Nf, 1a. -/
import Derived.Test.YtocdljjhobaabaaGreatDoorY23
namespace Go.Hp.T
open Go Go.RowKit Go.Slot Go.Hp Go.Slot.T
open Go.Proofs.Tryz (prog)
attribute [local irreducible] hide RH
set_option maxRecDepth 10000
set_option maxHeartbeats 4000000
variable {Γ:List (Nat×List Cell)}
theorem cTIn (n:Int):CallsD Γ prog 92 [.one (cI n)] (.one (cB (inT n))):=by
 refine CallsD.run [] Go.Proofs.Tryz.func92 rfl rfl rfl ?_;simp only [Go.Proofs.Tryz.f92];refine hgR ?_
 repeat' ((first | refine hfk ?_ ?_<;>intros | refine hik ?_)<;>refine hgS ?_)
 all_goals refine lf1 @inT.eq_def ?_;first | exact trivial | rfl
theorem z9l (s:ByteArray) (hs:s.size<=1073741824):CallsD Γ prog 34 [.one (cS s)] (.tup [.agg (unX (whw s).1),.one (cI (whw s).2)]):=by
 have:=yhd (Γ:=Γ) s hs
 rw [y4p] at this;exact this
theorem z1v:(vqw prog 9 52=some 6)=True:=eq_true (by kernel_rfl)
theorem vdt:aggT prog 52=true:=by kernel_rfl
theorem yd1:prog.eqGuardType prog.depth 52=false:=by kernel_rfl
theorem w1e (a b c d e f:Int):fitT prog 9 52 [.int .i64 a,.int .i64 b,.int .i64 c,.int .i64 d,.int .i64 e,.int .i64 f]=true:=by kernel_rfl
attribute [go_sem] z1v vdt yd1 w1e
theorem zca (t:Tb) (h1:t.name.size<=1073741824) (h2:t.unit.size<=1073741824) (h3:t.rows.length<=1073741824):CallsD Γ prog 63 [.agg (tbC t)] (.one (cB (xnl (fun s=>(whw s).2) t))):=by
 refine CallsD.run [] Go.Proofs.Tryz.func63 rfl rfl rfl ?_;simp only [Go.Proofs.Tryz.f63];refine hgR ?_
 repeat' ((first | refine hfk ?_ ?_<;>intros | refine hik ?_ | with_reducible first | refine v47 (z9l t.unit h2) ?_ | refine vrf (z9l t.unit h2) ?_ | refine v47 (wam t.name (by omega)) ?_ | refine vrf (wam t.name (by omega)) ?_)<;>refine hgS ?_)
 . refine lf1 @xnl.eq_def ?_;first | exact trivial | rfl
 . refine yxw [1,28,29] (fun i:Nat=>[(30,.one (.dat (cI i)))]) (fun _=>[.box ((tbC t).map .dat) (some 50),.box ((unX (whw t.unit).1).map .dat) (some 89)]) (fun i=>i<=t.rows.length/\∀ j,j<i->rowAt t.rows j=true) (fun i=>t.rows.length-i) 0 ⟨Nat.zero_le _,fun j hj=>by omega⟩ ?_ ?_
   . refine hg ?_;exact StH.same svl rfl
   rintro i ⟨hi,hj⟩
   have hbad:rowAt t.rows i=false->i<t.rows.length->xnl (fun s=>(whw s).2) t=false:=fun h h'=>by
    unfold xnl zoo;rw [v2i h' h,Bool.and_false]
   refine hg ?_
   repeat' ((first | refine hfk ?_ ?_<;>intros | refine hik ?_ | with_reducible first | refine v47 (cTIn _) ?_ | refine vrf (cTIn _) ?_)<;>refine hgS ?_)
   all_goals first
    | (rw [hbad (by (refine bs1 @rowAt.eq_def ?_;try exact trivial)) (by omega)];exact RLe.ofEq rfl)
    | (refine ⟨i+1,⟨by omega,w9q hj (by (refine bs1 @rowAt.eq_def ?_;try exact trivial))⟩,by omega,StH.back [1,28,29,30] 2 2 2 rfl rfl rfl rfl rfl (by kernel_rfl) (StH.same svl rfl)⟩)
    | (refine RLe.ofEq ?_;rw [show xnl (fun s=>(whw s).2) t=true from by unfold xnl zoo;rw [ve5 (fun j hj'=>hj j (by omega))];(refine bsE ?_;try exact trivial)])
 . refine lf1 @xnl.eq_def ?_;first | exact trivial | rfl
 . refine lf1 @xnl.eq_def ?_;first | exact trivial | rfl
attribute [go_sem] kEq0
theorem w0h (a b r:Ty):CallsD Γ prog 95 [.agg (tyC a),.agg (tyC b),.agg (tyC r)] (tyR (wvd a b r)):=by
 refine CallsD.run [] Go.Proofs.Tryz.func95 rfl rfl rfl ?_;simp only [Go.Proofs.Tryz.f95];refine hgR ?_
 repeat' ((first | refine hfk ?_ ?_<;>intros | refine hik ?_)<;>refine hgS ?_)
 all_goals refine lf1 @wvd.eq_def ?_;first | exact trivial | rfl
theorem wns (d:Dm):CallsD Γ prog 93 [.agg (dmC d)] (.agg (tyC ⟨false,d⟩)):=by
 refine CallsD.run [] Go.Proofs.Tryz.func93 rfl rfl rfl ?_;simp only [Go.Proofs.Tryz.f93];refine hgR ?_
 repeat' ((first | refine hfk ?_ ?_<;>intros | refine hik ?_)<;>refine hgS ?_)
 all_goals refine lfE ?_;first | exact trivial | rfl
theorem wec:CallsD Γ prog 96 [] (.agg (tyC ⟨true,Dm.zero⟩)):=by
 refine CallsD.run [] Go.Proofs.Tryz.func96 rfl rfl rfl ?_;simp only [Go.Proofs.Tryz.f96];refine hgR ?_
 repeat' ((first | refine hfk ?_ ?_<;>intros | refine hik ?_)<;>refine hgS ?_)
 all_goals refine lfE ?_;first | exact trivial | rfl
theorem wnh (o:Int) (a b:Ty):CallsD Γ prog 97 [.one (cI o),.agg (tyC a),.agg (tyC b)] (tyR (z3o o a b)):=by
 refine CallsD.run [] Go.Proofs.Tryz.func97 rfl rfl rfl ?_;simp only [Go.Proofs.Tryz.f97];refine hgR ?_
 repeat' ((first | refine hfk ?_ ?_<;>intros | refine hik ?_ | with_reducible first | refine v47 (zp1 a.d b.d) ?_ | refine vrf (zp1 a.d b.d) ?_ | refine v47 (wdc a.d b.d) ?_ | refine vrf (wdc a.d b.d) ?_ | refine v47 (wns _) ?_ | refine vrf (wns _) ?_)<;>refine hgS ?_)
 all_goals refine lf1 @z3o.eq_def ?_;first | exact trivial | rfl
theorem ys0:∀ x:Ex,x.Sm->CallsD Γ prog 35 [.agg (exC x)] (.one (cB x.yp0)):=by
 refine Ex.ind (fun x ih hx=>?_);have hl:=hx.len;have hc:CallsD Γ prog 40 [.one (.sl 5 (x.args.map Ex.cells)),fN 35] (.one (cB (x.args.any Ex.yp0))):=yaw x.args _ _ hl (fun y hy=>ih y hy (hx.arg y hy));refine CallsD.run [] Go.Proofs.Tryz.func35 rfl rfl rfl ?_;simp only [Go.Proofs.Tryz.f35];refine hgR ?_
 repeat' ((first | refine hfk ?_ ?_<;>intros | refine hik ?_ | with_reducible first | refine v47 (hc) ?_ | refine vrf (hc) ?_)<;>refine hgS ?_)
 all_goals refine RLe.ofEq ?_
 all_goals rw [Ex.ze7]
 all_goals (refine bsE ?_;try exact trivial)
theorem x21 (l:List Ty) (f:FuncId) (p:Ty->Bool) (hl:l.length<=1073741824) (h:∀ y∈l,CallsD Γ prog f [.agg (tyC y)] (.one (cB (p y)))) :
 CallsD Γ prog 146 [.one (.sl 7 (l.map Ty.C)),fN f] (.one (cI (idxF p l))):=by
 refine CallsD.run [] Go.Proofs.Tryz.func146 rfl rfl rfl ?_;simp only [Go.Proofs.Tryz.f146];refine hgR ?_;refine yxw [0,1,7] (fun i:Nat=>[(8,.one (.dat (cI i)))]) (fun _=>[]) (fun i=>i<=l.length/\∀ j,j<i->p (l.getD j default)=false) (fun i=>l.length-i) 0 ⟨Nat.zero_le _,fun j hj=>by omega⟩ ?_ ?_
 . refine hg ?_;exact StH.same svl rfl
 intro i hi;obtain ⟨hi,hj⟩:=hi;refine hg ?_
 repeat' ((first | refine hfk ?_ ?_<;>intros | refine hik ?_ | with_reducible first | refine v47 (h _ (xdq (show i<l.length by omega))) ?_ | refine vrf (h _ (xdq (show i<l.length by omega))) ?_)<;>refine hgS ?_)
 . rename_i hp;rw [(xjj hi hj).2 (by omega) hp];exact RLe.ofEq rfl
 . rename_i hp;exact ⟨i+1,⟨by omega,w9q hj hp⟩,by omega,StH.same svl rfl⟩
 . rw [(xjj hi hj).1 (by omega)];exact RLe.ofEq rfl
theorem wd7 (l:List Ty) (f:FuncId) (p:Ty->Bool) (hl:l.length<=1073741824) (h:∀ y∈l,CallsD Γ prog f [.agg (tyC y)] (.one (cB (p y)))) :
 CallsD Γ prog 116 [.one (.sl 7 (l.map Ty.C)),fN f] (.one (cB (l.any p))):=by
 refine CallsD.run [] Go.Proofs.Tryz.func116 rfl rfl rfl ?_;simp only [Go.Proofs.Tryz.f116];refine hgR ?_
 repeat' ((first | refine hfk ?_ ?_<;>intros | refine hik ?_ | with_reducible first | refine v47 (x21 l f p hl h) ?_ | refine vrf (x21 l f p hl h) ?_)<;>refine hgS ?_)
 exact RLe.ofEq (by rw [<-z1b])
theorem ye7 (t:Ty):CallsD Γ prog 117 [.agg (tyC t)] (.one (cB (!t.t))):=by
 refine CallsD.run [] Go.Proofs.Tryz.func117 rfl rfl rfl ?_;simp only [Go.Proofs.Tryz.f117];refine hgR ?_
 repeat' ((first | refine hfk ?_ ?_<;>intros | refine hik ?_)<;>refine hgS ?_)
 all_goals refine lfE ?_;first | exact trivial | rfl
theorem vwx (l:List Ty) (hl:l.length<=1073741824):CallsD Γ prog 98 [.one (.sl 7 (l.map Ty.C))] (tyR (yx1 l)):=by
 have hc:CallsD Γ prog 116 [.one (.sl 7 (l.map Ty.C)),fN 117] (.one (cB (l.any (fun t=>!t.t)))):=wd7 l _ _ hl (fun y _=>ye7 y);refine CallsD.run [] Go.Proofs.Tryz.func98 rfl rfl rfl ?_;simp only [Go.Proofs.Tryz.f98];refine hgR ?_
 repeat' ((first | refine hfk ?_ ?_<;>intros | refine hik ?_ | with_reducible first | refine v47 (hc) ?_ | refine vrf (hc) ?_ | refine v47 (wec) ?_ | refine vrf (wec) ?_)<;>refine hgS ?_)
 all_goals refine lf1 @yx1.eq_def ?_;first | exact trivial | rfl
abbrev mE (l:List (ByteArray×Dm)):SB:=.map (envE l)
theorem x6e {x:Dm}:(decide (x.a=0)&&(decide (x.b=0)&&(decide (x.c=0)&&(decide (x.d=0)&&(decide (x.e=0)&&decide (x.f=0))))))=decide (x=Dm.zero):=zlb (y:=Dm.zero)
attribute [go_sem] x6e
theorem wzo (V T:List (ByteArray×Dm)) (s:ByteArray) (k:Ty):xgj Γ prog 94 [mE V,mE T] [.agg [.mp 0,.mp 1],.one (.dat (cS s)),.agg ((tyC k).map .dat)] [mE V,mE T] (tyS (xti T s k)):=by
 cases h:vkc T s with
 | none=>
  refine xgj.run [] Go.Proofs.Tryz.func94 rfl rfl ?_;simp only [Go.Proofs.Tryz.f94];refine hgR ?_;refine hg1 @h ?_
  repeat' ((first | refine hfk ?_ ?_<;>intros | refine hik ?_)<;>refine hgS ?_)
  exact StH.yri rfl (by kernel_rfl) (by simp only [xti,h];rfl)
 | some d=>
  refine xgj.run [] Go.Proofs.Tryz.func94 rfl rfl ?_;simp only [Go.Proofs.Tryz.f94];refine hgR ?_;refine hg1 @h ?_
  repeat' ((first | refine hfk ?_ ?_<;>intros | refine hik ?_ | with_reducible first | refine v47 (wns d) ?_ | refine vrf (wns d) ?_)<;>refine hgS ?_)
  all_goals exact StH.yri rfl (by kernel_rfl) (by ((refine bs2 @xti.eq_def @h ?_;try exact trivial))<;>first | rfl | trivial)
def xaq (V:List (ByteArray×Dm)) (x:Ex):Ty×Int:=bif decide (x.op=1) then (match vkc V x.name with
 | none=>(Ty.zero,11)
 | some d=>(⟨false,d⟩,0)) else
 bif decide (¬(whw x.unit).2=0) then (Ty.zero,14) else (⟨false,dmO (whw x.unit).1⟩,0)
theorem vpk (V T:List (ByteArray×Dm)) (x:Ex) (hx:x.Sm):xgj Γ prog 64 [mE V,mE T] [.agg [.mp 0,.mp 1],.agg ((exC x).map .dat)] [mE V,mE T] (tyS (xaq V x)):=by
 have hu:=hx.u
 cases h:vkc V x.name with
 | none=>
  refine xgj.run [] Go.Proofs.Tryz.func64 rfl rfl ?_;simp only [Go.Proofs.Tryz.f64];refine hgR ?_
  repeat' ((first | refine hfk ?_ ?_<;>intros | refine hik ?_ | with_reducible first | refine v47 (z9l x.unit hu) ?_ | refine vrf (z9l x.unit hu) ?_ | refine v47 (wns _) ?_ | refine vrf (wns _) ?_)<;>refine hgS ?_)
  all_goals try refine hg1 @h ?_
  all_goals try repeat' ((first | refine hfk ?_ ?_<;>intros | refine hik ?_ | with_reducible first | refine v47 (z9l x.unit hu) ?_ | refine vrf (z9l x.unit hu) ?_ | refine v47 (wns _) ?_ | refine vrf (wns _) ?_)<;>refine hgS ?_)
  all_goals exact StH.yri rfl (by kernel_rfl) (by ((refine bs2 @xaq.eq_def @h ?_;try exact trivial))<;>first | rfl | trivial)
 | some d=>
  refine xgj.run [] Go.Proofs.Tryz.func64 rfl rfl ?_;simp only [Go.Proofs.Tryz.f64];refine hgR ?_
  repeat' ((first | refine hfk ?_ ?_<;>intros | refine hik ?_ | with_reducible first | refine v47 (z9l x.unit hu) ?_ | refine vrf (z9l x.unit hu) ?_ | refine v47 (wns _) ?_ | refine vrf (wns _) ?_)<;>refine hgS ?_)
  all_goals try refine hg1 @h ?_
  all_goals try repeat' ((first | refine hfk ?_ ?_<;>intros | refine hik ?_ | with_reducible first | refine v47 (z9l x.unit hu) ?_ | refine vrf (z9l x.unit hu) ?_ | refine v47 (wns _) ?_ | refine vrf (wns _) ?_)<;>refine hgS ?_)
  all_goals exact StH.yri rfl (by kernel_rfl) (by ((refine bs2 @xaq.eq_def @h ?_;try exact trivial))<;>first | rfl | trivial)
theorem z3s (V T:List (ByteArray×Dm)) (x:Ex) (ts:List Ty) (hl:ts.length<=1073741824) (h1:1<=ts.length) (h2:x.op≠2->x.op≠4->2<=ts.length) (h3:x.op=5->3<=ts.length) :
 xgj Γ prog 65 [mE V,mE T] [.agg [.mp 0,.mp 1],.agg ((exC x).map .dat),.one (.dat (.sl 7 (ts.map Ty.C)))] [mE V,mE T] (tyS (zqp T x.op x.name ts)):=by
 refine xgj.run [] Go.Proofs.Tryz.func65 rfl rfl ?_;simp only [Go.Proofs.Tryz.f65];refine hgR ?_
 repeat' ((first | refine hfk ?_ ?_<;>intros | refine hik ?_ | with_reducible first | refine v47 (w0h (ts.getD 0 default) (ts.getD 1 default) ⟨true,Dm.zero⟩) ?_ | refine vrf (w0h (ts.getD 0 default) (ts.getD 1 default) ⟨true,Dm.zero⟩) ?_ | refine v47 (w0h _ _ _) ?_ | refine vrf (w0h _ _ _) ?_ | refine v47 (wnh _ _ _) ?_ | refine vrf (wnh _ _ _) ?_ | refine v47 (vwx ts hl) ?_ | refine vrf (vwx ts hl) ?_ | refine v47 (wec) ?_ | refine vrf (wec) ?_)<;>refine hgS ?_)
 . refine yjt [] (xgj.pre (wzo V T x.name (ts.getD 0 default)) (xyn V T) rfl rfl) ?_;refine hg ?_
   repeat' ((first | refine hfk ?_ ?_<;>intros | refine hik ?_)<;>refine hgS ?_)
   exact StH.yri rfl (by kernel_rfl) (by ((refine bs1 @zqp.eq_def ?_;try exact trivial))<;>first | rfl | trivial)
 all_goals exact StH.yri rfl (by kernel_rfl) (by ((refine bs1 @zqp.eq_def ?_;try exact trivial))<;>first | rfl | trivial)
mutual
def Ex.ty (V T:List (ByteArray×Dm)):Ex->Ty×Int
 | .mk o n u s l=>bif decide ((l.length:Int)=0) then xaq V (.mk o n u s l) else
  match Ex.tyL V T l with
  | .inl e=>(Ty.zero,e)
  | .inr ts=>zqp T o s ts
def Ex.tyL (V T:List (ByteArray×Dm)):List Ex->Int ⊕ List Ty
 | []=>.inr []
 | y::l=>match Ex.ty V T y with
  | (t,e)=>bif decide (¬e=0) then .inl e else match Ex.tyL V T l with
   | .inl e=>.inl e
   | .inr ts=>.inr (t::ts)
end
theorem Ex.yyn (V T:List (ByteArray×Dm)) (x:Ex):x.ty V T=bif decide ((x.args.length:Int)=0) then xaq V x else
 match Ex.tyL V T x.args with
 | .inl e=>(Ty.zero,e)
 | .inr ts=>zqp T x.op x.name ts:=by cases x;rw [Ex.ty];rfl
theorem cOf (V T:List (ByteArray×Dm)):∀ x:Ex,x.Sm->x.shaped=true->x.yp0=false->xgj Γ prog 37 [mE V,mE T] [.agg [.mp 0,.mp 1],.agg ((exC x).map .dat)] [mE V,mE T] (tyS (x.ty V T)):=by
 refine Ex.ind (fun x ih hx hsh hcl=>?_);have hl:=hx.len;refine xgj.run [] Go.Proofs.Tryz.func37 rfl rfl ?_;simp only [Go.Proofs.Tryz.f37];refine hgR ?_
 repeat' ((first | refine hfk ?_ ?_<;>intros | refine hik ?_)<;>refine hgS ?_)
 . refine wq6 (xgj.pre (vpk V T x hx) (xyn V T) rfl rfl) ?_;refine hg ?_;rename_i h;exact StH.yri rfl (by kernel_rfl) (by rw [Ex.yyn,h];rfl)
 . rename_i h0 hd0
   have hne:x.args.length≠0:=by omega
   have hnode:w7g x=true:=by rw [Ex.vjs,Bool.and_eq_true] at hsh;exact hsh.1
   have hargs:∀ y∈x.args,y.shaped=true:=by rw [Ex.vjs,Bool.and_eq_true,List.all_eq_true] at hsh;exact hsh.2
   have hcalls:x.op≠3/\∀ y∈x.args,y.yp0=false:=by
    rw [Ex.ze7,Bool.or_eq_false_iff,decide_eq_false_iff_not,List.any_eq_false] at hcl;exact ⟨hcl.1,fun y hy=>by simpa using hcl.2 y hy⟩
   obtain ⟨hl2,hl3⟩:=vzh hnode hcalls.1 hne
   have hty:x.ty V T=match Ex.tyL V T x.args with
    | .inl e=>(Ty.zero,e)
    | .inr ts=>zqp T x.op x.name ts:=by rw [Ex.yyn,hd0,cond_false]
   refine yxw [2,3,4,21,22] (fun p:Nat×List Ty=>[(6,.one (.sl 5 7 0 p.2.length)),(23,.one (.dat (cI p.1)))])
    (fun p=>[mE V,mE T,.box [.mp 0,.mp 1] (some 96),.box ((exC x).map .dat) (some 25),.box ((tyC Ty.zero).map .dat) (some 54),.arr (.sl 7 (p.2.map Ty.C)) 0 (some 54)])
    (fun p=>p.1<=x.args.length/\p.2.length=p.1/\Ex.tyL V T x.args=match Ex.tyL V T (x.args.drop p.1) with
      | .inl e=>.inl e
      | .inr r=>.inr (p.2++r)) (fun p=>x.args.length-p.1) (0,[]) ⟨Nat.zero_le _,rfl,by simp only [List.drop_zero,List.nil_append];split<;>simp only [*]⟩ ?_ ?_
   . refine hg ?_;refine StH.trans (StH.empty (d:=6) (es:=7) (c:=.sl 7 []) (T:=some 54) rfl rfl (fun r hr=>by cases hr) rfl) ?_;refine hg ?_;exact StH.same svl rfl
   rintro ⟨i,ts⟩ ⟨h1,h2,h3⟩;simp only at h1 h2 h3;refine hg ?_;refine xw4 (fun hlt _=>?_) (fun hlt _=>?_)
   . have hlt':i<x.args.length:=by omega
     have hy:=xdq hlt';rw [wde hlt',Ex.tyL] at h3;refine hg ?_;refine wq6 (xgj.pre (ih _ hy (hx.arg _ hy) (hargs _ hy) (hcalls.2 _ hy)) (xyn V T) rfl rfl) ?_;generalize hr:Ex.ty V T (x.args.getD i default)=r at h3 ⊢;obtain ⟨t,e⟩:=r;simp only at h3;refine hg ?_;refine xw4 (fun he hd=>?_) (fun he hd=>?_)
     . refine hg ?_
       have h3':Ex.tyL V T x.args=.inl e:=by rw [h3,show decide (¬e=0)=true from hd];rfl
       exact StH.yri rfl (by kernel_rfl) (by rw [hty,h3'];rfl)
     . refine hg ?_;rw [show decide (¬e=0)=false from hd,cond_false] at h3
       have h3':Ex.tyL V T x.args=match Ex.tyL V T (x.args.drop (i+1)) with
        | .inl e=>.inl e
        | .inr r=>.inr ((ts++[t])++r):=by
        rw [h3]
        cases Ex.tyL V T (x.args.drop (i+1)) with
        | inl e=>rfl
        | inr r=>simp only [List.append_assoc,List.singleton_append]
       have hmap:ts.map Ty.C++[tyC t]=(ts++[t]).map Ty.C:=by simp;rfl
       rw [hmap];refine ⟨(i+1,ts++[t]),⟨by dsimp only;omega,by dsimp only;rw [List.length_append,List.length_singleton,h2],h3'⟩,by dsimp only;omega,?_⟩;refine StH.x85 [2,3,4,6,21,22,23] 5 8 6 rfl rfl rfl rfl rfl rfl rfl (by kernel_rfl) ?_;refine hg ?_;exact StH.same svl rfl
   . have h3':Ex.tyL V T x.args=.inr ts:=by rw [h3,List.drop_eq_nil_of_le (by omega),Ex.tyL];simp only [List.append_nil]
     refine hg ?_;refine y1b (z3s V T x ts (by omega) (by omega) (fun a b=>by have:=hl2 a b;omega) (fun a=>by have:=hl3 a;omega)) (ξ:=[.box [.mp 0,.mp 1] (some 96),.box ((exC x).map .dat) (some 25),.box ((tyC Ty.zero).map .dat) (some 54),.arr (.sl 7 (ts.map Ty.C)) (ts.length*7) (some 54)]) (xyn V T) ?_ ?_ rfl rfl ?_
     . refine hg2 @dzL.eq_def @dzS.eq_def ?_;exact trivial
     . refine hg2 @dzB.eq_def @dzS.eq_def ?_;exact trivial
     . refine hg ?_;exact StH.yri rfl (by kernel_rfl) (by rw [hty,h3'];rfl)
end Go.Hp.T
namespace Go.Hp
open Go Go.RowKit Go.Slot
variable {P:Program} {Γ:List (Nat×List Cell)} {e:List SB}
theorem xgj.ro (φ:List Nat) {f:FuncId} {η ηs:List SB} {args:List SV} {res:SV} (h:xgj Γ P f ηs args ηs res) (hs:∀ r,ηs.map (rnSB r)=ηs) (hn:φ.Nodup) (hb:(φ.all fun j=>Nat.blt j η.length)=true) (hp:φ.map (fun j=>η[j]?)=ηs.map some) :
 xgj Γ P f η (args.map (x09 (atR φ η.length))) η (rnSV (atR φ η.length) res):=by
 have hfix:∀(r:Nat->Nat) (x:SB),x∈ηs->rnSB r x=x:=fun r x hx=>by
  obtain ⟨i,hi,rfl⟩:=List.getElem_of_mem hx
  have:=congrArg (fun l=>l[i]?) (hs r)
  simp only [List.getElem?_map,List.getElem?_eq_getElem hi,Option.map_some] at this;exact Option.some.inj this
 have hb':∀ j∈φ,j<η.length:=fun j hj=>by simpa using List.all_eq_true.1 hb j hj
 have hp':φ.map (fun j=>η[j]?)=ηs.map (fun x=>some (rnSB (atR φ η.length) x)):=by
  rw [hp];exact List.map_congr_left (fun x hx=>by rw [hfix _ x hx])
 have hk:=w6y.of hp';have hc:=xgj.frame hn hb' hk (by rw [hk.1];exact Nat.le_refl _) h
 have hput:putR φ η ηs=η:=by
  apply List.ext_getElem?;intro i;by_cases hi2:i<η.length
  . by_cases hi:i∈φ
    . obtain ⟨k,hk2,rfl⟩:=List.getElem_of_mem hi
      have hkl:k<ηs.length:=by rw [hk.1];exact hk2
      have h1:=xjo (ηs':=ηs) hn hb' (List.getElem?_eq_getElem hkl);rw [xbc (List.getElem?_eq_getElem hk2),hfix _ _ (List.getElem_mem hkl)] at h1;rw [h1];have h2:=congrArg (fun l=>l[k]?) hp;simp only [List.getElem?_map,List.getElem?_eq_getElem hk2,List.getElem?_eq_getElem hkl,Option.map_some] at h2;exact (Option.some.inj h2).symm
    . exact ygg hi2 hi
  . rw [List.getElem?_eq_none (by rw [xdx,hk.1];omega),List.getElem?_eq_none (by omega)]
 rw [hput] at hc;exact hc
theorem StH.tup1 {l l':List SV} {η:List SB} (h:xll l l'):StH Γ e [.tup l] η [.tup l'] η:=fun E ρ a w hE hR=>⟨ρ,hR.hd,hR.hs,fun i x hi=>by
 cases i with
 | zero=>
  simp only [List.getElem?_cons_zero,Option.some.injEq] at hi;subst hi;obtain ⟨vs,hv,hr⟩:=hR.slot 0 (.tup l) rfl;exact ⟨vs,hv,SRL.le h hr⟩
 | succ i=>simp at hi,hR.went⟩
theorem wh6 {a b:Nat}:Nat.blt a b=decide (a<b):=by
 by_cases h:a<b
 . rw [decide_eq_true h];simpa using h
 . rw [decide_eq_false h]
   cases hh:Nat.blt a b with
   | false=>rfl
   | true=>exact absurd (by simpa using hh) h
end Go.Hp
namespace Go.Hp.T
open Go Go.RowKit Go.Slot Go.Hp Go.Slot.T
open Go.Proofs.Tryz (prog)
attribute [local irreducible] hide RH
set_option maxRecDepth 10000
set_option maxHeartbeats 4000000
variable {Γ:List (Nat×List Cell)}
theorem xfg (l:List (ByteArray×Dm)):wnr (.map (envE l))=[]:=by
 show (envE l).flatMap (fun p=>xx4 p.2)=[]
 induction l with
 | nil=>rfl
 | cons p l ih=>show xx4 _++(envE l).flatMap _=[];rw [ih];rfl
theorem zb4 (i j:Nat) (l:List (ByteArray×Dm)):swSB i j (.map (envE l))=.map (envE l):=by
 have:(envE l).map (fun p=>(p.1,z0j i j p.2))=envE l:=by
  induction l with
  | nil=>rfl
  | cons p l ih=>show _::(envE l).map _=_;rw [ih];rfl
 show SB.map _=_;rw [this]
theorem zh9 {η:List SB} {h1 h2:HC}:StH Γ [] [SV.tup [.agg [h1,h2],.one (.dat (cB false))]] η [SV.tup [.agg [.any,.any],.one (.dat (cB false))]] []:=
 StH.trans (StH.tup1 (l':=[.agg [.any,.any],.one (.dat (cB false))]) (.cons (.agg (.cons (.any _) (.cons (.any _) .nil))) (.cons (.refl _) .nil))) (by
  have:=StH.cutB (Γ:=Γ) (e:=[]) (σ:=[SV.tup [.agg [.any,.any],.one (.dat (cB false))]]) (η:=η) 0 (Nat.le_refl _) (by unfold vxf;rfl)
  exact this)
theorem x1x (l:List HC) (T:Option TypeId):wnr (.box l T)=l.flatMap y23:=rfl
theorem w3u (c:Cell) (k:Nat) (T:Option TypeId):wnr (.arr c k T)=[]:=rfl
theorem wm5:wnr .dead=[]:=rfl
attribute [go_sem] vxf xx4 y23 xfg x1x w3u wm5 wh6 List.flatMap_cons List.flatMap_nil List.all_append
attribute [go_sem 20000] zb4 v18
def rV (V:List (ByteArray×Dm)):List Vr->Option (List (ByteArray×Dm))
 | []=>some V
 | v::l=>bif !isName v.name||isWord v.name||!vk8 v.d then none else rV (updF V v.name v.d) l
def rT (V T:List (ByteArray×Dm)):List Tb->Option (List (ByteArray×Dm))
 | []=>some T
 | t::l=>bif (vkc V t.name).isSome||decide (¬(whw t.unit).2=0)||!xnl (fun s=>(whw s).2) t||isWord t.name then none else rT V (updF T t.name (dmO (whw t.unit).1)) l
def yz2 (vs:List Vr) (ms:List Tb):Option (List (ByteArray×Dm)×List (ByteArray×Dm)):=match rV [] vs with
 | none=>none
 | some V=>match rT V [] ms with
  | none=>none
  | some T=>bif decide ((V.length:Int)=vs.length)&&decide ((T.length:Int)=ms.length) then some (V,T) else none
def zh4:Option (List (ByteArray×Dm)×List (ByteArray×Dm))->List SB
 | none=>[]
 | some p=>[mE p.1,mE p.2]
def wqu:Option (List (ByteArray×Dm)×List (ByteArray×Dm))->SV
 | none=>.tup [.agg [.any,.any],.one (.dat (cB false))]
 | some _=>.tup [.agg [.mp 0,.mp 1],.one (.dat (cB true))]
theorem w1n (V T:List (ByteArray×Dm)) (a d:SB) (b:Bool):StH Γ [] [SV.tup [.agg [.mp 1,.mp 2],.one (.dat (cB b))]] [a,mE V,mE T,d] [SV.tup [.agg [.mp 0,.mp 1],.one (.dat (cB b))]] [mE V,mE T]:=by
 have e1:swL 0 1 [a,mE V,mE T,d]=[mE V,swSB 0 1 a,mE T,swSB 0 1 d]:=by
  show [swSB 0 1 (mE V),swSB 0 1 a,swSB 0 1 (mE T),swSB 0 1 d]=_;rw [zb4,zb4]
 have e2:swL 1 2 [mE V,swSB 0 1 a,mE T,swSB 0 1 d]=[mE V,mE T,swSB 1 2 (swSB 0 1 a),swSB 1 2 (swSB 0 1 d)]:=by
  show [swSB 1 2 (mE V),swSB 1 2 (mE T),swSB 1 2 (swSB 0 1 a),swSB 1 2 (swSB 0 1 d)]=_;rw [zb4,zb4]
 have h1:=StH.v2m (Γ:=Γ) (e:=[]) (σ:=[SV.tup [.agg [.mp 1,.mp 2],.one (.dat (cB b))]]) (η:=[a,mE V,mE T,d]) (i:=0) (j:=1) (by decide) (by decide) (by simp) (by simp);have h2:=StH.v2m (Γ:=Γ) (e:=[]) (σ:=[SV.tup [.agg [.mp 0,.mp 2],.one (.dat (cB b))]]) (η:=[mE V,swSB 0 1 a,mE T,swSB 0 1 d]) (i:=1) (j:=2) (by decide) (by decide) (by simp) (by simp)
 have h3:=StH.cutB (Γ:=Γ) (e:=[]) (σ:=[SV.tup [.agg [.mp 0,.mp 1],.one (.dat (cB b))]]) (η:=[mE V,mE T,swSB 1 2 (swSB 0 1 a),swSB 1 2 (swSB 0 1 d)]) 2 (by decide) (by
  unfold vxf;show (_&&([mE V,mE T].all fun x=>(wnr x).all fun b=>Nat.blt b 2))=true
  simp only [List.all_cons,xfg,List.all_nil];rfl)
 rw [e1] at h1;rw [e2] at h2;exact h1.trans (h2.trans h3)
structure Tb.Sm (t:Tb):Prop where
 n:t.name.size<=1073741824
 u:t.unit.size<=1073741824
 r:t.rows.length<=1073741824
theorem zfu (vs:List Vr) (ms:List Tb) (hv:vs.length<=1073741824) (hm:ms.length<=1073741824) (hvn:∀ v∈vs,v.name.size<=1073741824) (hms:∀ t∈ms,t.Sm) :
 xgj Γ prog 36 [] [.one (.dat (.sl 7 (vs.map Vr.C))),.one (.dat (.sl 3 (ms.map Tb.C)))] (zh4 (yz2 vs ms)) (wqu (yz2 vs ms)):=by
 refine xgj.run [] Go.Proofs.Tryz.func36 rfl rfl ?_;simp only [Go.Proofs.Tryz.f36];refine hgR ?_;refine yxw [0,1,4,6,18,19] (fun p:Nat×List (ByteArray×Dm)=>[(20,.one (.dat (cI p.1)))]) (fun p=>[.box [.dat (.raw (.map none)),.dat (.raw (.map none))] (some 96),mE p.2,mE [],.box [.mp 1,.mp 2] (some 96)])
  (fun p=>p.1<=vs.length/\rV [] vs=rV p.2 (vs.drop p.1)) (fun p=>vs.length-p.1) (0,[]) ⟨Nat.zero_le _,rfl⟩ ?_ ?_
 . refine hg ?_;exact StH.same svl rfl
 rintro ⟨i,V⟩ ⟨h1,h2⟩;simp only at h1 h2;refine hg ?_;refine xw4 (fun hlt _=>?_) (fun hlt _=>?_)
 . have hlt' : i < vs.length := by omega
   have hy:=hvn _ (xdq hlt');rw [wde hlt',rV] at h2;refine hg ?_
   have bad:rV [] vs=none->yz2 vs ms=none:=fun h=>by unfold yz2;rw [h]
   repeat' ((first | refine hfk ?_ ?_<;>intros | refine hik ?_ | with_reducible first | refine v47 (wam _ (by omega)) ?_ | refine vrf (wam _ (by omega)) ?_ | refine v47 (xvd _) ?_ | refine vrf (xvd _) ?_ | refine v47 (yu2 _) ?_ | refine vrf (yu2 _) ?_)<;>refine hgS ?_)
   all_goals first
    | (rw [bad (by rw [h2];(refine bsE ?_;try exact trivial))];exact zh9)
    | (refine ⟨(i+1,updF V (vs.getD i default).name (vs.getD i default).d),⟨by dsimp only;omega,rfl⟩,by dsimp only;omega,?_⟩
       refine StH.cutN [0,1,4,6,18,19,20] 4 rfl ?_ ?_
       . refine hg ?_;exact trivial
       exact StH.same svl rfl)
 . have hV:rV [] vs=some V:=by rw [h2,List.drop_eq_nil_of_le (by omega)];rfl
   clear h2 h1 hlt
   have bad:rT V [] ms=none->yz2 vs ms=none:=fun h=>by unfold yz2;rw [hV];simp only [h]
   refine hg ?_;refine yxw [0,1,4,6,47,48] (fun p:Nat×List (ByteArray×Dm)=>[(49,.one (.dat (cI p.1)))]) (fun p=>[.box [.dat (.raw (.map none)),.dat (.raw (.map none))] (some 96),mE V,mE p.2,.box [.mp 1,.mp 2] (some 96)])
    (fun p=>p.1<=ms.length/\rT V [] ms=rT V p.2 (ms.drop p.1)) (fun p=>ms.length-p.1) (0,[]) ⟨Nat.zero_le _,rfl⟩ ?_ ?_
   . refine hg ?_;exact StH.same svl rfl
   rintro ⟨j,T⟩ ⟨h1,h2⟩;simp only at h1 h2;refine hg ?_;refine xw4 (fun hlt _=>?_) (fun hlt _=>?_)
   . have hlt':j<ms.length:=by omega
     have hy:=hms _ (xdq hlt');rw [wde hlt',rT] at h2;refine hg ?_;refine v47 (z9l _ hy.u) ?_
     cases hl:vkc V (ms.getD j default).name with
     | none =>
      rw [hl] at h2;refine hg1 @hl ?_
      repeat' ((first | refine hfk ?_ ?_<;>intros | refine hik ?_ | with_reducible first | refine v47 (zca _ hy.n hy.u hy.r) ?_ | refine vrf (zca _ hy.n hy.u hy.r) ?_ | refine v47 (xvd _) ?_ | refine vrf (xvd _) ?_)<;>refine hgS ?_)
      all_goals first
       | (rw [bad (by rw [h2];((conv=>simp only [Bool.and_true,Bool.true_and,Bool.and_false,Bool.false_and,Bool.or_true,Bool.true_or,Bool.or_false,Bool.false_or,Bool.not_true,Bool.not_false,decide_true,decide_false,not_true_eq_false,not_false_eq_true,ztq,if_true,if_false,Bool.and_self,Bool.or_self,cond_true,cond_false,List.length_map,ne_eq,Int.reduceEq,Int.reduceLT,Int.reduceLE, *,Option.isSome])<;>try exact trivial))];exact zh9)
       | (refine ⟨(j+1,updF T (ms.getD j default).name (dmO (whw (ms.getD j default).unit).1)),⟨by dsimp only;omega,by (try rw [h2]);((conv=>simp only [Bool.and_true,Bool.true_and,Bool.and_false,Bool.false_and,Bool.or_true,Bool.true_or,Bool.or_false,Bool.false_or,Bool.not_true,Bool.not_false,decide_true,decide_false,not_true_eq_false,not_false_eq_true,ztq,if_true,if_false,Bool.and_self,Bool.or_self,cond_true,cond_false,List.length_map,ne_eq,Int.reduceEq,Int.reduceLT,Int.reduceLE, *,Option.isSome])<;>try exact trivial)⟩,by dsimp only;omega,?_⟩
          refine StH.cutN [0,1,4,6,47,48,49] 4 rfl ?_ ?_
          . refine hg ?_;exact trivial
          exact StH.same svl rfl)
     | some d=>
      rw [hl] at h2;refine hg1 @hl ?_
      repeat' ((first | refine hfk ?_ ?_<;>intros | refine hik ?_ | with_reducible first | refine v47 (zca _ hy.n hy.u hy.r) ?_ | refine vrf (zca _ hy.n hy.u hy.r) ?_ | refine v47 (xvd _) ?_ | refine vrf (xvd _) ?_)<;>refine hgS ?_)
      all_goals
       rw [bad (by rw [h2];((conv=>simp only [Bool.and_true,Bool.true_and,Bool.and_false,Bool.false_and,Bool.or_true,Bool.true_or,Bool.or_false,Bool.false_or,Bool.not_true,Bool.not_false,decide_true,decide_false,not_true_eq_false,not_false_eq_true,ztq,if_true,if_false,Bool.and_self,Bool.or_self,cond_true,cond_false,List.length_map,ne_eq,Int.reduceEq,Int.reduceLT,Int.reduceLE, *,Option.isSome])<;>try exact trivial))];exact zh9
   . have hT:rT V [] ms=some T:=by rw [h2,List.drop_eq_nil_of_le (by omega)];rfl
     clear h2 h1 hlt bad;refine hg ?_
     repeat' ((first | refine hfk ?_ ?_<;>intros | refine hik ?_)<;>refine hgS ?_)
     . rename_i hlv hld;by_cases hlt:(T.length:Int)=ms.length
       . have e:yz2 vs ms=some (V,T):=by unfold yz2;rw [hV];simp only [hT];rw [decide_eq_true hlt,hld];rfl
         rw [e,decide_eq_true hlt];exact w1n V T _ _ true
       . have e:yz2 vs ms=none:=by unfold yz2;rw [hV];simp only [hT];rw [decide_eq_false hlt,Bool.and_false];rfl
         rw [e,decide_eq_false hlt];exact zh9
     . rename_i hlv hld
       have e:yz2 vs ms=none:=by unfold yz2;rw [hV];simp only [hT];rw [hld];rfl
       rw [e];exact zh9
def ofF (x:Ex) (vs:List Vr) (ms:List Tb):Ty×Int:=bif !z7n x||x.yp0 then (Ty.zero,2) else match yz2 vs ms with
 | none=>(Ty.zero,1)
 | some p=>x.ty p.1 p.2
theorem w0i (x:Ex) (vs:List Vr) (ms:List Tb) (hx:x.Sm) (hv:vs.length<=1073741824) (hm:ms.length<=1073741824) (hvn:∀ v∈vs,v.name.size<=1073741824) (hms:∀ t∈ms,t.Sm) :
 CallsD Γ prog 19 [.agg (exC x),.one (.sl 7 (vs.map Vr.C)),.one (.sl 3 (ms.map Tb.C))] (tyR (ofF x vs ms)):=by
 have hr:=zfu (Γ:=Γ) vs ms hv hm hvn hms;refine CallsD.run [] Go.Proofs.Tryz.func19 rfl rfl rfl ?_;simp only [Go.Proofs.Tryz.f19];refine hgR ?_
 repeat' ((first | refine hfk ?_ ?_<;>intros | refine hik ?_ | with_reducible first | refine v47 (x22 x hx) ?_ | refine vrf (x22 x hx) ?_ | refine v47 (ys0 x hx) ?_ | refine vrf (ys0 x hx) ?_)<;>refine hgS ?_)
 . refine lf1 @ofF.eq_def ?_;first | exact trivial | rfl
 . rename_i hr1 hc1
   have hsh:x.shaped=true:=by unfold z7n at hr1;rw [Bool.and_eq_true] at hr1;exact hr1.2
   cases hrd:yz2 vs ms with
   | none=>
    rw [hrd] at hr
    have hr2:∀ a b:SB,xgj Γ prog 36 [a,b] [.one (.dat (.sl 7 (vs.map Vr.C))),.one (.dat (.sl 3 (ms.map Tb.C)))] [a,b] (.tup [.agg [.any,.any],.one (.dat (cB false))]):=fun a b=>xgj.at [] (η:=[a,b]) hr (by decide) rfl rfl rfl
    refine za2 (hr2 _ _) rfl ?_;refine hg ?_
    repeat' ((first | refine hfk ?_ ?_<;>intros | refine hik ?_)<;>refine hgS ?_)
    exact RLe.ofEq (by simp only [ofF,hr1,hc1,hrd];rfl)
   | some p=>
    obtain ⟨V,T⟩:=p;rw [hrd] at hr
    have hr2:∀ a b:SB,xgj Γ prog 36 [a,b] [.one (.dat (.sl 7 (vs.map Vr.C))),.one (.dat (.sl 3 (ms.map Tb.C)))] [a,b,mE V,mE T] (.tup [.agg [.mp 2,.mp 3],.one (.dat (cB true))]):=fun a b=>by
     have h:=xgj.at [] (η:=[a,b]) hr (by decide) rfl rfl rfl
     have e:putR [] [a,b] (zh4 (some (V,T)))=[a,b,mE V,mE T]:=by
      show [a,b,rnSB _ (mE V),rnSB _ (mE T)]=_;rw [v18,v18]
     rw [e] at h;exact h
    refine za2 (hr2 _ _) rfl ?_;refine hg ?_;refine wq6 (xgj.ro [2,3] (cOf V T x hx hsh hc1) (xyn V T) (by decide) rfl rfl) ?_;refine hg ?_;exact RLe.ofEq (by simp only [ofF,hr1,hc1,hrd];rfl)
 . refine lf1 @ofF.eq_def ?_;first | exact trivial | rfl
end Go.Hp.T
namespace Go.Hp.T
open Go Go.RowKit Go.Slot Go.Hp Go.Slot.T
set_option maxRecDepth 10000
structure Prm where
 name:ByteArray
 unit:ByteArray
structure Fnc where
 name:ByteArray
 params:List Prm
 body:Ex
def Prm.C (x:Prm):List Cell:=[cS x.name,cS x.unit]
abbrev prmC (x:Prm):List Cell:=[cS x.name,cS x.unit]
theorem Prm.C_eq (x:Prm):x.C=prmC x:=rfl
def Fnc.C (x:Fnc):List Cell:=[cS x.name,.sl 2 (x.params.map Prm.C),cI x.body.op,cI x.body.n,cS x.body.unit,cS x.body.name,.sl 5 (x.body.args.map Ex.cells)]
abbrev fncC (x:Fnc):List Cell:=[cS x.name,.sl 2 (x.params.map Prm.C),cI x.body.op,cI x.body.n,cS x.body.unit,cS x.body.name,.sl 5 (x.body.args.map Ex.cells)]
theorem Fnc.C_eq (x:Fnc):x.C=fncC x:=rfl
attribute [go_sem] Prm.C_eq Fnc.C_eq
instance:Inhabited Prm:=⟨⟨⟨#[]⟩,⟨#[]⟩⟩⟩
instance:Inhabited Fnc:=⟨⟨⟨#[]⟩,[],default⟩⟩
structure Fnc.Sm (f:Fnc):Prop where
 s:f.name.size<=1073741824
 len:f.params.length<=1073741824
 p:∀ p∈f.params,p.name.size<=1073741824/\p.unit.size<=1073741824
 b:f.body.Sm
mutual
def Ex.anyN (p:Ex->Bool):Ex->Bool
 | .mk o n u s l=>p (.mk o n u s l)||Ex.ww2 p l
def Ex.ww2 (p:Ex->Bool):List Ex->Bool
 | []=>false
 | y::l=>Ex.anyN p y||Ex.ww2 p l
end
theorem Ex.vww (p:Ex->Bool):∀ l:List Ex,Ex.ww2 p l=l.any (Ex.anyN p)
 | []=>by rw [Ex.ww2];rfl
 | y::l=>by rw [Ex.ww2,Ex.vww p l];rfl
theorem Ex.x9i (p:Ex->Bool) (x:Ex):x.anyN p=(p x||x.args.any (Ex.anyN p)):=by cases x;rw [Ex.anyN,Ex.vww];rfl
inductive Ex.Nd (y:Ex):Ex->Prop
 | here:Ex.Nd y y
 | arg {x z:Ex} (h:z∈x.args) (h2:Ex.Nd y z):Ex.Nd y x
theorem Ex.x8x (p:Ex->Bool):∀ x:Ex,x.anyN p=true↔∃ y,Ex.Nd y x/\p y=true:=by
 refine Ex.ind (fun x ih=>?_);rw [Ex.x9i,Bool.or_eq_true,List.any_eq_true];constructor
 . rintro (h | ⟨y,hy,h⟩)
   . exact ⟨x,.here,h⟩
   . obtain ⟨z,hz,h⟩:=(ih y hy).1 h;exact ⟨z,.arg hy hz,h⟩
 . rintro ⟨y,hy,h⟩
   cases hy with
   | here=>exact .inl h
   | arg hz h2=>exact .inr ⟨_,hz,(ih _ hz).2 ⟨y,h2,h⟩⟩
theorem Ex.vaz {p:Ex->Bool} {x:Ex} (h:x.anyN p=false) {y:Ex} (hy:Ex.Nd y x):p y=false:=by
 cases hp:p y with
 | false=>rfl
 | true=>rw [(Ex.x8x p x).2 ⟨y,hy,hp⟩] at h;cases h
mutual
def Ex.anyS {S:Type} (g:S->Ex->S×Bool):Ex->S->S×Bool
 | .mk o n u s l,t=>match g t (.mk o n u s l) with
  | (t',true)=>(t',true)
  | (t',false)=>Ex.y4w g l t'
def Ex.y4w {S:Type} (g:S->Ex->S×Bool):List Ex->S->S×Bool
 | [],t=>(t,false)
 | y::l,t=>match Ex.anyS g y t with
  | (t',true)=>(t',true)
  | (t',false)=>Ex.y4w g l t'
end
theorem Ex.zvm {S:Type} (g:S->Ex->S×Bool) (x:Ex) (t:S):x.anyS g t=match g t x with
 | (t',true)=>(t',true)
 | (t',false)=>Ex.y4w g x.args t':=by cases x;rw [Ex.anyS];rfl
def findF (F:List Fnc) (s:ByteArray):Int:=idxF (fun f=>seq f.name s) F
def wcs (f:Fnc) (s:ByteArray):Int:=idxF (fun p=>seq p.name s) f.params
def oddP (p:Prm):Bool:=!x6w p.unit||!isNamed p.name
def wtj (f:Fnc):Bool:=isNamed f.name&&decide (1<=(f.params.length:Int))&&decide ((f.params.length:Int)<=6)&&!f.params.any oddP&&z7n f.body
def x5q (F:List Fnc) (x:Ex):Bool:=decide (x.op=3)&&decide (findF F x.name<0)
def zs3 (F:List Fnc) (x:Ex):Bool:=decide (x.op=3)&&decide (¬(x.args.length:Int)=((F.getD (findF F x.name).toNat default).params.length:Int))
def znq (f:Fnc) (x:Ex):Bool:=decide (x.op=1)&&decide (wcs f x.name<0)
def ziu (p:Prm):Bool:=decide (¬(whw p.unit).2=0)
def zlh (F:List Fnc) (i:Nat):Bool:=decide (findF F (F.getD i default).name<(i:Int))||(List.range (F.getD i default).params.length).any fun k=>decide (wcs (F.getD i default) ((F.getD i default).params.getD k default).name<(k:Int))
def yum (F:List Fnc) (i:Nat):Int:=
 bif !wtj (F.getD i default) then 2 else
 bif zlh F i then 5 else
 bif (F.getD i default).params.any ziu then 14 else
 bif (F.getD i default).body.anyN (znq (F.getD i default))||(F.getD i default).body.anyN (x5q F) then 11 else
 bif (F.getD i default).body.anyN (zs3 F) then 1 else 0
def thrF (F:List Fnc):Nat->List Int->Int->List Int×Bool
 | 0,st,_=>(st,false)
 | k+1,st,i=>bif !decide (st.getD i.toNat 0=0) then (st,decide (st.getD i.toNat 0=1)) else
  (((F.getD i.toNat default).body.anyS (fun t y=>bif decide (y.op=3) then thrF F k t (findF F y.name) else (t,false)) (st.set i.toNat 1)).1.set i.toNat 2,
   ((F.getD i.toNat default).body.anyS (fun t y=>bif decide (y.op=3) then thrF F k t (findF F y.name) else (t,false)) (st.set i.toNat 1)).2)
def w1r (F:List Fnc):Nat->Nat->Int
 | 0,_=>0
 | n+1,i=>bif !decide (yum F i=0) then yum F i else w1r F n (i+1)
def y38 (F:List Fnc):Nat->Nat->List Int->Bool
 | 0,_,_=>false
 | n+1,i,st=>bif (thrF F (F.length+1) st i).2 then true else y38 F n (i+1) (thrF F (F.length+1) st i).1
def wa2 (F:List Fnc):Int:=
 bif decide (100<(F.length:Int)) then 6 else
 bif !decide (w1r F F.length 0=0) then w1r F F.length 0 else
 bif y38 F F.length 0 (List.replicate F.length 0) then 23 else 0
structure Wh where
 x:Ex
 nodes:Int
 levels:Int
 full:Bool
def Wh.none:Wh:=⟨Ex.zero,0,0,true⟩
instance:Inhabited Wh:=⟨⟨Ex.zero,0,0,false⟩⟩
def Wh.C (w:Wh):List Cell:=[cI w.x.op,cI w.x.n,cS w.x.unit,cS w.x.name,.sl 5 (w.x.args.map Ex.cells),cI w.nodes,cI w.levels,cB w.full]
abbrev whC (w:Wh):List Cell:=[cI w.x.op,cI w.x.n,cS w.x.unit,cS w.x.name,.sl 5 (w.x.args.map Ex.cells),cI w.nodes,cI w.levels,cB w.full]
theorem Wh.C_eq (x:Wh):x.C=whC x:=rfl
attribute [go_sem] Wh.C_eq
def Ex.withArgs (x:Ex) (l:List Ex):Ex:=.mk x.op x.n x.unit x.name l
def vd1 (x:Ex):List Wh->Int->Int->List Ex->Wh
 | [],n,lv,l=>⟨x.withArgs l,n,lv,false⟩
 | y::ys,n,lv,l=>bif y.full||decide (200<n+y.nodes)||decide (20<max lv (y.levels+1)) then Wh.none else vd1 x ys (n+y.nodes) (max lv (y.levels+1)) (l++[y.x])
def xi7 (x:Ex) (ws:List Wh):Wh:=vd1 x ws 1 1 []
mutual
def putF (f:Fnc) (args:List Wh):Ex->Wh
 | .mk o n u s l=>bif decide (o=1) then args.getD (wcs f s).toNat default else
  match yda f args l with
  | .inl z=>z
  | .inr ws=>xi7 (.mk o n u s l) ws
def yda (f:Fnc) (args:List Wh):List Ex->Wh ⊕ List Wh
 | []=>.inr []
 | y::l=>match (putF f args y).full with
  | true=>.inl (putF f args y)
  | false=>match yda f args l with
   | .inl z=>.inl z
   | .inr ws=>.inr (putF f args y::ws)
end
mutual
def expG (F:List Fnc) (B:Nat->Wh):Ex->Wh
 | .mk o n u s l=>bif !decide (o=3) then xi7 (.mk o n u s l) (xgd F B l) else
  bif !(B (findF F s).toNat).full then putF (F.getD (findF F s).toNat default) (xgd F B l) (B (findF F s).toNat).x else Wh.none
def xgd (F:List Fnc) (B:Nat->Wh):List Ex->List Wh
 | []=>[]
 | y::l=>expG F B y::xgd F B l
end
theorem v2n (F:List Fnc) (B:Nat->Wh):∀ l:List Ex,xgd F B l=l.map (expG F B)
 | []=>by rw [xgd];rfl
 | y::l=>by rw [xgd,v2n F B l];rfl
theorem wpu (F:List Fnc) (B:Nat->Wh) (x:Ex):expG F B x=bif !decide (x.op=3) then xi7 x (x.args.map (expG F B)) else
 bif !(B (findF F x.name).toNat).full then putF (F.getD (findF F x.name).toNat default) (x.args.map (expG F B)) (B (findF F x.name).toNat).x else Wh.none:=by
 cases x;rw [expG,v2n];rfl
theorem vvr (f:Fnc) (args:List Wh) (x:Ex):putF f args x=bif decide (x.op=1) then args.getD (wcs f x.name).toNat default else
 match yda f args x.args with
 | .inl z=>z
 | .inr ws=>xi7 x ws:=by cases x;rw [putF];rfl
def vax (F:List Fnc):Nat->Nat->Wh
 | 0,_=>default
 | k+1,i=>expG F (vax F k) (F.getD i default).body
def expF (F:List Fnc) (x:Ex):Wh:=expG F (vax F F.length) x
def yc3 (F:List Fnc) (x:Ex):Ex×Int:=
 bif !z7n x||!decide (wa2 F=0) then (Ex.zero,2) else
 bif x.anyN (x5q F) then (Ex.zero,11) else
 bif x.anyN (zs3 F) then (Ex.zero,1) else
 bif (expF F x).full then (Ex.zero,6) else ((expF F x).x,0)
end Go.Hp.T
