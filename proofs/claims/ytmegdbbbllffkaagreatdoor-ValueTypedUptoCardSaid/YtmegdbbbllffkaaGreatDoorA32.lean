/- The proof, part A32: Ih, Ne, Nf, Ua, Ra. -/
import Derived.Test.YtmegdbbbllffkaaGreatDoorA26
import Derived.Test.YtmegdbbbllffkaaGreatDoorA31
import Derived.Test.YtmegdbbbllffkaaGreatDoorA30
namespace Go.Hp
open Go Go.RowKit Go.Slot
variable {P:Program} {Γ:List (Nat×List Cell)}
variable {f:FuncId} {ηs ξ:List SB} {res:SV}
theorem x8i {n N i:Nat} (h:i<n):atR (List.range n) N i=i:=v84 (by simp [h])
theorem vfe.pre {args:List SV} (h:vfe Γ P f ηs args ηs res) (hs:∀ r,ηs.map (rnSB r)=ηs) (ha:args.map (yo9 (atR (List.range ηs.length) (ηs++ξ).length))=args) (hr:rnSV (atR (List.range ηs.length) (ηs++ξ).length) res=res):vfe Γ P f (ηs++ξ) args (ηs++ξ) res:=by
 have hfix:∀(r:Nat->Nat) (i:Nat) (x:SB),ηs[i]? = some x->rnSB r x=x:=fun r i x hx=>by
  have:=congrArg (fun l=>l[i]?) (hs r)
  simp only [List.getElem?_map,hx,Option.map_some] at this;exact Option.some.inj this
 have hlt:∀ j∈List.range ηs.length,j<(ηs++ξ).length:=fun j hj=>by
  rw [List.mem_range] at hj;rw [List.length_append];omega
 have hk:=vfe.frame (φ:=List.range ηs.length) (η:=ηs++ξ) List.nodup_range hlt ⟨by simp,fun i x hx=>by
  have hi:i<ηs.length:=(List.getElem?_eq_some_iff.1 hx).1
  exact ⟨i,by simp [hi],by rw [hfix _ i x hx,List.getElem?_append_left hi];exact hx⟩⟩ (by simp) h
 rw [ha,hr] at hk
 have hp:putR (List.range ηs.length) (ηs++ξ) ηs=ηs++ξ:=by
  apply List.ext_getElem?;intro i;by_cases hi:i<ηs.length
  . have h1:=y6r (φ:=List.range ηs.length) (η:=ηs++ξ) (ηs':=ηs) List.nodup_range hlt (List.getElem?_eq_getElem hi);rw [x8i hi,hfix _ i _ (List.getElem?_eq_getElem hi)] at h1;rw [h1,List.getElem?_append_left hi,List.getElem?_eq_getElem hi]
  . by_cases hi2:i<(ηs++ξ).length
    . exact xxa hi2 (by simpa using hi)
    . rw [List.getElem?_eq_none (by rw [yvj];simp at hi2 ⊢;omega),List.getElem?_eq_none (by omega)]
 rw [hp] at hk;exact hk
theorem v44 {η:List SB} {args l:List SV} {K:Bool->List SB->SV->Prop} (h:vfe Γ P f ηs args ηs res) (hs:∀ r,ηs.map (rnSB r)=ηs) (hz:dzL η l=args) (hη:appL (frzE η (dzB η l)) η=ηs++ξ) (ha:args.map (yo9 (atR (List.range ηs.length) (ηs++ξ).length))=args) (hr:rnSV (atR (List.range ηs.length) (ηs++ξ).length) res=res) (hk:K true (ηs++ξ) res):x0t Γ P f η l K:=by
 subst hz;refine xwg (vfe.frz ?_) hk;rw [hη];exact vfe.pre h hs ha hr
end Go.Hp
namespace Go.Hp.T
open Go Go.RowKit Go.Slot Go.Hp
theorem xn0 {r:Nat->Nat} {l:List (ByteArray×Dm)}:rnSB r (.map (envE l))=.map (envE l):=by
 have:∀ l:List (ByteArray×Dm),(envE l).map (fun p=>(p.1,yo9 r p.2))=envE l:=by
  intro l
  induction l with
  | nil=>rfl
  | cons p l ih=>
   show _::(envE l).map _=_;rw [ih];rfl
 show SB.map _=_;rw [this]
theorem w1l (V T:List (ByteArray×Dm)):∀ r,[SB.map (envE V),SB.map (envE T)].map (rnSB r)=[SB.map (envE V),SB.map (envE T)]:=fun r=>by
 simp only [List.map_cons,List.map_nil,xn0]
theorem x6z {x:Ex} (h:yxn x=true) (h3:x.op≠3) (h0:x.args.length≠0):(x.op≠2->x.op≠4->2<=x.args.length)/\(x.op=5->3<=x.args.length):=by
 unfold yxn at h;by_cases a0:x.op=0
 . rw [decide_eq_true a0,cond_true] at h;simp only [Bool.and_eq_true,decide_eq_true_eq] at h;omega
 rw [decide_eq_false a0,cond_false] at h
 cases hb:(decide (¬x.n=0)||decide (¬x.unit.size=0)) with
 | true=>rw [hb,cond_true] at h;cases h
 | false=>
 rw [hb,cond_false] at h;by_cases a1:x.op=1
 . rw [decide_eq_true a1,cond_true] at h;simp only [Bool.and_eq_true,decide_eq_true_eq] at h;omega
 rw [decide_eq_false a1,cond_false] at h;by_cases a2:x.op=2
 . rw [decide_eq_true a2,cond_true] at h;simp only [Bool.and_eq_true,decide_eq_true_eq] at h;omega
 rw [decide_eq_false a2,cond_false] at h;by_cases a3:x.op=3
 . rw [decide_eq_true a3,cond_true] at h;simp only [Bool.and_eq_true,decide_eq_true_eq] at h;omega
 rw [decide_eq_false a3,cond_false] at h;by_cases a4:x.op=4
 . rw [decide_eq_true a4,cond_true] at h;simp only [Bool.and_eq_true,decide_eq_true_eq] at h;omega
 rw [decide_eq_false a4,cond_false] at h;by_cases a5:x.op=5
 . rw [decide_eq_true a5,cond_true] at h;simp only [Bool.and_eq_true,decide_eq_true_eq] at h;omega
 rw [decide_eq_false a5,cond_false] at h
 cases hc:(decide (x.op=10)||decide (x.op=11)) with
 | true=>rw [hc,cond_true] at h;simp only [Bool.and_eq_true,decide_eq_true_eq] at h;omega
 | false=>rw [hc,cond_false] at h;simp only [Bool.and_eq_true,decide_eq_true_eq] at h;omega
end Go.Hp.T
namespace Go.Hp.T
open Go Go.RowKit Go.Slot Go.Hp Go.Slot.T
open Go.Proofs.Tryz (prog)
set_option maxRecDepth 10000
set_option maxHeartbeats 4000000
variable {Γ:List (Nat×List Cell)}
theorem cTIn (n:Int):CallsD Γ prog 124 [.one (cI n)] (.one (cB (inT n))):=by
 refine CallsD.run [] Go.Proofs.Tryz.func124 rfl rfl rfl ?_;simp only [Go.Proofs.Tryz.f124];refine hgR ?_
 repeat' ((first | refine hfk ?_ ?_<;>intros | refine hik ?_)<;>refine hgS ?_)
 all_goals refine lf1 @inT.eq_def ?_;first | exact trivial | rfl
theorem vqa (s:ByteArray) (hs:s.size<=1073741824):CallsD Γ prog 15 [.one (cS s)] (.tup [.agg (unX (zte s).1),.one (cI (zte s).2)]):=by
 have:=zhn (Γ:=Γ) s hs
 rw [vtx] at this;exact this
theorem xzk:(ztb prog 9 42=some 6)=True:=eq_true (by kernel_rfl)
theorem y1t:aggT prog 42=true:=by kernel_rfl
theorem vyq:prog.eqGuardType prog.depth 42=false:=by kernel_rfl
theorem xv0 (a b c d e f:Int):fitT prog 9 42 [.int .i64 a,.int .i64 b,.int .i64 c,.int .i64 d,.int .i64 e,.int .i64 f]=true:=by kernel_rfl
attribute [go_sem] xzk y1t vyq xv0
theorem vv4 (t:Tb) (h1:t.name.size<=1073741824) (h2:t.unit.size<=1073741824) (h3:t.rows.length<=1073741824):CallsD Γ prog 67 [.agg (tbC t)] (.one (cB (zi4 (fun s=>(zte s).2) t))):=by
 refine CallsD.run [] Go.Proofs.Tryz.func67 rfl rfl rfl ?_;simp only [Go.Proofs.Tryz.f67];refine hgR ?_
 repeat' ((first | refine hfk ?_ ?_<;>intros | refine hik ?_ | with_reducible first | refine v6l (vqa t.unit h2) ?_ | refine vgi (vqa t.unit h2) ?_ | refine v6l (vv6 t.name (by omega)) ?_ | refine vgi (vv6 t.name (by omega)) ?_)<;>refine hgS ?_)
 . refine lf1 @zi4.eq_def ?_;first | exact trivial | rfl
 . refine y55 [1,28,29] (fun i:Nat=>[(30,.one (.dat (cI i)))]) (fun _=>[.box ((tbC t).map .dat) (some 60),.box ((unX (zte t.unit).1).map .dat) (some 44)]) (fun i=>i<=t.rows.length/\∀ j,j<i->rowAt t.rows j=true) (fun i=>t.rows.length-i) 0 ⟨Nat.zero_le _,fun j hj=>by omega⟩ ?_ ?_
   . refine hg ?_;exact StH.same svl rfl
   rintro i ⟨hi,hj⟩
   have hbad:rowAt t.rows i=false->i<t.rows.length->zi4 (fun s=>(zte s).2) t=false:=fun h h'=>by
    unfold zi4 zx5;rw [zch h' h,Bool.and_false]
   refine hg ?_
   repeat' ((first | refine hfk ?_ ?_<;>intros | refine hik ?_ | with_reducible first | refine v6l (cTIn _) ?_ | refine vgi (cTIn _) ?_)<;>refine hgS ?_)
   all_goals first
    | (rw [hbad (by (refine bs1 @rowAt.eq_def ?_;try exact trivial)) (by omega)];exact RLe.ofEq rfl)
    | (refine ⟨i+1,⟨by omega,xrx hj (by (refine bs1 @rowAt.eq_def ?_;try exact trivial))⟩,by omega,StH.back [1,28,29,30] 2 2 2 rfl rfl rfl rfl rfl (by kernel_rfl) (StH.same svl rfl)⟩)
    | (refine RLe.ofEq ?_;rw [show zi4 (fun s=>(zte s).2) t=true from by unfold zi4 zx5;rw [ye8 (fun j hj'=>hj j (by omega))];(refine bsE ?_;try exact trivial)])
 . refine lf1 @zi4.eq_def ?_;first | exact trivial | rfl
 . refine lf1 @zi4.eq_def ?_;first | exact trivial | rfl
theorem wv4 (a b r:Ty):CallsD Γ prog 164 [.agg (tyC a),.agg (tyC b),.agg (tyC r)] (tyR (xkg a b r)):=by
 refine CallsD.run [] Go.Proofs.Tryz.func164 rfl rfl rfl ?_;simp only [Go.Proofs.Tryz.f164];refine hgR ?_
 repeat' ((first | refine hfk ?_ ?_<;>intros | refine hik ?_)<;>refine hgS ?_)
 all_goals refine lf1 @xkg.eq_def ?_;first | exact trivial | rfl
theorem zye (d:Dm):CallsD Γ prog 162 [.agg (dmC d)] (.agg (tyC ⟨false,d⟩)):=by
 refine CallsD.run [] Go.Proofs.Tryz.func162 rfl rfl rfl ?_;simp only [Go.Proofs.Tryz.f162];refine hgR ?_
 repeat' ((first | refine hfk ?_ ?_<;>intros | refine hik ?_)<;>refine hgS ?_)
 all_goals refine lfE ?_;first | exact trivial | rfl
theorem ywj:CallsD Γ prog 165 [] (.agg (tyC ⟨true,Dm.zero⟩)):=by
 refine CallsD.run [] Go.Proofs.Tryz.func165 rfl rfl rfl ?_;simp only [Go.Proofs.Tryz.f165];refine hgR ?_
 repeat' ((first | refine hfk ?_ ?_<;>intros | refine hik ?_)<;>refine hgS ?_)
 all_goals refine lfE ?_;first | exact trivial | rfl
theorem wah (o:Int) (a b:Ty):CallsD Γ prog 166 [.one (cI o),.agg (tyC a),.agg (tyC b)] (tyR (zom o a b)):=by
 refine CallsD.run [] Go.Proofs.Tryz.func166 rfl rfl rfl ?_;simp only [Go.Proofs.Tryz.f166];refine hgR ?_
 repeat' ((first | refine hfk ?_ ?_<;>intros | refine hik ?_ | with_reducible first | refine v6l (zyo a.d b.d) ?_ | refine vgi (zyo a.d b.d) ?_ | refine v6l (wxd a.d b.d) ?_ | refine vgi (wxd a.d b.d) ?_ | refine v6l (zye _) ?_ | refine vgi (zye _) ?_)<;>refine hgS ?_)
 all_goals refine lf1 @zom.eq_def ?_;first | exact trivial | rfl
theorem zfm:∀ x:Ex,x.Sm->CallsD Γ prog 56 [.agg (exC x)] (.one (cB x.xi4)):=by
 refine Ex.ind (fun x ih hx=>?_);have hl:=hx.len;have hc:CallsD Γ prog 63 [.one (.sl 5 (x.args.map Ex.cells)),fN 56] (.one (cB (x.args.any Ex.xi4))):=ynb x.args _ _ hl (fun y hy=>ih y hy (hx.arg y hy));refine CallsD.run [] Go.Proofs.Tryz.func56 rfl rfl rfl ?_;simp only [Go.Proofs.Tryz.f56];refine hgR ?_
 repeat' ((first | refine hfk ?_ ?_<;>intros | refine hik ?_ | with_reducible first | refine v6l (hc) ?_ | refine vgi (hc) ?_)<;>refine hgS ?_)
 all_goals refine RLe.ofEq ?_
 all_goals rw [Ex.wd9]
 all_goals (refine bsE ?_;try exact trivial)
theorem yjn (l:List Ty) (f:FuncId) (p:Ty->Bool) (hl:l.length<=1073741824) (h:∀ y∈l,CallsD Γ prog f [.agg (tyC y)] (.one (cB (p y)))) :
 CallsD Γ prog 216 [.one (.sl 7 (l.map Ty.C)),fN f] (.one (cI (idxF p l))):=by
 refine CallsD.run [] Go.Proofs.Tryz.func216 rfl rfl rfl ?_;simp only [Go.Proofs.Tryz.f216];refine hgR ?_;refine y55 [0,1,7] (fun i:Nat=>[(8,.one (.dat (cI i)))]) (fun _=>[]) (fun i=>i<=l.length/\∀ j,j<i->p (l.getD j default)=false) (fun i=>l.length-i) 0 ⟨Nat.zero_le _,fun j hj=>by omega⟩ ?_ ?_
 . refine hg ?_;exact StH.same svl rfl
 intro i hi;obtain ⟨hi,hj⟩:=hi;refine hg ?_
 repeat' ((first | refine hfk ?_ ?_<;>intros | refine hik ?_ | with_reducible first | refine v6l (h _ (w4t (show i<l.length by omega))) ?_ | refine vgi (h _ (w4t (show i<l.length by omega))) ?_)<;>refine hgS ?_)
 . rename_i hp;rw [(yo6 hi hj).2 (by omega) hp];exact RLe.ofEq rfl
 . rename_i hp;exact ⟨i+1,⟨by omega,xrx hj hp⟩,by omega,StH.same svl rfl⟩
 . rw [(yo6 hi hj).1 (by omega)];exact RLe.ofEq rfl
theorem xnl (l:List Ty) (f:FuncId) (p:Ty->Bool) (hl:l.length<=1073741824) (h:∀ y∈l,CallsD Γ prog f [.agg (tyC y)] (.one (cB (p y)))) :
 CallsD Γ prog 195 [.one (.sl 7 (l.map Ty.C)),fN f] (.one (cB (l.any p))):=by
 refine CallsD.run [] Go.Proofs.Tryz.func195 rfl rfl rfl ?_;simp only [Go.Proofs.Tryz.f195];refine hgR ?_
 repeat' ((first | refine hfk ?_ ?_<;>intros | refine hik ?_ | with_reducible first | refine v6l (yjn l f p hl h) ?_ | refine vgi (yjn l f p hl h) ?_)<;>refine hgS ?_)
 exact RLe.ofEq (by rw [<-wb5])
theorem xkt (t:Ty):CallsD Γ prog 196 [.agg (tyC t)] (.one (cB (!t.t))):=by
 refine CallsD.run [] Go.Proofs.Tryz.func196 rfl rfl rfl ?_;simp only [Go.Proofs.Tryz.f196];refine hgR ?_
 repeat' ((first | refine hfk ?_ ?_<;>intros | refine hik ?_)<;>refine hgS ?_)
 all_goals refine lfE ?_;first | exact trivial | rfl
theorem yv2 (l:List Ty) (hl:l.length<=1073741824):CallsD Γ prog 167 [.one (.sl 7 (l.map Ty.C))] (tyR (xc3 l)):=by
 have hc:CallsD Γ prog 195 [.one (.sl 7 (l.map Ty.C)),fN 196] (.one (cB (l.any (fun t=>!t.t)))):=xnl l _ _ hl (fun y _=>xkt y);refine CallsD.run [] Go.Proofs.Tryz.func167 rfl rfl rfl ?_;simp only [Go.Proofs.Tryz.f167];refine hgR ?_
 repeat' ((first | refine hfk ?_ ?_<;>intros | refine hik ?_ | with_reducible first | refine v6l (hc) ?_ | refine vgi (hc) ?_ | refine v6l (ywj) ?_ | refine vgi (ywj) ?_)<;>refine hgS ?_)
 all_goals refine lf1 @xc3.eq_def ?_;first | exact trivial | rfl
abbrev mE (l:List (ByteArray×Dm)):SB:=.map (envE l)
theorem x88 {x:Dm}:(decide (x.a=0)&&(decide (x.b=0)&&(decide (x.c=0)&&(decide (x.d=0)&&(decide (x.e=0)&&decide (x.f=0))))))=decide (x=Dm.zero):=v7r (y:=Dm.zero)
attribute [go_sem] x88
theorem x09 (V T:List (ByteArray×Dm)) (s:ByteArray) (k:Ty):vfe Γ prog 163 [mE V,mE T] [.agg [.mp 0,.mp 1],.one (.dat (cS s)),.agg ((tyC k).map .dat)] [mE V,mE T] (tyS (x59 T s k)):=by
 cases h:ycr T s with
 | none=>
  refine vfe.run [] Go.Proofs.Tryz.func163 rfl rfl ?_;simp only [Go.Proofs.Tryz.f163];refine hgR ?_;refine hg1 @h ?_
  repeat' ((first | refine hfk ?_ ?_<;>intros | refine hik ?_)<;>refine hgS ?_)
  exact StH.zx4 rfl (by kernel_rfl) (by simp only [x59,h];rfl)
 | some d=>
  refine vfe.run [] Go.Proofs.Tryz.func163 rfl rfl ?_;simp only [Go.Proofs.Tryz.f163];refine hgR ?_;refine hg1 @h ?_
  repeat' ((first | refine hfk ?_ ?_<;>intros | refine hik ?_ | with_reducible first | refine v6l (zye d) ?_ | refine vgi (zye d) ?_)<;>refine hgS ?_)
  all_goals exact StH.zx4 rfl (by kernel_rfl) (by ((refine bs2 @x59.eq_def @h ?_;try exact trivial))<;>first | rfl | trivial)
def zgx (V:List (ByteArray×Dm)) (x:Ex):Ty×Int:=bif decide (x.op=1) then (match ycr V x.name with
 | none=>(Ty.zero,11)
 | some d=>(⟨false,d⟩,0)) else
 bif decide (¬(zte x.unit).2=0) then (Ty.zero,14) else (⟨false,dmO (zte x.unit).1⟩,0)
theorem y06 (V T:List (ByteArray×Dm)) (x:Ex) (hx:x.Sm):vfe Γ prog 116 [mE V,mE T] [.agg [.mp 0,.mp 1],.agg ((exC x).map .dat)] [mE V,mE T] (tyS (zgx V x)):=by
 have hu:=hx.u
 cases h:ycr V x.name with
 | none=>
  refine vfe.run [] Go.Proofs.Tryz.func116 rfl rfl ?_;simp only [Go.Proofs.Tryz.f116];refine hgR ?_
  repeat' ((first | refine hfk ?_ ?_<;>intros | refine hik ?_ | with_reducible first | refine v6l (vqa x.unit hu) ?_ | refine vgi (vqa x.unit hu) ?_ | refine v6l (zye _) ?_ | refine vgi (zye _) ?_)<;>refine hgS ?_)
  all_goals try refine hg1 @h ?_
  all_goals try repeat' ((first | refine hfk ?_ ?_<;>intros | refine hik ?_ | with_reducible first | refine v6l (vqa x.unit hu) ?_ | refine vgi (vqa x.unit hu) ?_ | refine v6l (zye _) ?_ | refine vgi (zye _) ?_)<;>refine hgS ?_)
  all_goals exact StH.zx4 rfl (by kernel_rfl) (by ((refine bs2 @zgx.eq_def @h ?_;try exact trivial))<;>first | rfl | trivial)
 | some d=>
  refine vfe.run [] Go.Proofs.Tryz.func116 rfl rfl ?_;simp only [Go.Proofs.Tryz.f116];refine hgR ?_
  repeat' ((first | refine hfk ?_ ?_<;>intros | refine hik ?_ | with_reducible first | refine v6l (vqa x.unit hu) ?_ | refine vgi (vqa x.unit hu) ?_ | refine v6l (zye _) ?_ | refine vgi (zye _) ?_)<;>refine hgS ?_)
  all_goals try refine hg1 @h ?_
  all_goals try repeat' ((first | refine hfk ?_ ?_<;>intros | refine hik ?_ | with_reducible first | refine v6l (vqa x.unit hu) ?_ | refine vgi (vqa x.unit hu) ?_ | refine v6l (zye _) ?_ | refine vgi (zye _) ?_)<;>refine hgS ?_)
  all_goals exact StH.zx4 rfl (by kernel_rfl) (by ((refine bs2 @zgx.eq_def @h ?_;try exact trivial))<;>first | rfl | trivial)
theorem zz5 (V T:List (ByteArray×Dm)) (x:Ex) (ts:List Ty) (hl:ts.length<=1073741824) (h1:1<=ts.length) (h2:x.op≠2->x.op≠4->2<=ts.length) (h3:x.op=5->3<=ts.length) :
 vfe Γ prog 117 [mE V,mE T] [.agg [.mp 0,.mp 1],.agg ((exC x).map .dat),.one (.dat (.sl 7 (ts.map Ty.C)))] [mE V,mE T] (tyS (wqq T x.op x.name ts)):=by
 refine vfe.run [] Go.Proofs.Tryz.func117 rfl rfl ?_;simp only [Go.Proofs.Tryz.f117];refine hgR ?_
 repeat' ((first | refine hfk ?_ ?_<;>intros | refine hik ?_ | with_reducible first | refine v6l (wv4 (ts.getD 0 default) (ts.getD 1 default) ⟨true,Dm.zero⟩) ?_ | refine vgi (wv4 (ts.getD 0 default) (ts.getD 1 default) ⟨true,Dm.zero⟩) ?_ | refine v6l (wv4 _ _ _) ?_ | refine vgi (wv4 _ _ _) ?_ | refine v6l (wah _ _ _) ?_ | refine vgi (wah _ _ _) ?_ | refine v6l (yv2 ts hl) ?_ | refine vgi (yv2 ts hl) ?_ | refine v6l (ywj) ?_ | refine vgi (ywj) ?_)<;>refine hgS ?_)
 . refine zo7 [] (vfe.pre (x09 V T x.name (ts.getD 0 default)) (w1l V T) rfl rfl) ?_;refine hg ?_
   repeat' ((first | refine hfk ?_ ?_<;>intros | refine hik ?_)<;>refine hgS ?_)
   exact StH.zx4 rfl (by kernel_rfl) (by ((refine bs1 @wqq.eq_def ?_;try exact trivial))<;>first | rfl | trivial)
 all_goals exact StH.zx4 rfl (by kernel_rfl) (by ((refine bs1 @wqq.eq_def ?_;try exact trivial))<;>first | rfl | trivial)
mutual
def Ex.ty (V T:List (ByteArray×Dm)):Ex->Ty×Int
 | .mk o n u s l=>bif decide ((l.length:Int)=0) then zgx V (.mk o n u s l) else
  match Ex.tyL V T l with
  | .inl e=>(Ty.zero,e)
  | .inr ts=>wqq T o s ts
def Ex.tyL (V T:List (ByteArray×Dm)):List Ex->Int ⊕ List Ty
 | []=>.inr []
 | y::l=>match Ex.ty V T y with
  | (t,e)=>bif decide (¬e=0) then .inl e else match Ex.tyL V T l with
   | .inl e=>.inl e
   | .inr ts=>.inr (t::ts)
end
theorem Ex.xyt (V T:List (ByteArray×Dm)) (x:Ex):x.ty V T=bif decide ((x.args.length:Int)=0) then zgx V x else
 match Ex.tyL V T x.args with
 | .inl e=>(Ty.zero,e)
 | .inr ts=>wqq T x.op x.name ts:=by cases x;rw [Ex.ty];rfl
theorem cOf (V T:List (ByteArray×Dm)):∀ x:Ex,x.Sm->x.shaped=true->x.xi4=false->vfe Γ prog 58 [mE V,mE T] [.agg [.mp 0,.mp 1],.agg ((exC x).map .dat)] [mE V,mE T] (tyS (x.ty V T)):=by
 refine Ex.ind (fun x ih hx hsh hcl=>?_);have hl:=hx.len;refine vfe.run [] Go.Proofs.Tryz.func58 rfl rfl ?_;simp only [Go.Proofs.Tryz.f58];refine hgR ?_
 repeat' ((first | refine hfk ?_ ?_<;>intros | refine hik ?_)<;>refine hgS ?_)
 . refine xwg (vfe.pre (y06 V T x hx) (w1l V T) rfl rfl) ?_;refine hg ?_;rename_i h;exact StH.zx4 rfl (by kernel_rfl) (by rw [Ex.xyt,h];rfl)
 . rename_i h0 hd0
   have hne:x.args.length≠0:=by omega
   have hnode:yxn x=true:=by rw [Ex.xg3,Bool.and_eq_true] at hsh;exact hsh.1
   have hargs:∀ y∈x.args,y.shaped=true:=by rw [Ex.xg3,Bool.and_eq_true,List.all_eq_true] at hsh;exact hsh.2
   have hcalls:x.op≠3/\∀ y∈x.args,y.xi4=false:=by
    rw [Ex.wd9,Bool.or_eq_false_iff,decide_eq_false_iff_not,List.any_eq_false] at hcl;exact ⟨hcl.1,fun y hy=>by simpa using hcl.2 y hy⟩
   obtain ⟨hl2,hl3⟩:=x6z hnode hcalls.1 hne
   have hty:x.ty V T=match Ex.tyL V T x.args with
    | .inl e=>(Ty.zero,e)
    | .inr ts=>wqq T x.op x.name ts:=by rw [Ex.xyt,hd0,cond_false]
   refine y55 [2,3,4,21,22] (fun p:Nat×List Ty=>[(6,.one (.sl 5 7 0 p.2.length)),(23,.one (.dat (cI p.1)))])
    (fun p=>[mE V,mE T,.box [.mp 0,.mp 1] (some 109),.box ((exC x).map .dat) (some 24),.box ((tyC Ty.zero).map .dat) (some 68),.arr (.sl 7 (p.2.map Ty.C)) 0 (some 68)])
    (fun p=>p.1<=x.args.length/\p.2.length=p.1/\Ex.tyL V T x.args=match Ex.tyL V T (x.args.drop p.1) with
      | .inl e=>.inl e
      | .inr r=>.inr (p.2++r)) (fun p=>x.args.length-p.1) (0,[]) ⟨Nat.zero_le _,rfl,by simp only [List.drop_zero,List.nil_append];split<;>simp only [*]⟩ ?_ ?_
   . refine hg ?_;refine StH.trans (StH.empty (d:=6) (es:=7) (c:=.sl 7 []) (T:=some 68) rfl rfl (fun r hr=>by cases hr) rfl) ?_;refine hg ?_;exact StH.same svl rfl
   rintro ⟨i,ts⟩ ⟨h1,h2,h3⟩;simp only at h1 h2 h3;refine hg ?_;refine vnx (fun hlt _=>?_) (fun hlt _=>?_)
   . have hlt':i<x.args.length:=by omega
     have hy:=w4t hlt';rw [xqz hlt',Ex.tyL] at h3;refine hg ?_;refine xwg (vfe.pre (ih _ hy (hx.arg _ hy) (hargs _ hy) (hcalls.2 _ hy)) (w1l V T) rfl rfl) ?_;generalize hr:Ex.ty V T (x.args.getD i default)=r at h3 ⊢;obtain ⟨t,e⟩:=r;simp only at h3;refine hg ?_;refine vnx (fun he hd=>?_) (fun he hd=>?_)
     . refine hg ?_
       have h3':Ex.tyL V T x.args=.inl e:=by rw [h3,show decide (¬e=0)=true from hd];rfl
       exact StH.zx4 rfl (by kernel_rfl) (by rw [hty,h3'];rfl)
     . refine hg ?_;rw [show decide (¬e=0)=false from hd,cond_false] at h3
       have h3':Ex.tyL V T x.args=match Ex.tyL V T (x.args.drop (i+1)) with
        | .inl e=>.inl e
        | .inr r=>.inr ((ts++[t])++r):=by
        rw [h3]
        cases Ex.tyL V T (x.args.drop (i+1)) with
        | inl e=>rfl
        | inr r=>simp only [List.append_assoc,List.singleton_append]
       have hmap:ts.map Ty.C++[tyC t]=(ts++[t]).map Ty.C:=by simp;rfl
       rw [hmap];refine ⟨(i+1,ts++[t]),⟨by dsimp only;omega,by dsimp only;rw [List.length_append,List.length_singleton,h2],h3'⟩,by dsimp only;omega,?_⟩;refine StH.xuw [2,3,4,6,21,22,23] 5 8 6 rfl rfl rfl rfl rfl rfl rfl (by kernel_rfl) ?_;refine hg ?_;exact StH.same svl rfl
   . have h3':Ex.tyL V T x.args=.inr ts:=by rw [h3,List.drop_eq_nil_of_le (by omega),Ex.tyL];simp only [List.append_nil]
     refine hg ?_;refine v44 (zz5 V T x ts (by omega) (by omega) (fun a b=>by have:=hl2 a b;omega) (fun a=>by have:=hl3 a;omega)) (ξ:=[.box [.mp 0,.mp 1] (some 109),.box ((exC x).map .dat) (some 24),.box ((tyC Ty.zero).map .dat) (some 68),.arr (.sl 7 (ts.map Ty.C)) (ts.length*7) (some 68)]) (w1l V T) ?_ ?_ rfl rfl ?_
     . refine hg2 @dzL.eq_def @dzS.eq_def ?_;exact trivial
     . refine hg2 @dzB.eq_def @dzS.eq_def ?_;exact trivial
     . refine hg ?_;exact StH.zx4 rfl (by kernel_rfl) (by rw [hty,h3'];rfl)
end Go.Hp.T
namespace Go.Hp
open Go Go.RowKit Go.Slot
variable {P:Program} {Γ:List (Nat×List Cell)} {e:List SB}
variable {η:List SB}
theorem vfe.ro (φ:List Nat) {f:FuncId} {ηs:List SB} {args:List SV} {res:SV} (h:vfe Γ P f ηs args ηs res) (hs:∀ r,ηs.map (rnSB r)=ηs) (hn:φ.Nodup) (hb:(φ.all fun j=>Nat.blt j η.length)=true) (hp:φ.map (fun j=>η[j]?)=ηs.map some) :
 vfe Γ P f η (args.map (yo9 (atR φ η.length))) η (rnSV (atR φ η.length) res):=by
 have hfix:∀(r:Nat->Nat) (x:SB),x∈ηs->rnSB r x=x:=fun r x hx=>by
  obtain ⟨i,hi,rfl⟩:=List.getElem_of_mem hx
  have:=congrArg (fun l=>l[i]?) (hs r)
  simp only [List.getElem?_map,List.getElem?_eq_getElem hi,Option.map_some] at this;exact Option.some.inj this
 have hb':∀ j∈φ,j<η.length:=fun j hj=>by simpa using List.all_eq_true.1 hb j hj
 have hp':φ.map (fun j=>η[j]?)=ηs.map (fun x=>some (rnSB (atR φ η.length) x)):=by
  rw [hp];exact List.map_congr_left (fun x hx=>by rw [hfix _ x hx])
 have hk:=yp3.of hp';have hc:=vfe.frame hn hb' hk (by rw [hk.1];exact Nat.le_refl _) h
 have hput:putR φ η ηs=η:=by
  apply List.ext_getElem?;intro i;by_cases hi2:i<η.length
  . by_cases hi:i∈φ
    . obtain ⟨k,hk2,rfl⟩:=List.getElem_of_mem hi
      have hkl:k<ηs.length:=by rw [hk.1];exact hk2
      have h1:=y6r (ηs':=ηs) hn hb' (List.getElem?_eq_getElem hkl);rw [v84 (List.getElem?_eq_getElem hk2),hfix _ _ (List.getElem_mem hkl)] at h1;rw [h1];have h2:=congrArg (fun l=>l[k]?) hp;simp only [List.getElem?_map,List.getElem?_eq_getElem hk2,List.getElem?_eq_getElem hkl,Option.map_some] at h2;exact (Option.some.inj h2).symm
    . exact xxa hi2 hi
  . rw [List.getElem?_eq_none (by rw [yvj,hk.1];omega),List.getElem?_eq_none (by omega)]
 rw [hput] at hc;exact hc
theorem StH.cutN {σ σ':List SV} {η':List SB} (ks:List Nat) (m:Nat) (hm:Nat.ble e.length m=true) (h:x2g m (wue ks 0 σ) η=true) (hk:StH Γ e (wue ks 0 σ) (η.take m) σ' η'):StH Γ e σ η σ' η':=
 StH.trans (StH.only ks) (StH.trans (StH.cutB m (by simpa using hm) h) hk)
theorem StH.tup1 {l l':List SV} (h:vma l l'):StH Γ e [.tup l] η [.tup l'] η:=fun E ρ a w hE hR=>⟨ρ,hR.hd,hR.hs,fun i x hi=>by
 cases i with
 | zero=>
  simp only [List.getElem?_cons_zero,Option.some.injEq] at hi;subst hi;obtain ⟨vs,hv,hr⟩:=hR.slot 0 (.tup l) rfl;exact ⟨vs,hv,SRL.le h hr⟩
 | succ i=>simp at hi,hR.went⟩
theorem vg7 {a b:Nat}:Nat.blt a b=decide (a<b):=by
 by_cases h:a<b
 . rw [decide_eq_true h];simpa using h
 . rw [decide_eq_false h]
   cases hh:Nat.blt a b with
   | false=>rfl
   | true=>exact absurd (by simpa using hh) h
end Go.Hp
namespace Go.Hp.T
open Go Go.RowKit Go.Slot Go.Hp Go.Slot.T
open Go.Proofs.Tryz (prog)
set_option maxRecDepth 10000
set_option maxHeartbeats 4000000
variable {Γ:List (Nat×List Cell)}
theorem zli (l:List (ByteArray×Dm)):z0y (.map (envE l))=[]:=by
 show (envE l).flatMap (fun p=>vp6 p.2)=[]
 induction l with
 | nil=>rfl
 | cons p l ih=>show vp6 _++(envE l).flatMap _=[];rw [ih];rfl
theorem x5y (i j:Nat) (l:List (ByteArray×Dm)):swSB i j (.map (envE l))=.map (envE l):=by
 have:(envE l).map (fun p=>(p.1,wmz i j p.2))=envE l:=by
  induction l with
  | nil=>rfl
  | cons p l ih=>show _::(envE l).map _=_;rw [ih];rfl
 show SB.map _=_;rw [this]
theorem wvc {η:List SB} {h1 h2:HC}:StH Γ [] [SV.tup [.agg [h1,h2],.one (.dat (cB false))]] η [SV.tup [.agg [.any,.any],.one (.dat (cB false))]] []:=
 StH.trans (StH.tup1 (l':=[.agg [.any,.any],.one (.dat (cB false))]) (.cons (.agg (.cons (.any _) (.cons (.any _) .nil))) (.cons (.refl _) .nil))) (by
  have:=StH.cutB (Γ:=Γ) (e:=[]) (σ:=[SV.tup [.agg [.any,.any],.one (.dat (cB false))]]) (η:=η) 0 (Nat.le_refl _) (by unfold x2g;rfl)
  exact this)
theorem ysl (l:List HC) (T:Option TypeId):z0y (.box l T)=l.flatMap yj9:=rfl
theorem zsq (c:Cell) (k:Nat) (T:Option TypeId):z0y (.arr c k T)=[]:=rfl
theorem v2a:z0y .dead=[]:=rfl
attribute [go_sem] x2g vp6 yj9 zli ysl zsq v2a vg7 List.flatMap_cons List.flatMap_nil List.all_append
attribute [go_sem 20000] x5y xn0
def rV (V:List (ByteArray×Dm)):List Vr->Option (List (ByteArray×Dm))
 | []=>some V
 | v::l=>bif !isName v.name||isWord v.name||!zmf v.d then none else rV (updF V v.name v.d) l
def rT (V T:List (ByteArray×Dm)):List Tb->Option (List (ByteArray×Dm))
 | []=>some T
 | t::l=>bif (ycr V t.name).isSome||decide (¬(zte t.unit).2=0)||!zi4 (fun s=>(zte s).2) t||isWord t.name then none else rT V (updF T t.name (dmO (zte t.unit).1)) l
def yka (vs:List Vr) (ms:List Tb):Option (List (ByteArray×Dm)×List (ByteArray×Dm)):=match rV [] vs with
 | none=>none
 | some V=>match rT V [] ms with
  | none=>none
  | some T=>bif decide ((V.length:Int)=vs.length)&&decide ((T.length:Int)=ms.length) then some (V,T) else none
def z1w:Option (List (ByteArray×Dm)×List (ByteArray×Dm))->List SB
 | none=>[]
 | some p=>[mE p.1,mE p.2]
def vef:Option (List (ByteArray×Dm)×List (ByteArray×Dm))->SV
 | none=>.tup [.agg [.any,.any],.one (.dat (cB false))]
 | some _=>.tup [.agg [.mp 0,.mp 1],.one (.dat (cB true))]
theorem w7v (V T:List (ByteArray×Dm)) (a d:SB) (b:Bool):StH Γ [] [SV.tup [.agg [.mp 1,.mp 2],.one (.dat (cB b))]] [a,mE V,mE T,d] [SV.tup [.agg [.mp 0,.mp 1],.one (.dat (cB b))]] [mE V,mE T]:=by
 have e1:swL 0 1 [a,mE V,mE T,d]=[mE V,swSB 0 1 a,mE T,swSB 0 1 d]:=by
  show [swSB 0 1 (mE V),swSB 0 1 a,swSB 0 1 (mE T),swSB 0 1 d]=_;rw [x5y,x5y]
 have e2:swL 1 2 [mE V,swSB 0 1 a,mE T,swSB 0 1 d]=[mE V,mE T,swSB 1 2 (swSB 0 1 a),swSB 1 2 (swSB 0 1 d)]:=by
  show [swSB 1 2 (mE V),swSB 1 2 (mE T),swSB 1 2 (swSB 0 1 a),swSB 1 2 (swSB 0 1 d)]=_;rw [x5y,x5y]
 have h1:=StH.xn1 (Γ:=Γ) (e:=[]) (σ:=[SV.tup [.agg [.mp 1,.mp 2],.one (.dat (cB b))]]) (η:=[a,mE V,mE T,d]) (i:=0) (j:=1) (by decide) (by decide) (by simp) (by simp);have h2:=StH.xn1 (Γ:=Γ) (e:=[]) (σ:=[SV.tup [.agg [.mp 0,.mp 2],.one (.dat (cB b))]]) (η:=[mE V,swSB 0 1 a,mE T,swSB 0 1 d]) (i:=1) (j:=2) (by decide) (by decide) (by simp) (by simp)
 have h3:=StH.cutB (Γ:=Γ) (e:=[]) (σ:=[SV.tup [.agg [.mp 0,.mp 1],.one (.dat (cB b))]]) (η:=[mE V,mE T,swSB 1 2 (swSB 0 1 a),swSB 1 2 (swSB 0 1 d)]) 2 (by decide) (by
  unfold x2g;show (_&&([mE V,mE T].all fun x=>(z0y x).all fun b=>Nat.blt b 2))=true
  simp only [List.all_cons,zli,List.all_nil];rfl)
 rw [e1] at h1;rw [e2] at h2;exact h1.trans (h2.trans h3)
structure Tb.Sm (t:Tb):Prop where
 n:t.name.size<=1073741824
 u:t.unit.size<=1073741824
 r:t.rows.length<=1073741824
theorem y7k (vs:List Vr) (ms:List Tb) (hv:vs.length<=1073741824) (hm:ms.length<=1073741824) (hvn:∀ v∈vs,v.name.size<=1073741824) (hms:∀ t∈ms,t.Sm) :
 vfe Γ prog 57 [] [.one (.dat (.sl 7 (vs.map Vr.C))),.one (.dat (.sl 3 (ms.map Tb.C)))] (z1w (yka vs ms)) (vef (yka vs ms)):=by
 refine vfe.run [] Go.Proofs.Tryz.func57 rfl rfl ?_;simp only [Go.Proofs.Tryz.f57];refine hgR ?_;refine y55 [0,1,4,6,18,19] (fun p:Nat×List (ByteArray×Dm)=>[(20,.one (.dat (cI p.1)))]) (fun p=>[.box [.dat (.raw (.map none)),.dat (.raw (.map none))] (some 109),mE p.2,mE [],.box [.mp 1,.mp 2] (some 109)])
  (fun p=>p.1<=vs.length/\rV [] vs=rV p.2 (vs.drop p.1)) (fun p=>vs.length-p.1) (0,[]) ⟨Nat.zero_le _,rfl⟩ ?_ ?_
 . refine hg ?_;exact StH.same svl rfl
 rintro ⟨i,V⟩ ⟨h1,h2⟩;simp only at h1 h2;refine hg ?_;refine vnx (fun hlt _=>?_) (fun hlt _=>?_)
 . have hlt' : i < vs.length := by omega
   have hy:=hvn _ (w4t hlt');rw [xqz hlt',rV] at h2;refine hg ?_
   have bad:rV [] vs=none->yka vs ms=none:=fun h=>by unfold yka;rw [h]
   repeat' ((first | refine hfk ?_ ?_<;>intros | refine hik ?_ | with_reducible first | refine v6l (vv6 _ (by omega)) ?_ | refine vgi (vv6 _ (by omega)) ?_ | refine v6l (v7c _) ?_ | refine vgi (v7c _) ?_ | refine v6l (ygx _) ?_ | refine vgi (ygx _) ?_)<;>refine hgS ?_)
   all_goals first
    | (rw [bad (by rw [h2];(refine bsE ?_;try exact trivial))];exact wvc)
    | (refine ⟨(i+1,updF V (vs.getD i default).name (vs.getD i default).d),⟨by dsimp only;omega,rfl⟩,by dsimp only;omega,?_⟩
       refine StH.cutN [0,1,4,6,18,19,20] 4 rfl ?_ ?_
       . refine hg ?_;exact trivial
       exact StH.same svl rfl)
 . have hV:rV [] vs=some V:=by rw [h2,List.drop_eq_nil_of_le (by omega)];rfl
   clear h2 h1 hlt
   have bad:rT V [] ms=none->yka vs ms=none:=fun h=>by unfold yka;rw [hV];simp only [h]
   refine hg ?_;refine y55 [0,1,4,6,47,48] (fun p:Nat×List (ByteArray×Dm)=>[(49,.one (.dat (cI p.1)))]) (fun p=>[.box [.dat (.raw (.map none)),.dat (.raw (.map none))] (some 109),mE V,mE p.2,.box [.mp 1,.mp 2] (some 109)])
    (fun p=>p.1<=ms.length/\rT V [] ms=rT V p.2 (ms.drop p.1)) (fun p=>ms.length-p.1) (0,[]) ⟨Nat.zero_le _,rfl⟩ ?_ ?_
   . refine hg ?_;exact StH.same svl rfl
   rintro ⟨j,T⟩ ⟨h1,h2⟩;simp only at h1 h2;refine hg ?_;refine vnx (fun hlt _=>?_) (fun hlt _=>?_)
   . have hlt':j<ms.length:=by omega
     have hy:=hms _ (w4t hlt');rw [xqz hlt',rT] at h2;refine hg ?_;refine v6l (vqa _ hy.u) ?_
     cases hl:ycr V (ms.getD j default).name with
     | none =>
      rw [hl] at h2;refine hg1 @hl ?_
      repeat' ((first | refine hfk ?_ ?_<;>intros | refine hik ?_ | with_reducible first | refine v6l (vv4 _ hy.n hy.u hy.r) ?_ | refine vgi (vv4 _ hy.n hy.u hy.r) ?_ | refine v6l (v7c _) ?_ | refine vgi (v7c _) ?_)<;>refine hgS ?_)
      all_goals first
       | (rw [bad (by rw [h2];((conv=>simp only [Bool.and_true,Bool.true_and,Bool.and_false,Bool.false_and,Bool.or_true,Bool.true_or,Bool.or_false,Bool.false_or,Bool.not_true,Bool.not_false,decide_true,decide_false,not_true_eq_false,not_false_eq_true,wgp,if_true,if_false,Bool.and_self,Bool.or_self,cond_true,cond_false,List.length_map,ne_eq,Int.reduceEq,Int.reduceLT,Int.reduceLE, *,Option.isSome])<;>try exact trivial))];exact wvc)
       | (refine ⟨(j+1,updF T (ms.getD j default).name (dmO (zte (ms.getD j default).unit).1)),⟨by dsimp only;omega,by (try rw [h2]);((conv=>simp only [Bool.and_true,Bool.true_and,Bool.and_false,Bool.false_and,Bool.or_true,Bool.true_or,Bool.or_false,Bool.false_or,Bool.not_true,Bool.not_false,decide_true,decide_false,not_true_eq_false,not_false_eq_true,wgp,if_true,if_false,Bool.and_self,Bool.or_self,cond_true,cond_false,List.length_map,ne_eq,Int.reduceEq,Int.reduceLT,Int.reduceLE, *,Option.isSome])<;>try exact trivial)⟩,by dsimp only;omega,?_⟩
          refine StH.cutN [0,1,4,6,47,48,49] 4 rfl ?_ ?_
          . refine hg ?_;exact trivial
          exact StH.same svl rfl)
     | some d=>
      rw [hl] at h2;refine hg1 @hl ?_
      repeat' ((first | refine hfk ?_ ?_<;>intros | refine hik ?_ | with_reducible first | refine v6l (vv4 _ hy.n hy.u hy.r) ?_ | refine vgi (vv4 _ hy.n hy.u hy.r) ?_ | refine v6l (v7c _) ?_ | refine vgi (v7c _) ?_)<;>refine hgS ?_)
      all_goals
       rw [bad (by rw [h2];((conv=>simp only [Bool.and_true,Bool.true_and,Bool.and_false,Bool.false_and,Bool.or_true,Bool.true_or,Bool.or_false,Bool.false_or,Bool.not_true,Bool.not_false,decide_true,decide_false,not_true_eq_false,not_false_eq_true,wgp,if_true,if_false,Bool.and_self,Bool.or_self,cond_true,cond_false,List.length_map,ne_eq,Int.reduceEq,Int.reduceLT,Int.reduceLE, *,Option.isSome])<;>try exact trivial))];exact wvc
   . have hT:rT V [] ms=some T:=by rw [h2,List.drop_eq_nil_of_le (by omega)];rfl
     clear h2 h1 hlt bad;refine hg ?_
     repeat' ((first | refine hfk ?_ ?_<;>intros | refine hik ?_)<;>refine hgS ?_)
     . rename_i hlv hld;by_cases hlt:(T.length:Int)=ms.length
       . have e:yka vs ms=some (V,T):=by unfold yka;rw [hV];simp only [hT];rw [decide_eq_true hlt,hld];rfl
         rw [e,decide_eq_true hlt];exact w7v V T _ _ true
       . have e:yka vs ms=none:=by unfold yka;rw [hV];simp only [hT];rw [decide_eq_false hlt,Bool.and_false];rfl
         rw [e,decide_eq_false hlt];exact wvc
     . rename_i hlv hld
       have e:yka vs ms=none:=by unfold yka;rw [hV];simp only [hT];rw [hld];rfl
       rw [e];exact wvc
def ofF (x:Ex) (vs:List Vr) (ms:List Tb):Ty×Int:=bif !xub x||x.xi4 then (Ty.zero,2) else match yka vs ms with
 | none=>(Ty.zero,1)
 | some p=>x.ty p.1 p.2
theorem yf0 (x:Ex) (vs:List Vr) (ms:List Tb) (hx:x.Sm) (hv:vs.length<=1073741824) (hm:ms.length<=1073741824) (hvn:∀ v∈vs,v.name.size<=1073741824) (hms:∀ t∈ms,t.Sm) :
 CallsD Γ prog 27 [.agg (exC x),.one (.sl 7 (vs.map Vr.C)),.one (.sl 3 (ms.map Tb.C))] (tyR (ofF x vs ms)):=by
 have hr:=y7k (Γ:=Γ) vs ms hv hm hvn hms;refine CallsD.run [] Go.Proofs.Tryz.func27 rfl rfl rfl ?_;simp only [Go.Proofs.Tryz.f27];refine hgR ?_
 repeat' ((first | refine hfk ?_ ?_<;>intros | refine hik ?_ | with_reducible first | refine v6l (xz2 x hx) ?_ | refine vgi (xz2 x hx) ?_ | refine v6l (zfm x hx) ?_ | refine vgi (zfm x hx) ?_)<;>refine hgS ?_)
 . refine lf1 @ofF.eq_def ?_;first | exact trivial | rfl
 . rename_i hr1 hc1
   have hsh:x.shaped=true:=by unfold xub at hr1;rw [Bool.and_eq_true] at hr1;exact hr1.2
   cases hrd:yka vs ms with
   | none=>
    rw [hrd] at hr
    have hr2:∀ a b:SB,vfe Γ prog 57 [a,b] [.one (.dat (.sl 7 (vs.map Vr.C))),.one (.dat (.sl 3 (ms.map Tb.C)))] [a,b] (.tup [.agg [.any,.any],.one (.dat (cB false))]):=fun a b=>vfe.at [] (η:=[a,b]) hr (by decide) rfl rfl rfl
    refine xc5 (hr2 _ _) rfl ?_;refine hg ?_
    repeat' ((first | refine hfk ?_ ?_<;>intros | refine hik ?_)<;>refine hgS ?_)
    exact RLe.ofEq (by simp only [ofF,hr1,hc1,hrd];rfl)
   | some p=>
    obtain ⟨V,T⟩:=p;rw [hrd] at hr
    have hr2:∀ a b:SB,vfe Γ prog 57 [a,b] [.one (.dat (.sl 7 (vs.map Vr.C))),.one (.dat (.sl 3 (ms.map Tb.C)))] [a,b,mE V,mE T] (.tup [.agg [.mp 2,.mp 3],.one (.dat (cB true))]):=fun a b=>by
     have h:=vfe.at [] (η:=[a,b]) hr (by decide) rfl rfl rfl
     have e:putR [] [a,b] (z1w (some (V,T)))=[a,b,mE V,mE T]:=by
      show [a,b,rnSB _ (mE V),rnSB _ (mE T)]=_;rw [xn0,xn0]
     rw [e] at h;exact h
    refine xc5 (hr2 _ _) rfl ?_;refine hg ?_;refine xwg (vfe.ro [2,3] (cOf V T x hx hsh hc1) (w1l V T) (by decide) rfl rfl) ?_;refine hg ?_;exact RLe.ofEq (by simp only [ofF,hr1,hc1,hrd];rfl)
 . refine lf1 @ofF.eq_def ?_;first | exact trivial | rfl
end Go.Hp.T
namespace Go.Hp.T
open Go Go.RowKit Go.Slot Go.Hp Go.Slot.T
open Go.Proofs.Tryz (prog)
set_option maxRecDepth 10000
set_option maxHeartbeats 4000000
variable {Γ:List (Nat×List Cell)}
def Dm.neg (x:Dm):Dm:=⟨0-x.a,0-x.b,0-x.c,0-x.d,0-x.e,0-x.f⟩
end Go.Hp.T
namespace Go.Slot.T
open Go Go.RowKit Go.Slot
open Go.Proofs.Tryz (prog)
set_option maxRecDepth 10000
set_option maxHeartbeats 4000000
theorem zgb (L:List Int) (i:Nat) (_hL:L.length<=1099511627776) (hi:(i:Int)<=1099511627776) :
 yn2 prog 189 [.one (.ints .i64 L),.one (.raw (.int .i64 i))] (.one (.raw (.int .i64 (L.getD i 0)))):=by
 refine yn2.run [] Go.Proofs.Tryz.func189 rfl rfl ?_;simp only [Go.Proofs.Tryz.f189];refine rgR ?_;refine z08 (fun h=>?_) (fun h=>?_)
 . refine rg ?_;exact ⟨_,rfl,.one (.refl _)⟩
 . refine rg ?_;exact ⟨_,rfl,by rw [vv7 (by omega)];exact .one (.refl _)⟩
theorem vg8 (L:List Int) (hL:L.length<=1099511627776):yn2 prog 185 [.one (.ints .i64 L)] (.one (.ints .i64 (xun L))):=by
 refine yn2.run [] Go.Proofs.Tryz.func185 rfl rfl ?_;simp only [Go.Proofs.Tryz.f185];refine rgR ?_;refine vxs [0,2] (fun n:Nat=>[(3,.one (.raw (.int .i64 n)))])
  (fun n=>n<=L.length/\z4o L L.length=z4o L n) (fun n=>n) L.length ⟨Nat.le_refl _,rfl⟩ ?_ ?_
 . refine rg ?_;exact StLe.weaken (by repeat' first | exact .nil | refine .cons (by first | exact .refl _ | exact .any _) ?_) rfl
 rintro n ⟨hn,ht⟩;refine rg ?_
 have fin:z4o L L.length=n->xun L=L.take n:=fun h=>by unfold xun;rw [h]
 refine z4u (fun h=>?_) (fun h=>?_)
 . obtain ⟨m,rfl⟩:∃ m,n=m+1:=⟨n-1,by omega⟩
   have e:((m+1:Nat):Int)-1=(m:Nat):=by omega
   have h':=decide_eq_true h;refine rg2 @h' @e ?_;refine z08 (fun h2=>?_) (fun h2=>?_)
   . refine rg1 @e ?_;exact ⟨m,⟨by omega,by rw [ht];simp only [z4o];rw [if_pos h2]⟩,by omega,StLe.weaken (by repeat' first | exact .nil | refine .cons (by first | exact .refl _ | exact .any _) ?_) rfl⟩
   . have hfin:z4o L L.length=m+1:=by rw [ht];simp only [z4o];rw [if_neg h2]
     rw [fin hfin]
     conv=>simp (maxSteps:=2000000) (disch:=omega) only [go_sem,Nat.reduceAdd,Nat.reduceSub,Nat.reduceMul,Int.reduceToNat,Nat.reduceEqDiff,Nat.reduceBEq,Nat.reduceBneDiff,e,Nat.sub_zero,List.length_take]
     exact ⟨_,rfl,.own⟩
 . have h0:n=0:=by omega
   subst h0;rw [fin (by rw [ht];rfl)]
   conv=>simp (maxSteps:=2000000) (disch:=omega) only [go_sem,Nat.reduceAdd,Nat.reduceSub,Nat.reduceMul,Int.reduceToNat,Nat.reduceEqDiff,Nat.reduceBEq,Nat.reduceBneDiff,h,Nat.sub_zero,List.length_take,Int.reduceLT,decide_false]
   exact ⟨_,rfl,.one (.refl _)⟩
theorem vla (s:Int) (L:List Int) (hL:L.length<=1099511627776) :
 yn2 prog 143 [.one (.raw (.int .i64 s)),.one (.ints .i64 L)] (.agg (bigC (if xun L=[] then 0 else s) (xun L))):=by
 refine yn2.run [] Go.Proofs.Tryz.func143 rfl rfl ?_;simp only [Go.Proofs.Tryz.f143];refine rgR ?_;refine v1h (vg8 L hL) ?_;refine rg ?_;refine z08 (fun h=>?_) (fun h=>?_)
 . have h0:xun L=[]:=by have:(xun L).length=0:=(by omega);simpa using this
   refine rg ?_;refine ⟨_,rfl,?_⟩;rw [h0];exact .one (.agg (.cons (.refl _) (.cons (.ysc _) .nil)))
 . have h0:xun L≠[]:=fun e=>h (by rw [e];rfl)
   refine rg ?_;refine ⟨_,rfl,?_⟩
   try rw [if_neg h0]
   exact .one (.refl _)
theorem z4q (s z:Int) (hz:(dig z.natAbs).length<=1073741824) (h:(s=1/\0<=z)\/(s = -1/\z<=0)\/z=0) :
 yn2 prog 143 [.one (.raw (.int .i64 s)),.one (.ints .i64 (dig z.natAbs))] (.agg [.raw (.int .i64 (sg z)),.ints .i64 (dig z.natAbs)]):=by
 have h':=vla s (dig z.natAbs) (by omega);unfold bigC at h';rw [vam h] at h';exact h'
end Go.Slot.T
