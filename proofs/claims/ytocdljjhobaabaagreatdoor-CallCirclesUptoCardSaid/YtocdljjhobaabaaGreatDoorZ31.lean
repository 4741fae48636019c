/- The proof, part Z31: 1i, 1l, 1n, 1o, Pu, Ii. -/
import Derived.Test.YtocdljjhobaabaaGreatDoorZ30
import Derived.Test.YtocdljjhobaabaaGreatDoorZ28
import Derived.Test.YtocdljjhobaabaaGreatDoorZ29
import Derived.Test.YtocdljjhobaabaaGreatDoorZ22
namespace Go.Hp.T
open Go Go.RowKit Go.Slot Go.Hp Go.Slot.T
open Go.Proofs.Tryz (prog)
attribute [local irreducible] hide RH
set_option maxRecDepth 10000
set_option maxHeartbeats 8000000
variable {Γ:List (Nat×List Cell)}
theorem zsx (cs:List Cell) (T:Option TypeId) (f:FuncId):∀ r:Nat->Nat,(∀ i,i<(cloB cs T f).length->r i=i)->(cloB cs T f).map (rnSB r)=cloB cs T f:=fun r hr=>by
 show [rnSB r (.box (cs.map .dat) T),SB.clo f [.one (.ptr (r 0) 0)]]=_;rw [wj5,hr 0 (by show 0<2;decide)]
theorem x7h (cs:List Cell) (T:Option TypeId) (g:FuncId) (p:Ex->Bool):∀ x:Ex,x.Sm->(∀ y,Ex.Nd y x->xgj Γ prog g (cloB cs T g) [.agg ((exC y).map .dat),.one (.ptr 0 0)] (cloB cs T g) (.one (.dat (cB (p y)))))->
 xgj Γ prog 23 (cloB cs T g) [.agg ((exC x).map .dat),.one (.fnr 1)] (cloB cs T g) (.one (.dat (cB (x.anyN p)))):=by
 refine Ex.ind (fun x ih hx h=>?_);have hl:=hx.len
 have h1:∀ y∈x.args,xgj Γ prog 41 (somB cs T g x) [.agg ((exC y).map .dat),.one (.ptr 3 0)] (somB cs T g x) (.one (.dat (cB (y.anyN p)))):=fun y hy=>by
  have hc:=ih y hy (hx.arg y hy) (fun z hz=>h z (.arg hy hz));generalize y.anyN p=b at *;refine xgj.run [] Go.Proofs.Tryz.func41 rfl rfl ?_;simp only [Go.Proofs.Tryz.f41];refine hgR ?_
  repeat' ((first | refine hfk ?_ ?_<;>intros | refine hik ?_)<;>refine hgS ?_)
  refine wq6 (xgj.preN (ξ:=[.box ((exC x).map .dat) (some 25),.box [.fnr 1] (some 33),.clo 41 [.one (.ptr 3 0)],.box ((exC y).map .dat) (some 25)]) hc (zsx _ _ _) rfl rfl) ?_;clear hc;refine hg ?_
  repeat' ((first | refine hfk ?_ ?_<;>intros | refine hik ?_)<;>refine hgS ?_)
  exact StH.yri rfl (by kernel_rfl) rfl
 have h2:=w7d (Γ:=Γ) cs T g x x.args (Ex.anyN p) hl h1;have hq:=h x .here;rw [Ex.x9i];generalize x.args.any (Ex.anyN p)=b at *;generalize p x=a at *;clear h1 ih h;refine xgj.run [(3,[.clo])] Go.Proofs.Tryz.func23 rfl rfl ?_;simp only [Go.Proofs.Tryz.f23];refine hgR ?_
 repeat' ((first | refine hfk ?_ ?_<;>intros | refine hik ?_)<;>refine hgS ?_)
 refine wq6 (xgj.preN (ξ:=[.box ((exC x).map .dat) (some 25),.box [.fnr 1] (some 33)]) hq (zsx _ _ _) rfl rfl) ?_;clear hq;refine hg ?_
 cases a with
 | true=>
  refine hg ?_
  repeat' ((first | refine hfk ?_ ?_<;>intros | refine hik ?_)<;>refine hgS ?_)
  exact StH.yri rfl (by kernel_rfl) rfl
 | false=>
  refine hg ?_
  repeat' ((first | refine hfk ?_ ?_<;>intros | refine hik ?_)<;>refine hgS ?_)
  refine wq6 h2 ?_;clear h2;refine hg ?_
  repeat' ((first | refine hfk ?_ ?_<;>intros | refine hik ?_)<;>refine hgS ?_)
  exact StH.yri rfl (by kernel_rfl) rfl
theorem zt4 (s:ByteArray) (hs:s.size<=1073741824):CallsD Γ prog 76 [.one (cS s)] (.one (cB (isNamed s))):=by
 refine CallsD.run [] Go.Proofs.Tryz.func76 rfl rfl rfl ?_;simp only [Go.Proofs.Tryz.f76];refine hgR ?_
 repeat' ((first | refine hfk ?_ ?_<;>intros | refine hik ?_ | with_reducible first | refine v47 (wam s (by omega)) ?_ | refine vrf (wam s (by omega)) ?_ | refine v47 (xvd s) ?_ | refine vrf (xvd s) ?_)<;>refine hgS ?_)
 all_goals refine lf1 @isNamed.eq_def ?_;first | exact trivial | rfl
theorem zwt (q:Prm) (T:Option TypeId) (hq:q.name.size<=1073741824/\q.unit.size<=1073741824):xgj Γ prog 77 [.box [.dat (.raw (.func (.func 76) #[] #[]))] T] [.agg ((prmC q).map .dat),.one (.ptr 0 0)] [.box [.dat (.raw (.func (.func 76) #[] #[]))] T] (.one (.dat (cB (oddP q)))):=by
 obtain ⟨t,ht⟩:∃ t,CallsD Γ prog 73 [.one (cS q.unit)] (.tup [.one (cS t),.one (cB (x6w q.unit))]):=ytc q.unit (by omega);have hn:=zt4 (Γ:=Γ) q.name hq.1;unfold oddP;generalize x6w q.unit=a at *;generalize isNamed q.name=b at *;refine xgj.run [] Go.Proofs.Tryz.func77 rfl rfl ?_;simp only [Go.Proofs.Tryz.f77];refine hgR ?_
 repeat' ((first | refine hfk ?_ ?_<;>intros | refine hik ?_ | with_reducible first | refine v47 (ht) ?_ | refine vrf (ht) ?_ | refine v47 (hn) ?_ | refine vrf (hn) ?_)<;>refine hgS ?_)
 all_goals exact StH.done 1 rfl (by kernel_rfl) (by simp [*]) rfl
theorem y0d (f:Fnc) (hf:f.Sm):CallsD Γ prog 50 [.agg (fncC f)] (.one (cB (wtj f))):=by
 have h1:=zt4 (Γ:=Γ) f.name hf.s;have h2:=xeg (Γ:=Γ) [.raw (.func (.func 76) #[] #[])] (some 124) 77 f.params oddP hf.len (fun y hy=>zbu (fun r=>by rw [List.map_map];rfl) (zwt y _ (hf.p y hy)));have h3:=x22 (Γ:=Γ) f.body hf.b;unfold wtj;generalize isNamed f.name=a at *;generalize f.params.any oddP=b at *;generalize z7n f.body=c at *;have hl:=hf.len;clear hf;refine CallsD.run [(2,[.clo])] Go.Proofs.Tryz.func50 rfl rfl rfl ?_;simp only [Go.Proofs.Tryz.f50];refine hgR ?_
 repeat' ((first | refine hfk ?_ ?_<;>intros | refine hik ?_ | with_reducible first | refine v47 (h1) ?_ | refine vrf (h1) ?_ | refine v47 (h3) ?_ | refine vrf (h3) ?_)<;>refine hgS ?_)
 . refine xmn [1,2] h2 rfl (by decide) rfl rfl rfl ?_;refine hg ?_
   repeat' ((first | refine hfk ?_ ?_<;>intros | refine hik ?_ | with_reducible first | refine v47 (h3) ?_ | refine vrf (h3) ?_)<;>refine hgS ?_)
   all_goals exact RLe.ofEq (by simp [*])
 all_goals exact RLe.ofEq (by simp [*])
theorem wpx (F:List Fnc) (hF:F.length<=1073741824) (T:Option TypeId) (y:Ex):xgj Γ prog 42 [.box [.dat (.sl 7 (F.map Fnc.C))] T] [.agg ((exC y).map .dat),.one (.ptr 0 0)] [.box [.dat (.sl 7 (F.map Fnc.C))] T] (.one (.dat (cB (x5q F y)))):=by
 have h:=vzr (Γ:=Γ) F y.name hF;unfold x5q;generalize findF F y.name=j at *;refine xgj.run [] Go.Proofs.Tryz.func42 rfl rfl ?_;simp only [Go.Proofs.Tryz.f42];refine hgR ?_
 repeat' ((first | refine hfk ?_ ?_<;>intros | refine hik ?_ | with_reducible first | refine v47 (h) ?_ | refine vrf (h) ?_)<;>refine hgS ?_)
 all_goals exact StH.done 1 rfl (by kernel_rfl) (by simp [*]) rfl
theorem weq (F:List Fnc):xgj Γ prog 24 [] [.one (.dat (.sl 7 (F.map Fnc.C)))] (cloB [.sl 7 (F.map Fnc.C)] (some 22) 42) (.one (.fnr 1)):=by
 refine xgj.run [(1,[.clo])] Go.Proofs.Tryz.func24 rfl rfl ?_;simp only [Go.Proofs.Tryz.f24];refine hgR ?_
 repeat' ((first | refine hfk ?_ ?_<;>intros | refine hik ?_)<;>refine hgS ?_)
 exact StH.same svl rfl
theorem yi3 (F:List Fnc) (hF:F.length<=1073741824) (hP:∀ f∈F,f.params.length<=1073741824) (T:Option TypeId) (y:Ex) (_hl:y.args.length<=1073741824) (hy:y.op=3->0<=findF F y.name):xgj Γ prog 44 [.box [.dat (.sl 7 (F.map Fnc.C))] T] [.agg ((exC y).map .dat),.one (.ptr 0 0)] [.box [.dat (.sl 7 (F.map Fnc.C))] T] (.one (.dat (cB (zs4 F y)))):=by
 have h:=vzr (Γ:=Γ) F y.name hF
 have hlt:y.op=3->(findF F y.name).toNat<F.length:=fun e=>by
  have:=hy e
  cases F with
  | nil=>exact absurd this (by show ¬(0:Int)<=-1;decide)
  | cons f F=>exact x4n (i:=0) (by simp) _
 unfold zs4;generalize findF F y.name=j at *;by_cases h3:y.op=3
 . have h0:=hy h3;have h1:=hlt h3;have hp:=hP _ (xdq h1);have d3:decide (y.op=3)=true:=decide_eq_true h3;rw [d3];clear hP hy hlt h3;refine xgj.run [] Go.Proofs.Tryz.func44 rfl rfl ?_;simp only [Go.Proofs.Tryz.f44];refine hgR ?_
   repeat' ((first | refine hfk ?_ ?_<;>intros | refine hik ?_ | with_reducible first | refine v47 (h) ?_ | refine vrf (h) ?_)<;>refine hgS ?_)
   all_goals first
    | exact StH.done 1 rfl (by kernel_rfl) rfl rfl
    | (exfalso;simp_all;done)
 . have d3:decide (y.op=3)=false:=decide_eq_false h3;rw [d3];clear hP hy hlt h3;refine xgj.run [] Go.Proofs.Tryz.func44 rfl rfl ?_;simp only [Go.Proofs.Tryz.f44];refine hgR ?_
   repeat' ((first | refine hfk ?_ ?_<;>intros | refine hik ?_ | with_reducible first | refine v47 (h) ?_ | refine vrf (h) ?_)<;>refine hgS ?_)
   all_goals first
    | exact StH.done 1 rfl (by kernel_rfl) (by simp [*]) rfl
    | (exfalso;simp_all;done)
theorem wog (F:List Fnc):xgj Γ prog 25 [] [.one (.dat (.sl 7 (F.map Fnc.C)))] (cloB [.sl 7 (F.map Fnc.C)] (some 22) 44) (.one (.fnr 1)):=by
 refine xgj.run [(1,[.clo])] Go.Proofs.Tryz.func25 rfl rfl ?_;simp only [Go.Proofs.Tryz.f25];refine hgR ?_
 repeat' ((first | refine hfk ?_ ?_<;>intros | refine hik ?_)<;>refine hgS ?_)
 exact StH.same svl rfl
theorem wxp (f:Fnc) (hf:f.Sm) (T:Option TypeId) (y:Ex):xgj Γ prog 53 [.box ((fncC f).map .dat) T] [.agg ((exC y).map .dat),.one (.ptr 0 0)] [.box ((fncC f).map .dat) T] (.one (.dat (cB (znq f y)))):=by
 have h:=yqi (Γ:=Γ) f y.name hf;unfold znq;generalize wcs f y.name=j at *;clear hf;refine xgj.run [] Go.Proofs.Tryz.func53 rfl rfl ?_;simp only [Go.Proofs.Tryz.f53];refine hgR ?_
 repeat' ((first | refine hfk ?_ ?_<;>intros | refine hik ?_ | with_reducible first | refine v47 (h) ?_ | refine vrf (h) ?_)<;>refine hgS ?_)
 all_goals exact StH.done 1 rfl (by kernel_rfl) (by simp [*]) rfl
theorem vzn (q:Prm) (hq:q.unit.size<=1073741824):CallsD Γ prog 52 [.agg (prmC q)] (.one (cB (ziv q))):=by
 have h:=z9l (Γ:=Γ) q.unit hq;unfold ziv;generalize whw q.unit=r at *;refine CallsD.run [] Go.Proofs.Tryz.func52 rfl rfl rfl ?_;simp only [Go.Proofs.Tryz.f52];refine hgR ?_
 repeat' ((first | refine hfk ?_ ?_<;>intros | refine hik ?_ | with_reducible first | refine v47 (h) ?_ | refine vrf (h) ?_)<;>refine hgS ?_)
 all_goals refine lfE ?_;first | exact trivial | rfl
theorem wfa (l:List Prm) (f:FuncId) (p:Prm->Bool) (hl:l.length<=1073741824) (h:∀ y∈l,CallsD Γ prog f [.agg (prmC y)] (.one (cB (p y)))) :
 CallsD Γ prog 78 [.one (.sl 2 (l.map Prm.C)),fN f] (.one (cI (idxF p l))):=by
 refine CallsD.run [] Go.Proofs.Tryz.func78 rfl rfl rfl ?_;simp only [Go.Proofs.Tryz.f78];refine hgR ?_;refine yxw [0,1,7] (fun i:Nat=>[(8,.one (.dat (cI i)))]) (fun _=>[]) (fun i=>i<=l.length/\∀ j,j<i->p (l.getD j default)=false) (fun i=>l.length-i) 0 ⟨Nat.zero_le _,fun j hj=>by omega⟩ ?_ ?_
 . refine hg ?_;exact StH.same svl rfl
 intro i hi;obtain ⟨hi,hj⟩:=hi;refine hg ?_
 repeat' ((first | refine hfk ?_ ?_<;>intros | refine hik ?_ | with_reducible first | refine v47 (h _ (xdq (show i<l.length by omega))) ?_ | refine vrf (h _ (xdq (show i<l.length by omega))) ?_)<;>refine hgS ?_)
 . rename_i hp;rw [(xjj hi hj).2 (by omega) hp];exact RLe.ofEq rfl
 . rename_i hp;refine ⟨i+1,⟨by omega,fun j hj'=>?_⟩,by omega,StH.same svl rfl⟩
   rcases Nat.lt_or_eq_of_le (Nat.le_of_lt_succ hj') with h2 | h2
   . exact hj j h2
   . rw [h2];exact hp
 . rw [(xjj hi hj).1 (by omega)];exact RLe.ofEq rfl
theorem yyh (l:List Prm) (f:FuncId) (p:Prm->Bool) (hl:l.length<=1073741824) (h:∀ y∈l,CallsD Γ prog f [.agg (prmC y)] (.one (cB (p y)))) :
 CallsD Γ prog 54 [.one (.sl 2 (l.map Prm.C)),fN f] (.one (cB (l.any p))):=by
 have h2:=wfa (Γ:=Γ) l f p hl h;rw [<-z1b];generalize idxF p l=j at *;refine CallsD.run [] Go.Proofs.Tryz.func54 rfl rfl rfl ?_;simp only [Go.Proofs.Tryz.f54];refine hgR ?_
 repeat' ((first | refine hfk ?_ ?_<;>intros | refine hik ?_ | with_reducible first | refine v47 (h2) ?_ | refine vrf (h2) ?_)<;>refine hgS ?_)
 all_goals exact RLe.ofEq rfl
theorem y1n {p:Nat->Bool} {n:Nat}:(List.range (n+1)).any p=((List.range n).any p||p n):=by
 rw [List.range_succ,List.any_append];simp
theorem Ex.Sm.nd {x y:Ex} (hx:x.Sm) (h:Ex.Nd y x):y.Sm:=by
 induction h with
 | here=>exact hx
 | arg hz _ ih=>exact ih (hx.arg _ hz)
theorem wyt (F:List Fnc) (i:Nat) (hF:F.length<=1073741824) (hS:∀ f∈F,f.Sm) (hi:i<F.length):CallsD Γ prog 31 [.one (.sl 7 (F.map Fnc.C)),.one (cI i)] (.one (cI (yum F i))):=by
 have hf:=hS _ (xdq hi);have a1:=y0d (Γ:=Γ) _ hf;have a2:=vzr (Γ:=Γ) F (F.getD i default).name hF
 have a3:∀ s,_:=fun s=>yqi (Γ:=Γ) _ s hf
 have a4:=yyh (Γ:=Γ) (F.getD i default).params 52 ziv hf.len (fun y hy=>vzn y (hf.p y hy).2);have a5:=x7h (Γ:=Γ) (fncC (F.getD i default)) (some 38) 53 (znq (F.getD i default)) (F.getD i default).body hf.b (fun y _=>zbu (fun r=>by rw [List.map_map];rfl) (wxp _ hf _ y));have a6:=x7h (Γ:=Γ) [.sl 7 (F.map Fnc.C)] (some 22) 42 (x5q F) (F.getD i default).body hf.b (fun y _=>zbu (fun r=>by rw [List.map_map];rfl) (wpx F hF _ y))
 have a7:(F.getD i default).body.anyN (x5q F)=false->_:=fun hu=>x7h (Γ:=Γ) [.sl 7 (F.map Fnc.C)] (some 22) 44 (zs4 F) (F.getD i default).body hf.b (fun y hy=>zbu (fun r=>by rw [List.map_map];rfl) (yi3 F hF (fun f hf=>(hS f hf).len) _ y (Ex.Sm.nd hf.b hy).len (fun h3=>by
  have:=Ex.vaz hu hy
  unfold x5q at this;rw [decide_eq_true h3,Bool.true_and,decide_eq_false_iff_not] at this
  omega)))
 have hbl:=hf.len;unfold yum zlh;generalize hfe:F.getD i default=f at *;generalize findF F f.name=j at *;generalize f.params.any ziv=b4 at *;generalize f.body.anyN (znq f)=b5 at *;generalize f.body.anyN (x5q F)=b6 at *;generalize f.body.anyN (zs4 F)=b7 at *;generalize wtj f=b1 at *;refine CallsD.run [(13,[.clo]),(16,[.own,.clo,.room 2]),(18,[.own,.clo,.room 2])] Go.Proofs.Tryz.func31 rfl rfl rfl ?_;simp only [Go.Proofs.Tryz.f31];refine hgR ?_;refine hg1 @hfe ?_
 repeat' ((first | refine hfk ?_ ?_<;>intros | refine hik ?_ | with_reducible first | refine v47 (a1) ?_ | refine vrf (a1) ?_ | refine v47 (a2) ?_ | refine vrf (a2) ?_)<;>refine hgS ?_)
 . exact RLe.ofEq rfl
 refine yxw [0,1,5,25,26] (fun p:Nat×Bool=>[(6,.one (.dat (cB p.2))),(27,.one (.dat (cI p.1)))]) (fun _=>[.box ((fncC f).map .dat) (some 38)])
  (fun p=>p.1<=f.params.length/\p.2=(decide (j<(i:Int))||(List.range p.1).any fun k=>decide (wcs f (f.params.getD k default).name<(k:Int)))) (fun p=>f.params.length-p.1) (0,decide (j<(i:Int))) ⟨Nat.zero_le _,by simp⟩ ?_ ?_
 . refine hg ?_;exact StH.same svl rfl
 rintro ⟨k,t⟩ ⟨hk,ht⟩;dsimp only at hk ht;refine hg ?_;refine xw4 (fun hlt _=>?_) (fun hlt _=>?_)
 . have hlt':k<f.params.length:=by omega
   have a8:=a3 (f.params.getD k default).name
   have hs:∀ u,u=(t||decide (wcs f (f.params.getD k default).name<(k:Int)))->u=(decide (j<(i:Int))||(List.range (k+1)).any fun k=>decide (wcs f (f.params.getD k default).name<(k:Int))):=fun u hu=>by
    rw [hu,y1n,<-Bool.or_assoc,<-ht]
   generalize hm:wcs f (f.params.getD k default).name=m at *;clear ht a1 a2 a3 a4 a5 a6 a7
   cases t with
   | true=>
    refine hg ?_
    repeat' ((first | refine hfk ?_ ?_<;>intros | refine hik ?_)<;>refine hgS ?_)
    exact ⟨(k+1,true),⟨by dsimp only;omega,hs _ rfl⟩,by dsimp only;omega,StH.back [0,1,5,6,25,26,27] 1 1 1 rfl rfl rfl rfl rfl (by kernel_rfl) (StH.same svl rfl)⟩
   | false=>
    refine hg ?_
    repeat' ((first | refine hfk ?_ ?_<;>intros | refine hik ?_ | with_reducible first | refine v47 (a8) ?_ | refine vrf (a8) ?_)<;>refine hgS ?_)
    all_goals exact ⟨(k+1,decide (m<(k:Int))),⟨by dsimp only;omega,hs _ rfl⟩,by dsimp only;omega,StH.back [0,1,5,6,25,26,27] 1 1 1 rfl rfl rfl rfl rfl (by kernel_rfl) (StH.same svl rfl)⟩
 . have ek:k=f.params.length:=by omega
   subst ek;rw [<-ht];clear ht a1 a2 a3;refine hg ?_
   cases t with
   | true=>
    refine hg ?_
    repeat' ((first | refine hfk ?_ ?_<;>intros | refine hik ?_)<;>refine hgS ?_)
    exact RLe.ofEq (by simp [*])
   | false=>
    refine hg ?_
    repeat' ((first | refine hfk ?_ ?_<;>intros | refine hik ?_ | with_reducible first | refine v47 (a4) ?_ | refine vrf (a4) ?_)<;>refine hgS ?_)
    . exact RLe.ofEq (by simp [*])
    refine vfx [0,1] [] a5 rfl (by decide) rfl rfl rfl rfl ?_
    cases b5 with
    | true=>
     refine hg ?_
     repeat' ((first | refine hfk ?_ ?_<;>intros | refine hik ?_)<;>refine hgS ?_)
     exact RLe.ofEq rfl
    | false=>
     refine hg ?_
     repeat' ((first | refine hfk ?_ ?_<;>intros | refine hik ?_)<;>refine hgS ?_)
     refine vfx [2,3] [(2,.box [.dat (.sl 7 (F.map Fnc.C))] (some 22)),(3,.clo 42 [.one (.ptr 2 0)])] (xgj.vtx 2 (fun ρ M w vs h=>by match vs,h with | [v],h=>exact h) (weq F)) (by rfl) (by decide) (by rfl) (by rfl) (by rfl) (by rfl) ?_;refine hg ?_
     repeat' ((first | refine hfk ?_ ?_<;>intros | refine hik ?_)<;>refine hgS ?_)
     refine vfx [2,3] [] a6 (by rfl) (by decide) (by rfl) (by rfl) (by rfl) (by rfl) ?_
     cases b6 with
     | true=>
      refine hg ?_
      repeat' ((first | refine hfk ?_ ?_<;>intros | refine hik ?_)<;>refine hgS ?_)
      exact RLe.ofEq rfl
     | false=>
      refine hg ?_
      repeat' ((first | refine hfk ?_ ?_<;>intros | refine hik ?_)<;>refine hgS ?_)
      refine vfx [4,5] [(4,.box [.dat (.sl 7 (F.map Fnc.C))] (some 22)),(5,.clo 44 [.one (.ptr 4 0)])] (xgj.vtx 2 (fun ρ M w vs h=>by match vs,h with | [v],h=>exact h) (wog F)) (by rfl) (by decide) (by rfl) (by rfl) (by rfl) (by rfl) ?_;refine hg ?_
      repeat' ((first | refine hfk ?_ ?_<;>intros | refine hik ?_)<;>refine hgS ?_)
      refine vfx [4,5] [] (a7 rfl) (by rfl) (by decide) (by rfl) (by rfl) (by rfl) (by rfl) ?_;refine hg ?_
      repeat' ((first | refine hfk ?_ ?_<;>intros | refine hik ?_)<;>refine hgS ?_)
      all_goals exact RLe.ofEq rfl
end Go.Hp.T
namespace Go.Hp
open Go Go.RowKit Go.Slot
variable {P:Program} {Γ:List (Nat×List Cell)}
theorem xgj.preS {f:FuncId} {ηs ηs' ξ:List SB} {args:List SV} {res:SV} (h:xgj Γ P f ηs args ηs' res) (hl:ηs'.length=ηs.length) (hs:∀ r:Nat->Nat,(∀ i,i<ηs.length->r i=i)->ηs.map (rnSB r)=ηs) (hs':∀ r:Nat->Nat,(∀ i,i<ηs.length->r i=i)->ηs'.map (rnSB r)=ηs')
 (ha:args.map (x09 (atR (List.range ηs.length) (ηs++ξ).length))=args) (hr:rnSV (atR (List.range ηs.length) (ηs++ξ).length) res=res):xgj Γ P f (ηs++ξ) args (ηs'++ξ) res:=by
 have hlt:∀ j∈List.range ηs.length,j<(ηs++ξ).length:=fun j hj=>by
  rw [List.mem_range] at hj;rw [List.length_append];omega
 have hra:∀ i,i<ηs.length->atR (List.range ηs.length) (ηs++ξ).length i=i:=fun i hi=>xbc (by simp [hi])
 have e1:=hs _ hra;have e2:=hs' _ hra
 have hk:=xgj.frame (φ:=List.range ηs.length) (η:=ηs++ξ) List.nodup_range hlt ⟨by simp,fun i x hx=>by
  have hi:i<ηs.length:=(List.getElem?_eq_some_iff.1 hx).1
  have:=congrArg (fun l=>l[i]?) e1
  simp only [List.getElem?_map,hx,Option.map_some,Option.some.injEq] at this
  exact ⟨i,by simp [hi],by rw [this,List.getElem?_append_left hi];exact hx⟩⟩ (by simp [hl]) h
 rw [ha,hr] at hk
 have hp:putR (List.range ηs.length) (ηs++ξ) ηs'=ηs'++ξ:=by
  apply List.ext_getElem?;intro i;by_cases hi:i<ηs.length
  . have hi':i<ηs'.length:=by omega
    have h1:=xjo (φ:=List.range ηs.length) (η:=ηs++ξ) (ηs':=ηs') List.nodup_range hlt (List.getElem?_eq_getElem hi');have h2:=congrArg (fun l=>l[i]?) e2;simp only [List.getElem?_map,List.getElem?_eq_getElem hi',Option.map_some,Option.some.injEq] at h2;rw [hra i hi,h2] at h1;rw [h1,List.getElem?_append_left hi',List.getElem?_eq_getElem hi']
  . by_cases hi2:i<(ηs++ξ).length
    . rw [ygg hi2 (by simpa using hi),List.getElem?_append_right (by omega),List.getElem?_append_right (by omega),hl]
    . rw [List.getElem?_eq_none (by rw [xdx];simp at hi2 ⊢;omega),List.getElem?_eq_none (by rw [List.length_append] at hi2 ⊢;omega)]
 rw [hp] at hk;exact hk
end Go.Hp
namespace Go.Hp.T
open Go Go.RowKit Go.Slot Go.Hp Go.Slot.T
open Go.Proofs.Tryz (prog)
attribute [local irreducible] hide RH
set_option maxRecDepth 10000
set_option maxHeartbeats 8000000
variable {Γ:List (Nat×List Cell)}
abbrev crB (F:List Fnc) (n:Nat):SB:=.box [.dat (.sl 7 (F.map Fnc.C)),.sl 1 1 0 n] (some 81)
abbrev stB (st:List Int):SB:=.arr (.ints .i64 st) 0 none
abbrev thB (F:List Fnc) (n:Nat) (st:List Int):List SB:=[crB F n,stB st,.box [.ptr 0 0] (some 78),.clo 55 [.one (.ptr 2 0)]]
theorem wgy (F:List Fnc) (n:Nat) (st:List Int):∀ r:Nat->Nat,(∀ i,i<(thB F n st).length->r i=i)->(thB F n st).map (rnSB r)=thB F n st:=fun r hr=>by
 show [SB.box [.dat (.sl 7 (F.map Fnc.C)),.sl (r 1) 1 0 n] (some 81),stB st,.box [.ptr (r 0) 0] (some 78),.clo 55 [.one (.ptr (r 2) 0)]]=_;rw [hr 0 (by show 0<4;decide),hr 1 (by show 1<4;decide),hr 2 (by show 2<4;decide)]
abbrev thS (F:List Fnc) (n:Nat) (x:Ex) (st:List Int):List SB:=[crB F n,stB st,.box [.ptr 0 0] (some 78),.clo 55 [.one (.ptr 2 0)],.box ((exC x).map .dat) (some 25),.box [.fnr 3] (some 33),.clo 41 [.one (.ptr 5 0)]]
section
variable {F:List Fnc} {n:Nat} {g:List Int->Ex->List Int×Bool} {I:List Int->Prop}
theorem Ex.w8m (g:List Int->Ex->List Int×Bool) (y:Ex) (l:List Ex) (t:List Int):Ex.y4w g (y::l) t=match y.anyS g t with
 | (t',true)=>(t',true)
 | (t',false)=>Ex.y4w g l t':=by
 rw [Ex.y4w]
 cases y.anyS g t with
 | mk t' b=>cases b<;>rfl
def w3q (g:List Int->Ex->List Int×Bool):List Ex->Nat->List Int->Int
 | [],_,_=>-1
 | y::l,i,t=>match y.anyS g t with
  | (_,true)=>i
  | (t',false)=>w3q g l (i+1) t'
theorem wfd (g:List Int->Ex->List Int×Bool):∀(l:List Ex) (i:Nat) (t:List Int),decide (0<=w3q g l i t)=(Ex.y4w g l t).2
 | [],_,_=>by rw [Ex.y4w];rfl
 | y::l,i,t=>by
  rw [Ex.w8m,w3q]
  cases hr:y.anyS g t with
  | mk t' b=>
   cases b with
   | true=>exact decide_eq_true (show (0:Int)<=i by omega)
   | false=>exact wfd g l (i+1) t'
theorem w3a (x:Ex) (l:List Ex) (hl:l.length<=1073741824)
 (h:∀ y∈l,∀ t,I t->I (y.anyS g t).1/\xgj Γ prog 41 (thS F n x t) [.agg ((exC y).map .dat),.one (.ptr 5 0)] (thS F n x (y.anyS g t).1) (.one (.dat (cB (y.anyS g t).2))))
 (t:List Int) (ht:I t):xgj Γ prog 70 (thS F n x t) [.one (.dat (.sl 5 (l.map Ex.cells))),.one (.fnr 6)] (thS F n x (Ex.y4w g l t).1) (.one (.dat (cI (w3q g l 0 t)))):=by
 have e1:Ex.y4w g (l.drop 0) t=Ex.y4w g l t:=rfl;have e2:w3q g (l.drop 0) 0 t=w3q g l 0 t:=rfl;generalize Ex.y4w g l t=R at *;generalize w3q g l 0 t=J at *;refine xgj.run [] Go.Proofs.Tryz.func70 rfl rfl ?_;simp only [Go.Proofs.Tryz.f70];refine hgR ?_;refine yxw [0,1,7] (fun p:Nat×List Int=>[(8,.one (.dat (cI p.1)))]) (fun p=>thS F n x p.2) (fun p=>p.1<=l.length/\I p.2/\Ex.y4w g (l.drop p.1) p.2=R/\w3q g (l.drop p.1) p.1 p.2=J) (fun p=>l.length-p.1) (0,t) ⟨Nat.zero_le _,ht,e1,e2⟩ ?_ ?_
 . refine hg ?_;exact StH.same svl rfl
 rintro ⟨i,t'⟩ ⟨hi,hI,hR,hJ⟩;dsimp only at hi hI hR hJ;clear e1 e2 ht;refine hg ?_;refine xw4 (fun hlt _=>?_) (fun hlt _=>?_)
 . have hlt':i<l.length:=by omega
   rw [wde hlt',Ex.w8m] at hR;rw [wde hlt',w3q] at hJ;obtain ⟨hI2,hc⟩:=h _ (xdq hlt') t' hI;refine hg ?_
   repeat' ((first | refine hfk ?_ ?_<;>intros | refine hik ?_)<;>refine hgS ?_)
   refine wq6 hc ?_;clear hc h hI;generalize hu:(l.getD i default).anyS g t'=u at *;obtain ⟨t2,b⟩:=u
   cases b with
   | true=>
    refine hg ?_
    repeat' ((first | refine hfk ?_ ?_<;>intros | refine hik ?_)<;>refine hgS ?_)
    rw [<-hR,<-hJ];exact StH.same svl rfl
   | false=>
    refine hg ?_
    repeat' ((first | refine hfk ?_ ?_<;>intros | refine hik ?_)<;>refine hgS ?_)
    exact ⟨(i+1,t2),⟨by dsimp only;omega,hI2,hR,hJ⟩,by dsimp only;omega,StH.same svl rfl⟩
 . rw [List.drop_eq_nil_of_le (by omega),Ex.y4w] at hR;rw [List.drop_eq_nil_of_le (by omega),w3q] at hJ;rw [<-hR,<-hJ];refine hg ?_
   repeat' ((first | refine hfk ?_ ?_<;>intros | refine hik ?_)<;>refine hgS ?_)
   exact StH.same svl rfl
theorem x14 (x:Ex) (l:List Ex) (hl:l.length<=1073741824)
 (h:∀ y∈l,∀ t,I t->I (y.anyS g t).1/\xgj Γ prog 41 (thS F n x t) [.agg ((exC y).map .dat),.one (.ptr 5 0)] (thS F n x (y.anyS g t).1) (.one (.dat (cB (y.anyS g t).2))))
 (t:List Int) (ht:I t):xgj Γ prog 40 (thS F n x t) [.one (.dat (.sl 5 (l.map Ex.cells))),.one (.fnr 6)] (thS F n x (Ex.y4w g l t).1) (.one (.dat (cB (Ex.y4w g l t).2))):=by
 have h2:=w3a (Γ:=Γ) x l hl h t ht;rw [<-wfd g l 0 t];generalize w3q g l 0 t=j at *;generalize (Ex.y4w g l t).1=t2 at *;clear h;refine xgj.run [] Go.Proofs.Tryz.func40 rfl rfl ?_;simp only [Go.Proofs.Tryz.f40];refine hgR ?_
 repeat' ((first | refine hfk ?_ ?_<;>intros | refine hik ?_)<;>refine hgS ?_)
 refine wq6 h2 ?_;clear h2;refine hg ?_
 repeat' ((first | refine hfk ?_ ?_<;>intros | refine hik ?_)<;>refine hgS ?_)
 exact StH.same svl rfl
theorem wh1:∀ x:Ex,x.Sm->(∀ y,Ex.Nd y x->∀ t,I t->I (g t y).1/\xgj Γ prog 55 (thB F n t) [.agg ((exC y).map .dat),.one (.ptr 2 0)] (thB F n (g t y).1) (.one (.dat (cB (g t y).2))))->
 ∀ t,I t->I (x.anyS g t).1/\xgj Γ prog 23 (thB F n t) [.agg ((exC x).map .dat),.one (.fnr 3)] (thB F n (x.anyS g t).1) (.one (.dat (cB (x.anyS g t).2))):=by
 refine Ex.ind (fun x ih hx h t ht=>?_);have hl:=hx.len
 have h1:∀ y∈x.args,∀ t,I t->I (y.anyS g t).1/\xgj Γ prog 41 (thS F n x t) [.agg ((exC y).map .dat),.one (.ptr 5 0)] (thS F n x (y.anyS g t).1) (.one (.dat (cB (y.anyS g t).2))):=fun y hy t ht=>by
  obtain ⟨hI,hc⟩:=ih y hy (hx.arg y hy) (fun z hz=>h z (.arg hy hz)) t ht;refine ⟨hI,?_⟩;generalize (y.anyS g t).1=t2 at *;generalize (y.anyS g t).2=b at *;clear ih h;refine xgj.run [] Go.Proofs.Tryz.func41 rfl rfl ?_;simp only [Go.Proofs.Tryz.f41];refine hgR ?_
  repeat' ((first | refine hfk ?_ ?_<;>intros | refine hik ?_)<;>refine hgS ?_)
  refine wq6 (xgj.preS (ξ:=[.box ((exC x).map .dat) (some 25),.box [.fnr 3] (some 33),.clo 41 [.one (.ptr 5 0)],.box ((exC y).map .dat) (some 25)]) hc rfl (wgy F n t) (fun r hr=>wgy F n t2 r (fun i hi=>hr i hi)) rfl rfl) ?_;clear hc;refine hg ?_
  repeat' ((first | refine hfk ?_ ?_<;>intros | refine hik ?_)<;>refine hgS ?_)
  exact StH.done 7 rfl (by kernel_rfl) rfl rfl
 obtain ⟨hI0,hq⟩:=h x .here t ht;have h2:=x14 (Γ:=Γ) x x.args hl h1 (g t x).1 hI0;have hkeep:=Ex.xy3 (P:=I) x (fun t y hy ht=>(h y hy t ht).1) t ht;refine ⟨hkeep,?_⟩;clear hkeep h1 ih h hI0 ht;rw [Ex.zvm];generalize g t x=u at *;obtain ⟨t1,a⟩:=u
 cases a with
 | true=>
  clear h2;refine xgj.run [(3,[.clo])] Go.Proofs.Tryz.func23 rfl rfl ?_;simp only [Go.Proofs.Tryz.f23];refine hgR ?_
  repeat' ((first | refine hfk ?_ ?_<;>intros | refine hik ?_)<;>refine hgS ?_)
  refine wq6 (xgj.preS (ξ:=[.box ((exC x).map .dat) (some 25),.box [.fnr 3] (some 33)]) hq rfl (wgy F n t) (fun r hr=>wgy F n t1 r (fun i hi=>hr i hi)) rfl rfl) ?_;clear hq;refine hg ?_
  repeat' ((first | refine hfk ?_ ?_<;>intros | refine hik ?_)<;>refine hgS ?_)
  exact StH.done 4 rfl (by kernel_rfl) rfl rfl
 | false=>
  simp only at h2 ⊢;generalize (Ex.y4w g x.args t1).1=t2 at *;generalize (Ex.y4w g x.args t1).2=b at *;refine xgj.run [(3,[.clo])] Go.Proofs.Tryz.func23 rfl rfl ?_;simp only [Go.Proofs.Tryz.f23];refine hgR ?_
  repeat' ((first | refine hfk ?_ ?_<;>intros | refine hik ?_)<;>refine hgS ?_)
  refine wq6 (xgj.preS (ξ:=[.box ((exC x).map .dat) (some 25),.box [.fnr 3] (some 33)]) hq rfl (wgy F n t) (fun r hr=>wgy F n t1 r (fun i hi=>hr i hi)) rfl rfl) ?_;clear hq;refine hg ?_
  repeat' ((first | refine hfk ?_ ?_<;>intros | refine hik ?_)<;>refine hgS ?_)
  refine wq6 h2 ?_;clear h2;refine hg ?_
  repeat' ((first | refine hfk ?_ ?_<;>intros | refine hik ?_)<;>refine hgS ?_)
  exact StH.done 4 rfl (by kernel_rfl) rfl rfl
end
end Go.Hp.T
namespace Go.Hp.T
open Go Go.RowKit Go.Slot Go.Hp Go.Slot.T
open Go.Proofs.Tryz (prog)
attribute [local irreducible] hide RH
set_option maxRecDepth 10000
set_option maxHeartbeats 8000000
variable {Γ:List (Nat×List Cell)}
theorem yn8 {F:List Fnc} (hF:F.length<=1073741824) (hS:∀ f∈F,f.Sm) (hkn:∀ i,i<F.length->∀ y,Ex.Nd y (F.getD i default).body->y.op=3->0<=findF F y.name) :
 ∀(k:Nat) (st:List Int) (i:Int),st.length=F.length->wlq st<k->0<=i->i.toNat<F.length->
 xgj Γ prog 32 [crB F F.length,stB st] [.one (.ptr 0 0),.one (.dat (cI i))] [crB F F.length,stB (thrF F k st i).1] (.one (.dat (cB (thrF F k st i).2)))
 | 0,_,_,_,hk,_,_=>by omega
 | k + 1, st, i, hl, hk, h0, hi => by
  have hb:=(hS _ (xdq hi)).b
  have hil:i.toNat<st.length:=by omega
  have hs1:(st.set i.toNat 1).length=F.length:=by simpa using hl
  have hg:∀ y,Ex.Nd y (F.getD i.toNat default).body->∀ t:List Int,(t.length=F.length/\wlq t<k)->((thrG F k t y).1.length=F.length/\wlq (thrG F k t y).1<k)/\
   xgj Γ prog 55 (thB F F.length t) [.agg ((exC y).map .dat),.one (.ptr 2 0)] (thB F F.length (thrG F k t y).1) (.one (.dat (cB (thrG F k t y).2))):=fun y hy t ht=>by
   have hz:=hkn _ hi y hy;unfold thrG;by_cases h3:y.op=3
   . have hj:=hz h3;have hkeep:=zqk F k t (findF F y.name);have hc:=yn8 hF hS hkn k t (findF F y.name) ht.1 ht.2 hj (x4n hi _);have hf:=vzr (Γ:=Γ) F y.name hF;have d3:decide (y.op=3)=true:=decide_eq_true h3;rw [d3,cond_true];refine ⟨⟨hkeep.1.trans ht.1,Nat.lt_of_le_of_lt hkeep.2 ht.2⟩,?_⟩;generalize findF F y.name=j at *;generalize (thrF F k t j).1=t2 at *;generalize (thrF F k t j).2=b at *;clear h3 hkeep hz hl hk ht hb hil hs1 hi;refine xgj.run [] Go.Proofs.Tryz.func55 rfl rfl ?_;simp only [Go.Proofs.Tryz.f55];refine hgR ?_
     repeat' ((first | refine hfk ?_ ?_<;>intros | refine hik ?_ | with_reducible first | refine v47 (hf) ?_ | refine vrf (hf) ?_)<;>refine hgS ?_)
     refine vfx [0,1] [(1,stB t2)] hc (by rfl) (by decide) (by rfl) (by rfl) (by rfl) (by rfl) ?_;clear hc;refine hg ?_
     repeat' ((first | refine hfk ?_ ?_<;>intros | refine hik ?_)<;>refine hgS ?_)
     all_goals first
      | exact StH.done 4 rfl (by kernel_rfl) rfl rfl
      | (exfalso;simp_all;done)
   . have d3:decide (y.op=3)=false:=decide_eq_false h3;rw [d3,cond_false];refine ⟨ht,?_⟩;clear h3 hz hl hk hb hil hs1 hi;refine xgj.run [] Go.Proofs.Tryz.func55 rfl rfl ?_;simp only [Go.Proofs.Tryz.f55];refine hgR ?_
     repeat' ((first | refine hfk ?_ ?_<;>intros | refine hik ?_)<;>refine hgS ?_)
     all_goals first
      | exact StH.done 4 rfl (by kernel_rfl) rfl rfl
      | (exfalso;simp_all;done)
  rw [thrF];by_cases hz:st.getD i.toNat 0=0
  . have hz1:=wqn (v:=1) (by decide) hil hz;obtain ⟨hI,hc⟩:=wh1 (Γ:=Γ) (F:=F) (n:=F.length) (g:=thrG F k) (I:=fun t=>t.length=F.length/\wlq t<k) (F.getD i.toNat default).body hb hg (st.set i.toNat 1) ⟨hs1,by omega⟩;have hgd:st.getD i.toNat default=0:=hz;rw [decide_eq_true hz];simp only [Bool.not_true,cond_false];change xgj Γ prog _ _ _ [crB F F.length,stB ((((F.getD i.toNat default).body.anyS (thrG F k) (st.set i.toNat 1)).1).set i.toNat 2)] (.one (.dat (cB ((F.getD i.toNat default).body.anyS (thrG F k) (st.set i.toNat 1)).2)));have hl2:=hI.1;clear hg hI hz1 hb hk;generalize ((F.getD i.toNat default).body.anyS (thrG F k) (st.set i.toNat 1)).1=t2 at *;generalize ((F.getD i.toNat default).body.anyS (thrG F k) (st.set i.toNat 1)).2=b at *;refine xgj.run [(4,[.clo])] Go.Proofs.Tryz.func32 rfl rfl ?_;simp only [Go.Proofs.Tryz.f32];refine hgR ?_;refine hg3 @hz @hl @hgd ?_
    repeat' ((first | refine hfk ?_ ?_<;>intros | refine hik ?_)<;>refine hgS ?_)
    . exfalso;simp_all;done
    refine wq6 hc ?_;clear hc;refine hg1 @hl2 ?_
    repeat' ((first | refine hfk ?_ ?_<;>intros | refine hik ?_)<;>refine hgS ?_)
    exact StH.done 2 rfl (by kernel_rfl) rfl rfl
  . have hgd:¬st.getD i.toNat default=0:=hz;have hsame:st.getD i.toNat 0=st.getD i.toNat default:=rfl;rw [decide_eq_false hz];simp only [Bool.not_false,cond_true];rw [hsame];clear hz hk hkn hS hF hsame;refine xgj.run [(4,[.clo])] Go.Proofs.Tryz.func32 rfl rfl ?_;simp only [Go.Proofs.Tryz.f32];refine hgR ?_;refine hg1 @hl ?_
    repeat' ((first | refine hfk ?_ ?_<;>intros | refine hik ?_)<;>refine hgS ?_)
    all_goals first
     | exact StH.done 2 rfl (by kernel_rfl) rfl rfl
     | (exfalso;simp_all;done)
theorem vee (F:List Fnc) (hF:F.length<=1073741824) (hS:∀ f∈F,f.Sm):CallsD Γ prog 14 [.one (.sl 7 (F.map Fnc.C))] (.one (cI (wa2 F))):=by
 unfold wa2;by_cases h100:100<(F.length:Int)
 . rw [decide_eq_true h100];have d1:decide (100<(F.length:Int))=true:=decide_eq_true h100;clear hS;refine CallsD.run [] Go.Proofs.Tryz.func14 rfl rfl rfl ?_;simp only [Go.Proofs.Tryz.f14];refine hgR ?_;refine hg1 @d1 ?_
   repeat' ((first | refine hfk ?_ ?_<;>intros | refine hik ?_)<;>refine hgS ?_)
   all_goals first
    | exact RLe.ofEq rfl
    | (exfalso;simp_all;done)
 rw [decide_eq_false h100];simp only [cond_false];have e1:w1r F (F.length-0) 0=w1r F F.length 0:=rfl;have hE:=(ysa (F:=F) F.length 0).1
 have hkn:w1r F F.length 0=0->∀ i,i<F.length->∀ y,Ex.Nd y (F.getD i default).body->y.op=3->0<=findF F y.name:=fun h i hi y hy h3=>((wgw.1 (hE h i (Nat.zero_le _) (by omega))).kn y hy h3).1
 have hgo:∀ r:Int,w1r F F.length 0=r->CallsD Γ prog 14 [.one (.sl 7 (F.map Fnc.C))] (.one (cI (bif !decide (r=0) then r else bif y38 F F.length 0 (List.replicate F.length 0) then 23 else 0))):=by
  intro r hr;rw [hr] at e1 hkn;refine CallsD.run [] Go.Proofs.Tryz.func14 rfl rfl rfl ?_;simp only [Go.Proofs.Tryz.f14];refine hgR ?_
  repeat' ((first | refine hfk ?_ ?_<;>intros | refine hik ?_)<;>refine hgS ?_)
  . exfalso;simp_all;done
  refine yxw [0,11] (fun i:Nat=>[(12,.one (.dat (cI i)))]) (fun _=>[]) (fun i=>i<=F.length/\w1r F (F.length-i) i=r) (fun i=>F.length-i) 0 ⟨Nat.zero_le _,e1⟩ ?_ ?_
  . refine hg ?_;exact StH.same svl rfl
  intro i hi;obtain ⟨hi,hc⟩:=hi;refine hg ?_;refine xw4 (fun hlt _=>?_) (fun hlt _=>?_)
  . have hlt':i<F.length:=by omega
    have a1:=wyt (Γ:=Γ) F i hF hS hlt';rw [show F.length-i=F.length-(i+1)+1 by omega,w1r] at hc;generalize yum F i=e at *;refine hg ?_
    repeat' ((first | refine hfk ?_ ?_<;>intros | refine hik ?_ | with_reducible first | refine v47 (a1) ?_ | refine vrf (a1) ?_)<;>refine hgS ?_)
    . rename_i he
      have he':¬e=0:=by simpa using he
      rw [decide_eq_false he'] at hc;simp only [Bool.not_false,cond_true] at hc;rw [<-hc];simp only [he',not_false_eq_true,decide_true,cond_true];exact RLe.ofEq rfl
    . rename_i he
      have he':e=0:=by simpa using he
      rw [decide_eq_true he'] at hc;exact ⟨i+1,⟨by omega,hc⟩,by omega,StH.same svl rfl⟩
  . have er:r=0:=by
     rw [show F.length-i=0 by omega,w1r] at hc;exact hc.symm
    subst er;have hkn:=hkn rfl;obtain ⟨R,hR⟩:∃ R,y38 F F.length 0 (List.replicate F.length 0)=R:=⟨_,rfl⟩;rw [hR];have e2:y38 F (F.length-0) 0 (List.replicate F.length 0)=R:=hR;clear hc e1 hr hE hR;refine hg ?_;refine yxw [0,5,29] (fun p:Nat×List Int=>[(30,.one (.dat (cI p.1)))]) (fun p=>[stB p.2,.box [.dat (.sl 7 (F.map Fnc.C)),.sl 0 1 0 F.length] (some 81)])
     (fun p=>p.1<=F.length/\p.2.length=F.length/\y38 F (F.length-p.1) p.1 p.2=R) (fun p=>F.length-p.1) (0,List.replicate F.length 0) ⟨Nat.zero_le _,by simp,e2⟩ ?_ ?_
    . refine hg ?_;exact StH.same svl rfl
    rintro ⟨i,st⟩ ⟨hi,hl,hc⟩;dsimp only at hi hl hc;clear e2;refine hg ?_;refine xw4 (fun hlt _=>?_) (fun hlt _=>?_)
    . have hlt':i<F.length:=by omega
      rw [show F.length-i=F.length-(i+1)+1 by omega,y38] at hc
      have hzz:wlq st<F.length+1:=by
       have:=List.countP_le_length (p:=fun s:Int=>decide (s=0)) (l:=st)
       rw [hl] at this;exact Nat.lt_succ_of_le this
      have ht:=yn8 (Γ:=Γ) hF hS hkn (F.length+1) st i hl hzz (by omega) (by omega);have hk:=(zqk F (F.length+1) st i).1;generalize (thrF F (F.length+1) st i).1=st2 at *;generalize (thrF F (F.length+1) st i).2=b at *;refine hg ?_
      repeat' ((first | refine hfk ?_ ?_<;>intros | refine hik ?_)<;>refine hgS ?_)
      refine xmn [1,0] ht rfl (by decide) rfl rfl rfl ?_;clear ht
      cases b with
      | true=>
       refine hg ?_
       repeat' ((first | refine hfk ?_ ?_<;>intros | refine hik ?_)<;>refine hgS ?_)
       rw [<-hc];exact RLe.ofEq rfl
      | false=>
       refine hg ?_
       repeat' ((first | refine hfk ?_ ?_<;>intros | refine hik ?_)<;>refine hgS ?_)
       exact ⟨(i+1,st2),⟨by dsimp only;omega,hk.trans hl,hc⟩,by dsimp only;omega,StH.same svl rfl⟩
    . rw [show F.length-i=0 by omega,y38] at hc;rw [<-hc];refine hg ?_
      repeat' ((first | refine hfk ?_ ?_<;>intros | refine hik ?_)<;>refine hgS ?_)
      exact RLe.ofEq rfl
 exact hgo _ rfl
end Go.Hp.T
namespace Go.Hp
open Go Go.RowKit Go.Slot
variable {P:Program} {Γ:List (Nat×List Cell)}
theorem HRL.setF {η:List SB} {ρ:Nat->Value} {M:Nat->Nat->Prop} {w:World} {h h':HC} (H:∀ v,HRd η ρ M w v h->HRd η ρ M w v h'):∀{vs:List Value} {hs:List HC} (f:Nat),HRL η ρ M w vs hs->hs[f]? = some h->HRL η ρ M w vs (hs.set f h')
 | [],[],_,_,hf=>by simp at hf
 | v::vs,x::hs,0,hr,hf=>by
  simp at hf;subst hf;exact ⟨H v hr.1,hr.2⟩
 | v::vs,x::hs,f+1,hr,hf=>⟨hr.1,HRL.setF H f hr.2 (by simpa using hf)⟩
theorem StH.zoa {e:List SB} {σ:List SV} {η:List SB} (b f:Nat) {hs:List HC} {T':Option TypeId} {c0 c:Cell} {es:Nat} {T:Option TypeId} (hb:η[b]? = some (.box hs T')) (hf:hs[f]? = some (.dat c0)) (hz:isZc c0=true) (hu:c.uni) (hc:c.cnt=0) :
 StH Γ e σ η σ ((η++[SB.arr c 0 T]).set b (.box (hs.set f (.sl η.length es 0 0)) T')):=fun E ρ a w _ hR=>by
 have h1:=hR.go (Went.extend hR.inv 1)
 have hfr:(η++[SB.fresh])[η.length]? = some .fresh:=by simp
 have hw:=Went.new h1.inv (znd w) hfr (v:=.pointer none) (x:=.arr c 0 T) (by simp) (fun _ hr=>absurd rfl hr) (fun m=>⟨⟨hu,Nat.zero_le _⟩,.inl ⟨hc,rfl⟩⟩);have h2:=h1.go hw;rw [show (η++List.replicate 1 SB.fresh).set η.length (.arr c 0 T)=η++[.arr c 0 T] by simp] at h2;have hlt:b<η.length:=(List.getElem?_eq_some_iff.1 hb).1
 have hb2:(η++[SB.arr c 0 T])[b]? = some (.box hs T'):=by rw [List.getElem?_append_left hlt];exact hb
 have hblk:=h2.inv.blk b _ hb2;refine ⟨upd ρ η.length (.pointer none),h2.go (Went.less h2.inv hb2 (by simp) (fun _=>rfl) (fun o h=>h) (fun m=>?_))⟩;obtain ⟨bb,vs,T0,e,hh,hr,ht⟩:=hblk.mv m (fun _ _=>rfl);refine ⟨bb,vs,T0,e,hh,HRL.setF (fun v hv=>?_) f hr hf,ht⟩;obtain ⟨ad,hv'⟩:=vwb (τ:=fun _=>⟨Go.undef,0⟩) hz (RdT.of (show RdC _ w v c0 from hv));exact ⟨zux (by simp) ⟨.arr c 0 T,by simp,by simp⟩,ad,0,hv',Nat.le_refl _,fun h=>absurd rfl h⟩
end Go.Hp
