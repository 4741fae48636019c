/- The proof, part Y27: 1i, 1l, 1n, Qa, Ij, Qb, 1c. -/
import Derived.Test.YtocdljjhobaabaaGreatDoorY26
import Derived.Test.YtocdljjhobaabaaGreatDoorY19
import Derived.Test.YtocdljjhobaabaaGreatDoorY18
import Derived.Test.YtocdljjhobaabaaGreatDoorY25
namespace Go.Hp.T
open Go Go.RowKit Go.Slot Go.Hp Go.Slot.T
open Go.Proofs.Tryz (prog)
attribute [local irreducible] hide RH
set_option maxRecDepth 10000
set_option maxHeartbeats 8000000
variable {Γ:List (Nat×List Cell)}
theorem zsx (cs:List Cell) (T:Option TypeId) (f:FuncId):∀ r:Nat->Nat,(∀ i,i<(cloB cs T f).length->r i=i)->(cloB cs T f).map (rnSB r)=cloB cs T f:=fun r hr=>by
 show [rnSB r (.box (cs.map .dat) T),SB.clo f [.one (.ptr (r 0) 0)]]=_;rw [wj5,hr 0 (by show 0<2;decide)]
theorem x7h (cs:List Cell) (T:Option TypeId) (g:FuncId) (p:Ex->Bool):∀ x:Ex,x.Sm->(∀ y,Ex.Nd y x->xgj Γ prog g (cloB cs T g) [.agg ((exC y).map .dat),.one (.ptr 0 0)] (cloB cs T g) (.one (.dat (cB (p y)))))->
 xgj Γ prog 23 (cloB cs T g) [.agg ((exC x).map .dat),.one (.fnr 1)] (cloB cs T g) (.one (.dat (cB (x.anyN p)))):=by
 refine Ex.ind (fun x ih hx h=>?_);have hl:=hx.len
 have h1:∀ y∈x.args,xgj Γ prog 41 (somB cs T g x) [.agg ((exC y).map .dat),.one (.ptr 3 0)] (somB cs T g x) (.one (.dat (cB (y.anyN p)))):=fun y hy=>by
  have hc:=ih y hy (hx.arg y hy) (fun z hz=>h z (.arg hy hz));generalize y.anyN p=b at *;refine xgj.run [] Go.Proofs.Tryz.func41 rfl rfl ?_;simp only [Go.Proofs.Tryz.f41];refine hgR ?_
  repeat' ((first | refine hfk ?_ ?_<;>intros | refine hik ?_)<;>refine hgS ?_)
  refine wq6 (xgj.preN (ξ:=[.box ((exC x).map .dat) (some 25),.box [.fnr 1] (some 33),.clo 41 [.one (.ptr 3 0)],.box ((exC y).map .dat) (some 25)]) hc (zsx _ _ _) rfl rfl) ?_;clear hc;refine hg ?_
  repeat' ((first | refine hfk ?_ ?_<;>intros | refine hik ?_)<;>refine hgS ?_)
  exact StH.yri rfl (by kernel_rfl) rfl
 have h2:=w7d (Γ:=Γ) cs T g x x.args (Ex.anyN p) hl h1;have hq:=h x .here;rw [Ex.x9i];generalize x.args.any (Ex.anyN p)=b at *;generalize p x=a at *;clear h1 ih h;refine xgj.run [(3,[.clo])] Go.Proofs.Tryz.func23 rfl rfl ?_;simp only [Go.Proofs.Tryz.f23];refine hgR ?_
 repeat' ((first | refine hfk ?_ ?_<;>intros | refine hik ?_)<;>refine hgS ?_)
 refine wq6 (xgj.preN (ξ:=[.box ((exC x).map .dat) (some 25),.box [.fnr 1] (some 33)]) hq (zsx _ _ _) rfl rfl) ?_;clear hq;refine hg ?_
 cases a with
 | true=>
  refine hg ?_
  repeat' ((first | refine hfk ?_ ?_<;>intros | refine hik ?_)<;>refine hgS ?_)
  exact StH.yri rfl (by kernel_rfl) rfl
 | false=>
  refine hg ?_
  repeat' ((first | refine hfk ?_ ?_<;>intros | refine hik ?_)<;>refine hgS ?_)
  refine wq6 h2 ?_;clear h2;refine hg ?_
  repeat' ((first | refine hfk ?_ ?_<;>intros | refine hik ?_)<;>refine hgS ?_)
  exact StH.yri rfl (by kernel_rfl) rfl
theorem zt4 (s:ByteArray) (hs:s.size<=1073741824):CallsD Γ prog 76 [.one (cS s)] (.one (cB (isNamed s))):=by
 refine CallsD.run [] Go.Proofs.Tryz.func76 rfl rfl rfl ?_;simp only [Go.Proofs.Tryz.f76];refine hgR ?_
 repeat' ((first | refine hfk ?_ ?_<;>intros | refine hik ?_ | with_reducible first | refine v47 (wam s (by omega)) ?_ | refine vrf (wam s (by omega)) ?_ | refine v47 (xvd s) ?_ | refine vrf (xvd s) ?_)<;>refine hgS ?_)
 all_goals refine lf1 @isNamed.eq_def ?_;first | exact trivial | rfl
theorem zwt (q:Prm) (T:Option TypeId) (hq:q.name.size<=1073741824/\q.unit.size<=1073741824):xgj Γ prog 77 [.box [.dat (.raw (.func (.func 76) #[] #[]))] T] [.agg ((prmC q).map .dat),.one (.ptr 0 0)] [.box [.dat (.raw (.func (.func 76) #[] #[]))] T] (.one (.dat (cB (oddP q)))):=by
 obtain ⟨t,ht⟩:∃ t,CallsD Γ prog 73 [.one (cS q.unit)] (.tup [.one (cS t),.one (cB (x6w q.unit))]):=ytc q.unit (by omega);have hn:=zt4 (Γ:=Γ) q.name hq.1;unfold oddP;generalize x6w q.unit=a at *;generalize isNamed q.name=b at *;refine xgj.run [] Go.Proofs.Tryz.func77 rfl rfl ?_;simp only [Go.Proofs.Tryz.f77];refine hgR ?_
 repeat' ((first | refine hfk ?_ ?_<;>intros | refine hik ?_ | with_reducible first | refine v47 (ht) ?_ | refine vrf (ht) ?_ | refine v47 (hn) ?_ | refine vrf (hn) ?_)<;>refine hgS ?_)
 all_goals exact StH.done 1 rfl (by kernel_rfl) (by simp [*]) rfl
theorem y0d (f:Fnc) (hf:f.Sm):CallsD Γ prog 50 [.agg (fncC f)] (.one (cB (wtj f))):=by
 have h1:=zt4 (Γ:=Γ) f.name hf.s;have h2:=xef (Γ:=Γ) [.raw (.func (.func 76) #[] #[])] (some 124) 77 f.params oddP hf.len (fun y hy=>zbu (fun r=>by rw [List.map_map];rfl) (zwt y _ (hf.p y hy)));have h3:=x22 (Γ:=Γ) f.body hf.b;unfold wtj;generalize isNamed f.name=a at *;generalize f.params.any oddP=b at *;generalize z7n f.body=c at *;have hl:=hf.len;clear hf;refine CallsD.run [(2,[.clo])] Go.Proofs.Tryz.func50 rfl rfl rfl ?_;simp only [Go.Proofs.Tryz.f50];refine hgR ?_
 repeat' ((first | refine hfk ?_ ?_<;>intros | refine hik ?_ | with_reducible first | refine v47 (h1) ?_ | refine vrf (h1) ?_ | refine v47 (h3) ?_ | refine vrf (h3) ?_)<;>refine hgS ?_)
 . refine xmn [1,2] h2 rfl (by decide) rfl rfl rfl ?_;refine hg ?_
   repeat' ((first | refine hfk ?_ ?_<;>intros | refine hik ?_ | with_reducible first | refine v47 (h3) ?_ | refine vrf (h3) ?_)<;>refine hgS ?_)
   all_goals exact RLe.ofEq (by simp [*])
 all_goals exact RLe.ofEq (by simp [*])
theorem wpx (F:List Fnc) (hF:F.length<=1073741824) (T:Option TypeId) (y:Ex):xgj Γ prog 42 [.box [.dat (.sl 7 (F.map Fnc.C))] T] [.agg ((exC y).map .dat),.one (.ptr 0 0)] [.box [.dat (.sl 7 (F.map Fnc.C))] T] (.one (.dat (cB (x5q F y)))):=by
 have h:=vzr (Γ:=Γ) F y.name hF;unfold x5q;generalize findF F y.name=j at *;refine xgj.run [] Go.Proofs.Tryz.func42 rfl rfl ?_;simp only [Go.Proofs.Tryz.f42];refine hgR ?_
 repeat' ((first | refine hfk ?_ ?_<;>intros | refine hik ?_ | with_reducible first | refine v47 (h) ?_ | refine vrf (h) ?_)<;>refine hgS ?_)
 all_goals exact StH.done 1 rfl (by kernel_rfl) (by simp [*]) rfl
theorem weq (F:List Fnc):xgj Γ prog 24 [] [.one (.dat (.sl 7 (F.map Fnc.C)))] (cloB [.sl 7 (F.map Fnc.C)] (some 22) 42) (.one (.fnr 1)):=by
 refine xgj.run [(1,[.clo])] Go.Proofs.Tryz.func24 rfl rfl ?_;simp only [Go.Proofs.Tryz.f24];refine hgR ?_
 repeat' ((first | refine hfk ?_ ?_<;>intros | refine hik ?_)<;>refine hgS ?_)
 exact StH.same svl rfl
theorem yi3 (F:List Fnc) (hF:F.length<=1073741824) (hP:∀ f∈F,f.params.length<=1073741824) (T:Option TypeId) (y:Ex) (_hl:y.args.length<=1073741824) (hy:y.op=3->0<=findF F y.name):xgj Γ prog 44 [.box [.dat (.sl 7 (F.map Fnc.C))] T] [.agg ((exC y).map .dat),.one (.ptr 0 0)] [.box [.dat (.sl 7 (F.map Fnc.C))] T] (.one (.dat (cB (zs3 F y)))):=by
 have h:=vzr (Γ:=Γ) F y.name hF
 have hlt:y.op=3->(findF F y.name).toNat<F.length:=fun e=>by
  have:=hy e
  cases F with
  | nil=>exact absurd this (by show ¬(0:Int)<=-1;decide)
  | cons f F=>exact x4n (i:=0) (by simp) _
 unfold zs3;generalize findF F y.name=j at *;by_cases h3:y.op=3
 . have h0:=hy h3;have h1:=hlt h3;have hp:=hP _ (xdq h1);have d3:decide (y.op=3)=true:=decide_eq_true h3;rw [d3];clear hP hy hlt h3;refine xgj.run [] Go.Proofs.Tryz.func44 rfl rfl ?_;simp only [Go.Proofs.Tryz.f44];refine hgR ?_
   repeat' ((first | refine hfk ?_ ?_<;>intros | refine hik ?_ | with_reducible first | refine v47 (h) ?_ | refine vrf (h) ?_)<;>refine hgS ?_)
   all_goals first
    | exact StH.done 1 rfl (by kernel_rfl) rfl rfl
    | (exfalso;simp_all;done)
 . have d3:decide (y.op=3)=false:=decide_eq_false h3;rw [d3];clear hP hy hlt h3;refine xgj.run [] Go.Proofs.Tryz.func44 rfl rfl ?_;simp only [Go.Proofs.Tryz.f44];refine hgR ?_
   repeat' ((first | refine hfk ?_ ?_<;>intros | refine hik ?_ | with_reducible first | refine v47 (h) ?_ | refine vrf (h) ?_)<;>refine hgS ?_)
   all_goals first
    | exact StH.done 1 rfl (by kernel_rfl) (by simp [*]) rfl
    | (exfalso;simp_all;done)
theorem wog (F:List Fnc):xgj Γ prog 25 [] [.one (.dat (.sl 7 (F.map Fnc.C)))] (cloB [.sl 7 (F.map Fnc.C)] (some 22) 44) (.one (.fnr 1)):=by
 refine xgj.run [(1,[.clo])] Go.Proofs.Tryz.func25 rfl rfl ?_;simp only [Go.Proofs.Tryz.f25];refine hgR ?_
 repeat' ((first | refine hfk ?_ ?_<;>intros | refine hik ?_)<;>refine hgS ?_)
 exact StH.same svl rfl
theorem wxp (f:Fnc) (hf:f.Sm) (T:Option TypeId) (y:Ex):xgj Γ prog 53 [.box ((fncC f).map .dat) T] [.agg ((exC y).map .dat),.one (.ptr 0 0)] [.box ((fncC f).map .dat) T] (.one (.dat (cB (znq f y)))):=by
 have h:=yqi (Γ:=Γ) f y.name hf;unfold znq;generalize wcs f y.name=j at *;clear hf;refine xgj.run [] Go.Proofs.Tryz.func53 rfl rfl ?_;simp only [Go.Proofs.Tryz.f53];refine hgR ?_
 repeat' ((first | refine hfk ?_ ?_<;>intros | refine hik ?_ | with_reducible first | refine v47 (h) ?_ | refine vrf (h) ?_)<;>refine hgS ?_)
 all_goals exact StH.done 1 rfl (by kernel_rfl) (by simp [*]) rfl
theorem vzn (q:Prm) (hq:q.unit.size<=1073741824):CallsD Γ prog 52 [.agg (prmC q)] (.one (cB (ziu q))):=by
 have h:=z9l (Γ:=Γ) q.unit hq;unfold ziu;generalize whw q.unit=r at *;refine CallsD.run [] Go.Proofs.Tryz.func52 rfl rfl rfl ?_;simp only [Go.Proofs.Tryz.f52];refine hgR ?_
 repeat' ((first | refine hfk ?_ ?_<;>intros | refine hik ?_ | with_reducible first | refine v47 (h) ?_ | refine vrf (h) ?_)<;>refine hgS ?_)
 all_goals refine lfE ?_;first | exact trivial | rfl
theorem wfa (l:List Prm) (f:FuncId) (p:Prm->Bool) (hl:l.length<=1073741824) (h:∀ y∈l,CallsD Γ prog f [.agg (prmC y)] (.one (cB (p y)))) :
 CallsD Γ prog 78 [.one (.sl 2 (l.map Prm.C)),fN f] (.one (cI (idxF p l))):=by
 refine CallsD.run [] Go.Proofs.Tryz.func78 rfl rfl rfl ?_;simp only [Go.Proofs.Tryz.f78];refine hgR ?_;refine yxw [0,1,7] (fun i:Nat=>[(8,.one (.dat (cI i)))]) (fun _=>[]) (fun i=>i<=l.length/\∀ j,j<i->p (l.getD j default)=false) (fun i=>l.length-i) 0 ⟨Nat.zero_le _,fun j hj=>by omega⟩ ?_ ?_
 . refine hg ?_;exact StH.same svl rfl
 intro i hi;obtain ⟨hi,hj⟩:=hi;refine hg ?_
 repeat' ((first | refine hfk ?_ ?_<;>intros | refine hik ?_ | with_reducible first | refine v47 (h _ (xdq (show i<l.length by omega))) ?_ | refine vrf (h _ (xdq (show i<l.length by omega))) ?_)<;>refine hgS ?_)
 . rename_i hp;rw [(xjj hi hj).2 (by omega) hp];exact RLe.ofEq rfl
 . rename_i hp;refine ⟨i+1,⟨by omega,fun j hj'=>?_⟩,by omega,StH.same svl rfl⟩
   rcases Nat.lt_or_eq_of_le (Nat.le_of_lt_succ hj') with h2 | h2
   . exact hj j h2
   . rw [h2];exact hp
 . rw [(xjj hi hj).1 (by omega)];exact RLe.ofEq rfl
theorem yyh (l:List Prm) (f:FuncId) (p:Prm->Bool) (hl:l.length<=1073741824) (h:∀ y∈l,CallsD Γ prog f [.agg (prmC y)] (.one (cB (p y)))) :
 CallsD Γ prog 54 [.one (.sl 2 (l.map Prm.C)),fN f] (.one (cB (l.any p))):=by
 have h2:=wfa (Γ:=Γ) l f p hl h;rw [<-z1b];generalize idxF p l=j at *;refine CallsD.run [] Go.Proofs.Tryz.func54 rfl rfl rfl ?_;simp only [Go.Proofs.Tryz.f54];refine hgR ?_
 repeat' ((first | refine hfk ?_ ?_<;>intros | refine hik ?_ | with_reducible first | refine v47 (h2) ?_ | refine vrf (h2) ?_)<;>refine hgS ?_)
 all_goals exact RLe.ofEq rfl
theorem y1n {p:Nat->Bool} {n:Nat}:(List.range (n+1)).any p=((List.range n).any p||p n):=by
 rw [List.range_succ,List.any_append];simp
theorem Ex.Sm.nd {x y:Ex} (hx:x.Sm) (h:Ex.Nd y x):y.Sm:=by
 induction h with
 | here=>exact hx
 | arg hz _ ih=>exact ih (hx.arg _ hz)
theorem wyt (F:List Fnc) (i:Nat) (hF:F.length<=1073741824) (hS:∀ f∈F,f.Sm) (hi:i<F.length):CallsD Γ prog 31 [.one (.sl 7 (F.map Fnc.C)),.one (cI i)] (.one (cI (yum F i))):=by
 have hf:=hS _ (xdq hi);have a1:=y0d (Γ:=Γ) _ hf;have a2:=vzr (Γ:=Γ) F (F.getD i default).name hF
 have a3:∀ s,_:=fun s=>yqi (Γ:=Γ) _ s hf
 have a4:=yyh (Γ:=Γ) (F.getD i default).params 52 ziu hf.len (fun y hy=>vzn y (hf.p y hy).2);have a5:=x7h (Γ:=Γ) (fncC (F.getD i default)) (some 38) 53 (znq (F.getD i default)) (F.getD i default).body hf.b (fun y _=>zbu (fun r=>by rw [List.map_map];rfl) (wxp _ hf _ y));have a6:=x7h (Γ:=Γ) [.sl 7 (F.map Fnc.C)] (some 22) 42 (x5q F) (F.getD i default).body hf.b (fun y _=>zbu (fun r=>by rw [List.map_map];rfl) (wpx F hF _ y))
 have a7:(F.getD i default).body.anyN (x5q F)=false->_:=fun hu=>x7h (Γ:=Γ) [.sl 7 (F.map Fnc.C)] (some 22) 44 (zs3 F) (F.getD i default).body hf.b (fun y hy=>zbu (fun r=>by rw [List.map_map];rfl) (yi3 F hF (fun f hf=>(hS f hf).len) _ y (Ex.Sm.nd hf.b hy).len (fun h3=>by
  have:=Ex.vaz hu hy
  unfold x5q at this;rw [decide_eq_true h3,Bool.true_and,decide_eq_false_iff_not] at this
  omega)))
 have hbl:=hf.len;unfold yum zlh;generalize hfe:F.getD i default=f at *;generalize findF F f.name=j at *;generalize f.params.any ziu=b4 at *;generalize f.body.anyN (znq f)=b5 at *;generalize f.body.anyN (x5q F)=b6 at *;generalize f.body.anyN (zs3 F)=b7 at *;generalize wtj f=b1 at *;refine CallsD.run [(13,[.clo]),(16,[.own,.clo,.room 2]),(18,[.own,.clo,.room 2])] Go.Proofs.Tryz.func31 rfl rfl rfl ?_;simp only [Go.Proofs.Tryz.f31];refine hgR ?_;refine hg1 @hfe ?_
 repeat' ((first | refine hfk ?_ ?_<;>intros | refine hik ?_ | with_reducible first | refine v47 (a1) ?_ | refine vrf (a1) ?_ | refine v47 (a2) ?_ | refine vrf (a2) ?_)<;>refine hgS ?_)
 . exact RLe.ofEq rfl
 refine yxw [0,1,5,25,26] (fun p:Nat×Bool=>[(6,.one (.dat (cB p.2))),(27,.one (.dat (cI p.1)))]) (fun _=>[.box ((fncC f).map .dat) (some 38)])
  (fun p=>p.1<=f.params.length/\p.2=(decide (j<(i:Int))||(List.range p.1).any fun k=>decide (wcs f (f.params.getD k default).name<(k:Int)))) (fun p=>f.params.length-p.1) (0,decide (j<(i:Int))) ⟨Nat.zero_le _,by simp⟩ ?_ ?_
 . refine hg ?_;exact StH.same svl rfl
 rintro ⟨k,t⟩ ⟨hk,ht⟩;dsimp only at hk ht;refine hg ?_;refine xw4 (fun hlt _=>?_) (fun hlt _=>?_)
 . have hlt':k<f.params.length:=by omega
   have a8:=a3 (f.params.getD k default).name
   have hs:∀ u,u=(t||decide (wcs f (f.params.getD k default).name<(k:Int)))->u=(decide (j<(i:Int))||(List.range (k+1)).any fun k=>decide (wcs f (f.params.getD k default).name<(k:Int))):=fun u hu=>by
    rw [hu,y1n,<-Bool.or_assoc,<-ht]
   generalize hm:wcs f (f.params.getD k default).name=m at *;clear ht a1 a2 a3 a4 a5 a6 a7
   cases t with
   | true=>
    refine hg ?_
    repeat' ((first | refine hfk ?_ ?_<;>intros | refine hik ?_)<;>refine hgS ?_)
    exact ⟨(k+1,true),⟨by dsimp only;omega,hs _ rfl⟩,by dsimp only;omega,StH.back [0,1,5,6,25,26,27] 1 1 1 rfl rfl rfl rfl rfl (by kernel_rfl) (StH.same svl rfl)⟩
   | false=>
    refine hg ?_
    repeat' ((first | refine hfk ?_ ?_<;>intros | refine hik ?_ | with_reducible first | refine v47 (a8) ?_ | refine vrf (a8) ?_)<;>refine hgS ?_)
    all_goals exact ⟨(k+1,decide (m<(k:Int))),⟨by dsimp only;omega,hs _ rfl⟩,by dsimp only;omega,StH.back [0,1,5,6,25,26,27] 1 1 1 rfl rfl rfl rfl rfl (by kernel_rfl) (StH.same svl rfl)⟩
 . have ek:k=f.params.length:=by omega
   subst ek;rw [<-ht];clear ht a1 a2 a3;refine hg ?_
   cases t with
   | true=>
    refine hg ?_
    repeat' ((first | refine hfk ?_ ?_<;>intros | refine hik ?_)<;>refine hgS ?_)
    exact RLe.ofEq (by simp [*])
   | false=>
    refine hg ?_
    repeat' ((first | refine hfk ?_ ?_<;>intros | refine hik ?_ | with_reducible first | refine v47 (a4) ?_ | refine vrf (a4) ?_)<;>refine hgS ?_)
    . exact RLe.ofEq (by simp [*])
    refine vfx [0,1] [] a5 rfl (by decide) rfl rfl rfl rfl ?_
    cases b5 with
    | true=>
     refine hg ?_
     repeat' ((first | refine hfk ?_ ?_<;>intros | refine hik ?_)<;>refine hgS ?_)
     exact RLe.ofEq rfl
    | false=>
     refine hg ?_
     repeat' ((first | refine hfk ?_ ?_<;>intros | refine hik ?_)<;>refine hgS ?_)
     refine vfx [2,3] [(2,.box [.dat (.sl 7 (F.map Fnc.C))] (some 22)),(3,.clo 42 [.one (.ptr 2 0)])] (xgj.vtx 2 (fun ρ M w vs h=>by match vs,h with | [v],h=>exact h) (weq F)) (by rfl) (by decide) (by rfl) (by rfl) (by rfl) (by rfl) ?_;refine hg ?_
     repeat' ((first | refine hfk ?_ ?_<;>intros | refine hik ?_)<;>refine hgS ?_)
     refine vfx [2,3] [] a6 (by rfl) (by decide) (by rfl) (by rfl) (by rfl) (by rfl) ?_
     cases b6 with
     | true=>
      refine hg ?_
      repeat' ((first | refine hfk ?_ ?_<;>intros | refine hik ?_)<;>refine hgS ?_)
      exact RLe.ofEq rfl
     | false=>
      refine hg ?_
      repeat' ((first | refine hfk ?_ ?_<;>intros | refine hik ?_)<;>refine hgS ?_)
      refine vfx [4,5] [(4,.box [.dat (.sl 7 (F.map Fnc.C))] (some 22)),(5,.clo 44 [.one (.ptr 4 0)])] (xgj.vtx 2 (fun ρ M w vs h=>by match vs,h with | [v],h=>exact h) (wog F)) (by rfl) (by decide) (by rfl) (by rfl) (by rfl) (by rfl) ?_;refine hg ?_
      repeat' ((first | refine hfk ?_ ?_<;>intros | refine hik ?_)<;>refine hgS ?_)
      refine vfx [4,5] [] (a7 rfl) (by rfl) (by decide) (by rfl) (by rfl) (by rfl) (by rfl) ?_;refine hg ?_
      repeat' ((first | refine hfk ?_ ?_<;>intros | refine hik ?_)<;>refine hgS ?_)
      all_goals exact RLe.ofEq rfl
end Go.Hp.T
namespace Go.Hp
open Go Go.RowKit Go.Slot
variable {P:Program} {Γ:List (Nat×List Cell)}
theorem xgj.preS {f:FuncId} {ηs ηs' ξ:List SB} {args:List SV} {res:SV} (h:xgj Γ P f ηs args ηs' res) (hl:ηs'.length=ηs.length) (hs:∀ r:Nat->Nat,(∀ i,i<ηs.length->r i=i)->ηs.map (rnSB r)=ηs) (hs':∀ r:Nat->Nat,(∀ i,i<ηs.length->r i=i)->ηs'.map (rnSB r)=ηs')
 (ha:args.map (x09 (atR (List.range ηs.length) (ηs++ξ).length))=args) (hr:rnSV (atR (List.range ηs.length) (ηs++ξ).length) res=res):xgj Γ P f (ηs++ξ) args (ηs'++ξ) res:=by
 have hlt:∀ j∈List.range ηs.length,j<(ηs++ξ).length:=fun j hj=>by
  rw [List.mem_range] at hj;rw [List.length_append];omega
 have hra:∀ i,i<ηs.length->atR (List.range ηs.length) (ηs++ξ).length i=i:=fun i hi=>xbc (by simp [hi])
 have e1:=hs _ hra;have e2:=hs' _ hra
 have hk:=xgj.frame (φ:=List.range ηs.length) (η:=ηs++ξ) List.nodup_range hlt ⟨by simp,fun i x hx=>by
  have hi:i<ηs.length:=(List.getElem?_eq_some_iff.1 hx).1
  have:=congrArg (fun l=>l[i]?) e1
  simp only [List.getElem?_map,hx,Option.map_some,Option.some.injEq] at this
  exact ⟨i,by simp [hi],by rw [this,List.getElem?_append_left hi];exact hx⟩⟩ (by simp [hl]) h
 rw [ha,hr] at hk
 have hp:putR (List.range ηs.length) (ηs++ξ) ηs'=ηs'++ξ:=by
  apply List.ext_getElem?;intro i;by_cases hi:i<ηs.length
  . have hi':i<ηs'.length:=by omega
    have h1:=xjo (φ:=List.range ηs.length) (η:=ηs++ξ) (ηs':=ηs') List.nodup_range hlt (List.getElem?_eq_getElem hi');have h2:=congrArg (fun l=>l[i]?) e2;simp only [List.getElem?_map,List.getElem?_eq_getElem hi',Option.map_some,Option.some.injEq] at h2;rw [hra i hi,h2] at h1;rw [h1,List.getElem?_append_left hi',List.getElem?_eq_getElem hi']
  . by_cases hi2:i<(ηs++ξ).length
    . rw [ygg hi2 (by simpa using hi),List.getElem?_append_right (by omega),List.getElem?_append_right (by omega),hl]
    . rw [List.getElem?_eq_none (by rw [xdx];simp at hi2 ⊢;omega),List.getElem?_eq_none (by rw [List.length_append] at hi2 ⊢;omega)]
 rw [hp] at hk;exact hk
end Go.Hp
namespace Go.Hp.T
open Go Go.RowKit Go.Slot Go.Hp Go.Slot.T
open Go.Proofs.Tryz (prog)
attribute [local irreducible] hide RH
set_option maxRecDepth 10000
set_option maxHeartbeats 8000000
variable {Γ:List (Nat×List Cell)}
abbrev crB (F:List Fnc) (n:Nat):SB:=.box [.dat (.sl 7 (F.map Fnc.C)),.sl 1 1 0 n] (some 81)
abbrev stB (st:List Int):SB:=.arr (.ints .i64 st) 0 none
abbrev thB (F:List Fnc) (n:Nat) (st:List Int):List SB:=[crB F n,stB st,.box [.ptr 0 0] (some 78),.clo 55 [.one (.ptr 2 0)]]
theorem wgy (F:List Fnc) (n:Nat) (st:List Int):∀ r:Nat->Nat,(∀ i,i<(thB F n st).length->r i=i)->(thB F n st).map (rnSB r)=thB F n st:=fun r hr=>by
 show [SB.box [.dat (.sl 7 (F.map Fnc.C)),.sl (r 1) 1 0 n] (some 81),stB st,.box [.ptr (r 0) 0] (some 78),.clo 55 [.one (.ptr (r 2) 0)]]=_;rw [hr 0 (by show 0<4;decide),hr 1 (by show 1<4;decide),hr 2 (by show 2<4;decide)]
abbrev thS (F:List Fnc) (n:Nat) (x:Ex) (st:List Int):List SB:=[crB F n,stB st,.box [.ptr 0 0] (some 78),.clo 55 [.one (.ptr 2 0)],.box ((exC x).map .dat) (some 25),.box [.fnr 3] (some 33),.clo 41 [.one (.ptr 5 0)]]
section
variable {F:List Fnc} {n:Nat} {g:List Int->Ex->List Int×Bool} {I:List Int->Prop}
theorem Ex.w8m (g:List Int->Ex->List Int×Bool) (y:Ex) (l:List Ex) (t:List Int):Ex.y4w g (y::l) t=match y.anyS g t with
 | (t',true)=>(t',true)
 | (t',false)=>Ex.y4w g l t':=by
 rw [Ex.y4w]
 cases y.anyS g t with
 | mk t' b=>cases b<;>rfl
def w3q (g:List Int->Ex->List Int×Bool):List Ex->Nat->List Int->Int
 | [],_,_=>-1
 | y::l,i,t=>match y.anyS g t with
  | (_,true)=>i
  | (t',false)=>w3q g l (i+1) t'
theorem wfd (g:List Int->Ex->List Int×Bool):∀(l:List Ex) (i:Nat) (t:List Int),decide (0<=w3q g l i t)=(Ex.y4w g l t).2
 | [],_,_=>by rw [Ex.y4w];rfl
 | y::l,i,t=>by
  rw [Ex.w8m,w3q]
  cases hr:y.anyS g t with
  | mk t' b=>
   cases b with
   | true=>exact decide_eq_true (show (0:Int)<=i by omega)
   | false=>exact wfd g l (i+1) t'
theorem w3a (x:Ex) (l:List Ex) (hl:l.length<=1073741824)
 (h:∀ y∈l,∀ t,I t->I (y.anyS g t).1/\xgj Γ prog 41 (thS F n x t) [.agg ((exC y).map .dat),.one (.ptr 5 0)] (thS F n x (y.anyS g t).1) (.one (.dat (cB (y.anyS g t).2))))
 (t:List Int) (ht:I t):xgj Γ prog 70 (thS F n x t) [.one (.dat (.sl 5 (l.map Ex.cells))),.one (.fnr 6)] (thS F n x (Ex.y4w g l t).1) (.one (.dat (cI (w3q g l 0 t)))):=by
 have e1:Ex.y4w g (l.drop 0) t=Ex.y4w g l t:=rfl;have e2:w3q g (l.drop 0) 0 t=w3q g l 0 t:=rfl;generalize Ex.y4w g l t=R at *;generalize w3q g l 0 t=J at *;refine xgj.run [] Go.Proofs.Tryz.func70 rfl rfl ?_;simp only [Go.Proofs.Tryz.f70];refine hgR ?_;refine yxw [0,1,7] (fun p:Nat×List Int=>[(8,.one (.dat (cI p.1)))]) (fun p=>thS F n x p.2) (fun p=>p.1<=l.length/\I p.2/\Ex.y4w g (l.drop p.1) p.2=R/\w3q g (l.drop p.1) p.1 p.2=J) (fun p=>l.length-p.1) (0,t) ⟨Nat.zero_le _,ht,e1,e2⟩ ?_ ?_
 . refine hg ?_;exact StH.same svl rfl
 rintro ⟨i,t'⟩ ⟨hi,hI,hR,hJ⟩;dsimp only at hi hI hR hJ;clear e1 e2 ht;refine hg ?_;refine xw4 (fun hlt _=>?_) (fun hlt _=>?_)
 . have hlt':i<l.length:=by omega
   rw [wde hlt',Ex.w8m] at hR;rw [wde hlt',w3q] at hJ;obtain ⟨hI2,hc⟩:=h _ (xdq hlt') t' hI;refine hg ?_
   repeat' ((first | refine hfk ?_ ?_<;>intros | refine hik ?_)<;>refine hgS ?_)
   refine wq6 hc ?_;clear hc h hI;generalize hu:(l.getD i default).anyS g t'=u at *;obtain ⟨t2,b⟩:=u
   cases b with
   | true=>
    refine hg ?_
    repeat' ((first | refine hfk ?_ ?_<;>intros | refine hik ?_)<;>refine hgS ?_)
    rw [<-hR,<-hJ];exact StH.same svl rfl
   | false=>
    refine hg ?_
    repeat' ((first | refine hfk ?_ ?_<;>intros | refine hik ?_)<;>refine hgS ?_)
    exact ⟨(i+1,t2),⟨by dsimp only;omega,hI2,hR,hJ⟩,by dsimp only;omega,StH.same svl rfl⟩
 . rw [List.drop_eq_nil_of_le (by omega),Ex.y4w] at hR;rw [List.drop_eq_nil_of_le (by omega),w3q] at hJ;rw [<-hR,<-hJ];refine hg ?_
   repeat' ((first | refine hfk ?_ ?_<;>intros | refine hik ?_)<;>refine hgS ?_)
   exact StH.same svl rfl
theorem x14 (x:Ex) (l:List Ex) (hl:l.length<=1073741824)
 (h:∀ y∈l,∀ t,I t->I (y.anyS g t).1/\xgj Γ prog 41 (thS F n x t) [.agg ((exC y).map .dat),.one (.ptr 5 0)] (thS F n x (y.anyS g t).1) (.one (.dat (cB (y.anyS g t).2))))
 (t:List Int) (ht:I t):xgj Γ prog 40 (thS F n x t) [.one (.dat (.sl 5 (l.map Ex.cells))),.one (.fnr 6)] (thS F n x (Ex.y4w g l t).1) (.one (.dat (cB (Ex.y4w g l t).2))):=by
 have h2:=w3a (Γ:=Γ) x l hl h t ht;rw [<-wfd g l 0 t];generalize w3q g l 0 t=j at *;generalize (Ex.y4w g l t).1=t2 at *;clear h;refine xgj.run [] Go.Proofs.Tryz.func40 rfl rfl ?_;simp only [Go.Proofs.Tryz.f40];refine hgR ?_
 repeat' ((first | refine hfk ?_ ?_<;>intros | refine hik ?_)<;>refine hgS ?_)
 refine wq6 h2 ?_;clear h2;refine hg ?_
 repeat' ((first | refine hfk ?_ ?_<;>intros | refine hik ?_)<;>refine hgS ?_)
 exact StH.same svl rfl
theorem wh1:∀ x:Ex,x.Sm->(∀ y,Ex.Nd y x->∀ t,I t->I (g t y).1/\xgj Γ prog 55 (thB F n t) [.agg ((exC y).map .dat),.one (.ptr 2 0)] (thB F n (g t y).1) (.one (.dat (cB (g t y).2))))->
 ∀ t,I t->I (x.anyS g t).1/\xgj Γ prog 23 (thB F n t) [.agg ((exC x).map .dat),.one (.fnr 3)] (thB F n (x.anyS g t).1) (.one (.dat (cB (x.anyS g t).2))):=by
 refine Ex.ind (fun x ih hx h t ht=>?_);have hl:=hx.len
 have h1:∀ y∈x.args,∀ t,I t->I (y.anyS g t).1/\xgj Γ prog 41 (thS F n x t) [.agg ((exC y).map .dat),.one (.ptr 5 0)] (thS F n x (y.anyS g t).1) (.one (.dat (cB (y.anyS g t).2))):=fun y hy t ht=>by
  obtain ⟨hI,hc⟩:=ih y hy (hx.arg y hy) (fun z hz=>h z (.arg hy hz)) t ht;refine ⟨hI,?_⟩;generalize (y.anyS g t).1=t2 at *;generalize (y.anyS g t).2=b at *;clear ih h;refine xgj.run [] Go.Proofs.Tryz.func41 rfl rfl ?_;simp only [Go.Proofs.Tryz.f41];refine hgR ?_
  repeat' ((first | refine hfk ?_ ?_<;>intros | refine hik ?_)<;>refine hgS ?_)
  refine wq6 (xgj.preS (ξ:=[.box ((exC x).map .dat) (some 25),.box [.fnr 3] (some 33),.clo 41 [.one (.ptr 5 0)],.box ((exC y).map .dat) (some 25)]) hc rfl (wgy F n t) (fun r hr=>wgy F n t2 r (fun i hi=>hr i hi)) rfl rfl) ?_;clear hc;refine hg ?_
  repeat' ((first | refine hfk ?_ ?_<;>intros | refine hik ?_)<;>refine hgS ?_)
  exact StH.done 7 rfl (by kernel_rfl) rfl rfl
 obtain ⟨hI0,hq⟩:=h x .here t ht;have h2:=x14 (Γ:=Γ) x x.args hl h1 (g t x).1 hI0;have hkeep:=Ex.xy3 (P:=I) x (fun t y hy ht=>(h y hy t ht).1) t ht;refine ⟨hkeep,?_⟩;clear hkeep h1 ih h hI0 ht;rw [Ex.zvm];generalize g t x=u at *;obtain ⟨t1,a⟩:=u
 cases a with
 | true=>
  clear h2;refine xgj.run [(3,[.clo])] Go.Proofs.Tryz.func23 rfl rfl ?_;simp only [Go.Proofs.Tryz.f23];refine hgR ?_
  repeat' ((first | refine hfk ?_ ?_<;>intros | refine hik ?_)<;>refine hgS ?_)
  refine wq6 (xgj.preS (ξ:=[.box ((exC x).map .dat) (some 25),.box [.fnr 3] (some 33)]) hq rfl (wgy F n t) (fun r hr=>wgy F n t1 r (fun i hi=>hr i hi)) rfl rfl) ?_;clear hq;refine hg ?_
  repeat' ((first | refine hfk ?_ ?_<;>intros | refine hik ?_)<;>refine hgS ?_)
  exact StH.done 4 rfl (by kernel_rfl) rfl rfl
 | false=>
  simp only at h2 ⊢;generalize (Ex.y4w g x.args t1).1=t2 at *;generalize (Ex.y4w g x.args t1).2=b at *;refine xgj.run [(3,[.clo])] Go.Proofs.Tryz.func23 rfl rfl ?_;simp only [Go.Proofs.Tryz.f23];refine hgR ?_
  repeat' ((first | refine hfk ?_ ?_<;>intros | refine hik ?_)<;>refine hgS ?_)
  refine wq6 (xgj.preS (ξ:=[.box ((exC x).map .dat) (some 25),.box [.fnr 3] (some 33)]) hq rfl (wgy F n t) (fun r hr=>wgy F n t1 r (fun i hi=>hr i hi)) rfl rfl) ?_;clear hq;refine hg ?_
  repeat' ((first | refine hfk ?_ ?_<;>intros | refine hik ?_)<;>refine hgS ?_)
  refine wq6 h2 ?_;clear h2;refine hg ?_
  repeat' ((first | refine hfk ?_ ?_<;>intros | refine hik ?_)<;>refine hgS ?_)
  exact StH.done 4 rfl (by kernel_rfl) rfl rfl
end
end Go.Hp.T
namespace Go.Hp.T
open Go Go.RowKit Go.Slot Go.Hp Go.Slot.T
open Go.Proofs.Tryz (prog)
set_option maxRecDepth 10000
set_option maxHeartbeats 4000000
variable {Γ:List (Nat×List Cell)}
end Go.Hp.T
namespace Go.Hp.T
open Go Go.RowKit Go.Slot Go.Hp Go.Slot.T
set_option maxRecDepth 10000
def za9 (place:Nat->Option (Nat×Nat)) (cs:List HC) (ps:List (Nat×SV)):Option (List HC):=zjl place cs ps
def zdn (place:Nat->Option (Nat×Nat)) (cs:List HC) (r:List (Nat×SV)) (a:Option (Nat×Nat)) (b:Option (List HC)):Option (List HC):=match a,b with
 | some (off,size),some us=>if us.length=size/\off+size<=cs.length then zjl place (cs.take off++us++cs.drop (off+size)) r else none
 | _,_=>none
def wkp (place:Nat->Option (Nat×Nat)) (cs:List HC) (r:List (Nat×SV)) (b:Bool):Option (List HC):=bif b then zjl place cs r else none
theorem xrx {place:Nat->Option (Nat×Nat)} {cs:List HC} {ps:List (Nat×SV)}:zjl place cs ps=za9 place cs ps:=rfl
theorem xup {place:Nat->Option (Nat×Nat)} {cs:List HC}:za9 place cs []=some cs:=rfl
theorem wy4 {place:Nat->Option (Nat×Nat)} {cs:List HC} {i:Nat} {x:SV} {r:List (Nat×SV)}:za9 place cs ((i,x)::r)=zdn place cs r (place i) (zxw x):=by
 unfold za9;rw [zjl];rfl
theorem wgs {a b:Nat}:Nat.beq a b=decide (a=b):=by rw [Bool.eq_iff_iff,decide_eq_true_iff,Nat.beq_eq]
theorem xsn {a b:Nat}:Nat.ble a b=decide (a<=b):=by rw [Bool.eq_iff_iff,decide_eq_true_iff,Nat.ble_eq]
theorem vqy {a b:Nat} (h:a<=b):Nat.ble a b=true:=Nat.ble_eq_true_of_le h
theorem zhv {place:Nat->Option (Nat×Nat)} {cs us:List HC} {off size:Nat} {r:List (Nat×SV)}:zdn place cs r (some (off,size)) (some us)=wkp place (cs.take off++(us++cs.drop (off+size))) r (Nat.beq us.length size&&Nat.ble (off+size) cs.length):=by
 rw [<-List.append_assoc];show (if us.length=size/\off+size<=cs.length then zjl place (cs.take off++us++cs.drop (off+size)) r else none)=_;rw [wgs,xsn];by_cases h1:us.length=size
 . by_cases h2:off+size<=cs.length
   . rw [if_pos ⟨h1,h2⟩,decide_eq_true h1,decide_eq_true h2];rfl
   . rw [if_neg (fun h=>h2 h.2),decide_eq_false h2,Bool.and_false];rfl
 . rw [if_neg (fun h=>h1 h.1),decide_eq_false h1];rfl
theorem wow {place:Nat->Option (Nat×Nat)} {cs:List HC} {r:List (Nat×SV)}:wkp place cs r true=za9 place cs r:=rfl
attribute [go_sem ↓ 30000] xrx
attribute [go_sem] xup wy4 zhv wow wgs vqy
end Go.Hp.T
namespace Go.Hp.T
open Go Go.RowKit Go.Slot Go.Hp Go.Slot.T
open Go.Proofs.Tryz (prog)
attribute [local irreducible] hide RH
set_option maxRecDepth 10000
set_option maxHeartbeats 4000000
variable {Γ:List (Nat×List Cell)}
theorem n12:((12:Nat):Int)=12:=rfl
attribute [go_sem] n12
mutual
def Ex.rsz:Ex->Int->Int->Int
 | .mk _ _ _ _ l,n,lv=>bif decide (n<1)||decide (lv<1) then -1 else Ex.rszL l n lv 1
def Ex.rszL:List Ex->Int->Int->Int->Int
 | [],_,_,k=>k
 | y::l,n,lv,k=>bif decide (Ex.rsz y (n-k) (lv-1)<0) then -1 else Ex.rszL l n lv (k+Ex.rsz y (n-k) (lv-1))
end
theorem Ex.zbq (x:Ex) (n lv:Int):x.rsz n lv=bif decide (n<1)||decide (lv<1) then -1 else Ex.rszL x.args n lv 1:=by cases x;rw [Ex.rsz];rfl
theorem Ex.x2t:∀(l:List Ex),(∀ y∈l,∀ n lv:Int,-1<=y.rsz n lv/\(0<=y.rsz n lv->y.rsz n lv<=n))->∀ n lv k:Int,1<=k->k<=n->-1<=Ex.rszL l n lv k/\(0<=Ex.rszL l n lv k->Ex.rszL l n lv k<=n)
 | [],_,n,lv,k,h1,h2=>by rw [Ex.rszL];omega
 | y::l,h,n,lv,k,h1,h2=>by
  rw [Ex.rszL];have hy:=h y (by simp) (n-k) (lv-1);generalize y.rsz (n-k) (lv-1)=m at hy;by_cases hm:m<0
  . rw [decide_eq_true hm];simp only [cond_true];omega
  . rw [decide_eq_false hm];exact Ex.x2t l (fun z hz=>h z (by simp [hz])) n lv (k+m) (by omega) (by omega)
theorem Ex.vex:∀(x:Ex) (n lv:Int),-1<=x.rsz n lv/\(0<=x.rsz n lv->x.rsz n lv<=n):=by
 refine Ex.ind (fun x ih n lv=>?_);rw [Ex.zbq];by_cases h1:n<1
 . rw [decide_eq_true h1];simp only [Bool.true_or,cond_true];omega
 . by_cases h2:lv<1
   . rw [decide_eq_true h2];simp only [Bool.or_true,cond_true];omega
   . rw [decide_eq_false h1,decide_eq_false h2];exact Ex.x2t x.args ih n lv 1 (by omega) (by omega)
theorem vpf:∀ x:Ex,x.Sm->∀ n lv:Int,n<=1000->lv<=1000->0<=n->0<=lv->CallsD Γ prog 28 [.agg (exC x),.one (cI n),.one (cI lv)] (.one (cI (x.rsz n lv))):=by
 refine Ex.ind (fun x ih hx n lv hn hlv hn0 hlv0=>?_);have hl:=hx.len;refine CallsD.run [] Go.Proofs.Tryz.func28 rfl rfl rfl ?_;simp only [Go.Proofs.Tryz.f28];refine hgR ?_
 repeat' ((first | refine hfk ?_ ?_<;>intros | refine hik ?_)<;>refine hgS ?_)
 . rename_i h1 _ h2 _;exact RLe.ofEq (by rw [Ex.zbq,decide_eq_true h2,Bool.or_true];rfl)
 . rename_i h1 _ h2 _
   have e0:x.rsz n lv=Ex.rszL x.args n lv 1:=by rw [Ex.zbq,decide_eq_false h1,decide_eq_false h2];rfl
   refine yxw [1,2,3] (fun p:Nat×Int=>[(7,.one (.dat (cI p.2))),(8,.one (.dat (cI p.1)))]) (fun _=>[.box ((exC x).map .dat) (some 25)]) (fun p=>p.1<=x.args.length/\1<=p.2/\p.2<=n/\Ex.rszL (x.args.drop p.1) n lv p.2=Ex.rszL x.args n lv 1) (fun p=>x.args.length-p.1) (0,1) ⟨Nat.zero_le _,by simp only;omega,by simp only;omega,rfl⟩ ?_ ?_
   . refine hg ?_;exact StH.same svl rfl
   rintro ⟨i,k⟩ ⟨hi,hk1,hk2,hc⟩;simp only at hi hk1 hk2 hc;refine hg ?_;refine xw4 (fun hlt hd=>?_) (fun hlt _=>?_)
   . have hlt':i<x.args.length:=by omega
     have hy:=xdq hlt';have hcc:=ih _ hy (hx.arg _ hy) (n-k) (lv-1) (by omega) (by omega) (by omega) (by omega);have hb:=Ex.vex (x.args.getD i default) (n-k) (lv-1);rw [wde hlt',Ex.rszL] at hc;generalize (x.args.getD i default).rsz (n-k) (lv-1)=m at hcc hb hc;rw [e0,<-hc];clear e0 hc;refine hg1 @hd ?_
     repeat' ((first | refine hfk ?_ ?_<;>intros | refine hik ?_ | with_reducible first | refine v47 (hcc) ?_ | refine vrf (hcc) ?_)<;>refine hgS ?_)
     . exact RLe.ofEq rfl
     . exact ⟨(i+1,k+m),⟨by simp only;omega,by simp only;omega,by simp only;omega,rfl⟩,by simp only;omega,StH.same svl rfl⟩
   . refine hg ?_;rw [e0,<-hc,List.drop_eq_nil_of_le (by omega),Ex.rszL];exact RLe.ofEq rfl
 . rename_i h1 _;exact RLe.ofEq (by rw [Ex.zbq,decide_eq_true h1];rfl)
theorem rFew (x:Ex) (hx:x.Sm) (n lv:Int) (hn:n<=1000) (hlv:lv<=1000) (hn0:0<=n) (hlv0:0<=lv):CallsD Γ prog 10 [.agg (exC x),.one (cI n),.one (cI lv)] (.one (cB (decide (0<=x.rsz n lv)))):=by
 have h:=vpf (Γ:=Γ) x hx n lv hn hlv hn0 hlv0;refine CallsD.run [] Go.Proofs.Tryz.func10 rfl rfl rfl ?_;simp only [Go.Proofs.Tryz.f10];refine hgR ?_
 repeat' ((first | refine hfk ?_ ?_<;>intros | refine hik ?_ | with_reducible first | refine v47 (h) ?_ | refine vrf (h) ?_)<;>refine hgS ?_)
 all_goals exact RLe.ofEq rfl
end Go.Hp.T
namespace Go.Hp.T
open Go Go.RowKit Go.Slot Go.Hp Go.Slot.T
set_option maxRecDepth 10000
mutual
def Ex.sz:Ex->Int
 | .mk _ _ _ _ l=>1+Ex.szL l
def Ex.szL:List Ex->Int
 | []=>0
 | y::l=>Ex.sz y+Ex.szL l
end
mutual
def Ex.dp:Ex->Int
 | .mk _ _ _ _ l=>1+Ex.dpL l
def Ex.dpL:List Ex->Int
 | []=>0
 | y::l=>max (Ex.dp y) (Ex.dpL l)
end
theorem Ex.ziq (x:Ex):x.sz=1+Ex.szL x.args:=by cases x;rw [Ex.sz];rfl
theorem Ex.ynm (x:Ex):x.dp=1+Ex.dpL x.args:=by cases x;rw [Ex.dp];rfl
theorem Ex.vr0:∀{l:List Ex},(∀ y∈l,1<=y.sz)->0<=Ex.szL l
 | [],_=>by rw [Ex.szL];omega
 | y::l,h=>by
  have:=h y (by simp)
  have:=Ex.vr0 (fun z hz=>h z (List.mem_cons_of_mem _ hz))
  rw [Ex.szL];omega
theorem Ex.vkb:∀ x:Ex,1<=x.sz:=by
 refine Ex.ind (fun x ih=>?_)
 have:=Ex.vr0 ih
 rw [Ex.ziq];omega
theorem Ex.x9a:∀ l:List Ex,0<=Ex.dpL l
 | []=>by rw [Ex.dpL];omega
 | y::l=>by
  have:=Ex.x9a l
  rw [Ex.dpL];omega
theorem Ex.wli (x:Ex):1<=x.dp:=by have:=Ex.x9a x.args;rw [Ex.ynm];omega
theorem Ex.vhc (l:List Ex):0<=Ex.szL l:=Ex.vr0 (fun y _=>Ex.vkb y)
theorem Ex.vr4:∀ l m:List Ex,Ex.szL (l++m)=Ex.szL l+Ex.szL m
 | [],m=>by rw [Ex.szL];simp
 | y::l,m=>by rw [List.cons_append,Ex.szL,Ex.szL,Ex.vr4 l m];omega
theorem Ex.wzp:∀ l m:List Ex,Ex.dpL (l++m)=max (Ex.dpL l) (Ex.dpL m)
 | [],m=>by have:=Ex.x9a m;rw [List.nil_append,show Ex.dpL []=0 by rw [Ex.dpL]];omega
 | y::l,m=>by rw [List.cons_append,Ex.dpL,Ex.dpL,Ex.wzp l m];omega
theorem Ex.wza:∀ l:List Ex,(∀ y∈l,∀ n lv:Int,(y.cnt n lv).1=decide (n+y.sz<=200/\lv+y.dp<=21)/\((y.cnt n lv).1=true->(y.cnt n lv).2=n+y.sz))->
 ∀ n lv:Int,n<=200->lv<=21->(Ex.cntL l n lv).1=decide (n+Ex.szL l<=200/\lv+Ex.dpL l<=21)/\((Ex.cntL l n lv).1=true->(Ex.cntL l n lv).2=n+Ex.szL l)
 | [],_,n,lv,h1,h2=>by
  rw [Ex.cntL,Ex.szL,Ex.dpL];exact ⟨(decide_eq_true (by omega)).symm,fun _=>by simp⟩
 | y::l,hy,n,lv,h1,h2=>by
  rw [Ex.cntL,Ex.szL,Ex.dpL];obtain ⟨a1,a2⟩:=hy y (by simp) n lv
  have:=Ex.vhc l
  have:=Ex.x9a l
  have:=Ex.vkb y
  cases hr:y.cnt n lv with
  | mk b m=>
   rw [hr] at a1 a2
   cases b with
   | false=>
    have a1:=of_decide_eq_false a1.symm;exact ⟨(decide_eq_false (by omega)).symm,fun h=>by cases h⟩
   | true=>
    have e:=a2 rfl;have a1:=of_decide_eq_true a1.symm;simp only at e;subst e;obtain ⟨b1,b2⟩:=Ex.wza l (fun z hz=>hy z (List.mem_cons_of_mem _ hz)) (n+y.sz) lv (by omega) h2;refine ⟨b1.trans ?_,fun h=>(b2 h).trans (by omega)⟩;by_cases h:n+y.sz+Ex.szL l<=200/\lv+Ex.dpL l<=21
    . rw [decide_eq_true h,decide_eq_true (by omega)]
    . rw [decide_eq_false h,decide_eq_false (by omega)]
theorem Ex.x9f:∀(x:Ex) (n lv:Int),(x.cnt n lv).1=decide (n+x.sz<=200/\lv+x.dp<=21)/\((x.cnt n lv).1=true->(x.cnt n lv).2=n+x.sz):=by
 refine Ex.ind (fun x ih n lv=>?_);have h3:=Ex.vhc x.args;have h4:=Ex.x9a x.args;rw [Ex.zl2,Ex.ziq,Ex.ynm];by_cases h1:200<n+1
 . rw [decide_eq_true h1];exact ⟨(decide_eq_false (by omega)).symm,fun h=>by cases h⟩
 . by_cases h2:20<lv
   . rw [decide_eq_true h2,Bool.or_true];exact ⟨(decide_eq_false (by omega)).symm,fun h=>by cases h⟩
   . rw [decide_eq_false h1,decide_eq_false h2];obtain ⟨b1,b2⟩:=Ex.wza x.args ih (n+1) (lv+1) (by omega) (by omega);refine ⟨b1.trans ?_,fun h=>(b2 h).trans (by omega)⟩;by_cases h:n+1+Ex.szL x.args<=200/\lv+1+Ex.dpL x.args<=21
     . rw [decide_eq_true h,decide_eq_true (by omega)]
     . rw [decide_eq_false h,decide_eq_false (by omega)]
theorem yqj (x:Ex):z7n x=true↔x.sz<=200/\x.dp<=20/\x.shaped=true:=by
 have h:=(Ex.x9f x 0 1).1;unfold z7n;rw [Bool.and_eq_true,h,decide_eq_true_eq];constructor
 . rintro ⟨a,b⟩;exact ⟨by omega,by omega,b⟩
 . rintro ⟨a,b,c⟩;exact ⟨by omega,c⟩
theorem Ex.xa5:∀ l:List Ex,(∀ y∈l,∀ n lv:Int,(0<=y.rsz n lv↔y.sz<=n/\y.dp<=lv)/\(0<=y.rsz n lv->y.rsz n lv=y.sz))->
 ∀ n lv k:Int,0<=k->k<=n->1<=lv->(0<=Ex.rszL l n lv k↔k+Ex.szL l<=n/\1+Ex.dpL l<=lv)/\(0<=Ex.rszL l n lv k->Ex.rszL l n lv k=k+Ex.szL l)
 | [],_,n,lv,k,h0,h1,h2=>by rw [Ex.rszL,Ex.szL,Ex.dpL];omega
 | y::l,hy,n,lv,k,h0,h1,h2=>by
  rw [Ex.rszL,Ex.szL,Ex.dpL];have a:=hy y (by simp) (n-k) (lv-1)
  have:=Ex.vhc l
  have:=Ex.x9a l
  have:=Ex.vkb y
  generalize y.rsz (n-k) (lv-1)=m at a;by_cases hm:m<0
  . rw [decide_eq_true hm];simp only [cond_true];omega
  . rw [decide_eq_false hm];simp only [cond_false];have e:=a.2 (by omega);subst e;have b:=Ex.xa5 l (fun z hz=>hy z (List.mem_cons_of_mem _ hz)) n lv (k+y.sz) (by omega) (by omega) h2;omega
theorem Ex.v19:∀(x:Ex) (n lv:Int),(0<=x.rsz n lv↔x.sz<=n/\x.dp<=lv)/\(0<=x.rsz n lv->x.rsz n lv=x.sz):=by
 refine Ex.ind (fun x ih n lv=>?_);have h3:=Ex.vhc x.args;have h4:=Ex.x9a x.args;rw [Ex.zbq,Ex.ziq,Ex.ynm];by_cases h1:n<1
 . rw [decide_eq_true h1];simp only [Bool.true_or,cond_true];omega
 . by_cases h2:lv<1
   . rw [decide_eq_true h2];simp only [Bool.or_true,cond_true];omega
   . rw [decide_eq_false h1,decide_eq_false h2];simp only [Bool.or_false,cond_false]
     have:=Ex.xa5 x.args ih n lv 1 (by omega) (by omega) (by omega)
     omega
def Wh.ok (w:Wh):Prop:=w=Wh.none\/(w.full=false/\w.nodes=w.x.sz/\w.levels=w.x.dp/\w.x.sz<=200/\w.x.dp<=20)
theorem Wh.ok_none:Wh.none.ok:=.inl rfl
theorem Wh.ok.no {w:Wh} (h:w.ok) (hf:w.full=false):w.nodes=w.x.sz/\w.levels=w.x.dp/\w.x.sz<=200/\w.x.dp<=20:=by
 rcases h with h | h
 . rw [h] at hf;cases hf
 . exact h.2
theorem Wh.ok.yes {w:Wh} (h:w.ok) (hf:w.full=true):w=Wh.none:=by
 rcases h with h | h
 . exact h
 . rw [hf] at h;cases h.1
theorem va5 (x:Ex):∀(ws:List Wh) (n lv:Int) (l:List Ex),(∀ w∈ws,w.ok)->n=1+Ex.szL l->lv=1+Ex.dpL l->n<=200->lv<=20->
 vd1 x ws n lv l=if (∀ w∈ws,w.full=false)/\1+Ex.szL (l++ws.map Wh.x)<=200/\1+Ex.dpL (l++ws.map Wh.x)<=20 then ⟨x.withArgs (l++ws.map Wh.x),1+Ex.szL (l++ws.map Wh.x),1+Ex.dpL (l++ws.map Wh.x),false⟩ else Wh.none
 | [],n,lv,l,_,h1,h2,h3,h4=>by
  rw [vd1,if_pos ⟨fun w hw=>(by cases hw),by simp;omega,by simp;omega⟩,h1,h2];simp
 | y::ws,n,lv,l,hw,h1,h2,h3,h4=>by
  rw [vd1];have hy:=hw y (by simp);have p1:=Ex.vhc (ws.map Wh.x);have p2:=Ex.x9a (ws.map Wh.x);have p3:=Ex.vkb y.x
  have s1:Ex.szL (l++(y::ws).map Wh.x)=Ex.szL l+y.x.sz+Ex.szL (ws.map Wh.x):=by rw [Ex.vr4,List.map_cons,Ex.szL];omega
  have s2:Ex.dpL (l++(y::ws).map Wh.x)=max (Ex.dpL l) (max y.x.dp (Ex.dpL (ws.map Wh.x))):=by rw [Ex.wzp,List.map_cons,Ex.dpL]
  cases hf:y.full with
  | true=>
   simp only [Bool.true_or,cond_true];rw [if_neg (fun h=>by have:=h.1 y (by simp);rw [hf] at this;cases this)]
  | false=>
   obtain ⟨e1,e2,e3,e4⟩:=hy.no hf;by_cases c1:200<n+y.nodes
   . rw [decide_eq_true c1];simp only [Bool.or_true,Bool.true_or,cond_true];rw [if_neg (fun h=>by rw [s1] at h;omega)]
   by_cases c2:20<max lv (y.levels+1)
   . rw [decide_eq_true c2];simp only [Bool.or_true,cond_true];rw [if_neg (fun h=>by rw [s2] at h;omega)]
   rw [decide_eq_false c1,decide_eq_false c2];simp only [Bool.or_false,cond_false]
   have q1:Ex.szL (l++[y.x])=Ex.szL l+y.x.sz:=by rw [Ex.vr4,Ex.szL,Ex.szL];omega
   have q2:Ex.dpL (l++[y.x])=max (Ex.dpL l) y.x.dp:=by rw [Ex.wzp,Ex.dpL,Ex.dpL];have:=Ex.wli y.x;omega
   rw [va5 x ws _ _ (l++[y.x]) (fun w h=>hw w (List.mem_cons_of_mem _ h)) (by rw [q1];omega) (by rw [q2];omega) (by omega) (by omega)];rw [show l++[y.x]++ws.map Wh.x=l++(y::ws).map Wh.x by simp]
   have ef:(∀ w∈y::ws,w.full=false)↔(∀ w∈ws,w.full=false):=⟨fun h w hw=>h w (List.mem_cons_of_mem _ hw),fun h w hw=>by
    rcases List.mem_cons.1 hw with e | e
    . rw [e];exact hf
    . exact h w e⟩
   simp only [ef]
def xpr (x:Ex) (ws:List Wh):Prop:=(∀ w∈ws,w.full=false)/\(x.withArgs (ws.map Wh.x)).sz<=200/\(x.withArgs (ws.map Wh.x)).dp<=20
theorem ygy (x:Ex) (ws:List Wh) (h:∀ w∈ws,w.ok):(xpr x ws/\xi7 x ws=⟨x.withArgs (ws.map Wh.x),(x.withArgs (ws.map Wh.x)).sz,(x.withArgs (ws.map Wh.x)).dp,false⟩)\/(¬xpr x ws/\xi7 x ws=Wh.none):=by
 unfold xi7 xpr;rw [va5 x ws 1 1 [] h (by rw [Ex.szL];omega) (by rw [Ex.dpL];omega) (by omega) (by omega),Ex.ziq,Ex.ynm,List.nil_append];show (_/\(if _ then _ else _)=Wh.mk (x.withArgs (ws.map Wh.x)) (1+Ex.szL (ws.map Wh.x)) (1+Ex.dpL (ws.map Wh.x)) false)\/_
 split
 . rename_i hh;exact .inl ⟨hh,rfl⟩
 . rename_i hh;exact .inr ⟨hh,rfl⟩
theorem xeh (x:Ex) (ws:List Wh) (h:∀ w∈ws,w.ok):(xi7 x ws).ok:=by
 rcases ygy x ws h with ⟨h1,h2⟩ | ⟨_,h2⟩<;>rw [h2]
 . exact .inr ⟨rfl,rfl,rfl,h1.2.1,h1.2.2⟩
 . exact Wh.ok_none
end Go.Hp.T
