/- The proof, part Z33: 1t, 1u, 1v, 1w, 1x, 1y. -/
import Derived.Test.YtocdljjhobaabaaGreatDoorZ32
import Derived.Test.YtocdljjhobaabaaGreatDoorZ28
import Derived.Shelf.Strings.OnBuilder
import Derived.Shelf.Strconv.Itoa3
namespace Go.Hp.T
open Go Go.RowKit Go.Slot Go.Hp Go.Slot.T
open Go.Proofs.Tryz (prog)
attribute [local irreducible] hide RH
set_option maxRecDepth 10000
set_option maxHeartbeats 8000000
variable {Γ:List (Nat×List Cell)}
theorem ymw {p:Ex->Bool} {l:List Ex} {j:Nat} (hj:j<l.length) (h:p (l.getD j default)=true):l.any p=true:=List.any_eq_true.2 ⟨_,xdq hj,h⟩
theorem xfa {p:Ex->Bool} {l:List Ex} (h:∀ j,j<l.length->p (l.getD j default)=false):l.any p=false:=by
 cases e:l.any p with
 | false=>rfl
 | true=>
  obtain ⟨x,hx,hp⟩:=List.any_eq_true.1 e;obtain ⟨i,hi,rfl⟩:=List.getElem_of_mem hx
  have:=h i hi
  rw [show l.getD i default=l[i] by simp [hi],hp] at this
  cases this
theorem wv6:∀ x:Ex,x.Sm->CallsD Γ prog 12 [.agg (exC x)] (.one (cB x.yp0)):=by
 refine Ex.ind (fun x ih hx=>?_);have hl:=hx.len;rw [Ex.ze7,Bool.or_comm];refine CallsD.run [] Go.Proofs.Tryz.func12 rfl rfl rfl ?_;simp only [Go.Proofs.Tryz.f12];refine hgR ?_;refine yxw [1] (fun n:Nat=>[(3,.one (.dat (cI n)))]) (fun _=>[.box ((exC x).map .dat) (some 25)]) (fun n=>n<=x.args.length/\∀ j,j<n->(x.args.getD j default).yp0=false) (fun n=>x.args.length-n) 0 ⟨Nat.zero_le _,fun j hj=>by omega⟩ ?_ ?_
 . refine hg ?_;exact StH.same svl rfl
 intro n hn;obtain ⟨hn,hj⟩:=hn;refine hg ?_
 repeat' ((first | refine hfk ?_ ?_<;>intros | refine hik ?_ | with_reducible first | refine v47 (ih _ (xdq (show n<x.args.length by omega)) (hx.arg _ (xdq (show n<x.args.length by omega)))) ?_ | refine vrf (ih _ (xdq (show n<x.args.length by omega)) (hx.arg _ (xdq (show n<x.args.length by omega)))) ?_)<;>refine hgS ?_)
 . rename_i h1;rw [ymw (by omega) h1];exact RLe.ofEq rfl
 . rename_i h1;exact ⟨n+1,⟨by omega,w9q hj (by simpa using h1)⟩,by omega,StH.same svl rfl⟩
 . have e:n=x.args.length:=by omega
   subst e;rw [xfa hj];exact RLe.ofEq rfl
def vow (o:Int) (s:ByteArray) (y:Ex):Bool:=decide (y.op=o)&&seq y.name s
theorem zqj (o:Int) (s:ByteArray):∀ x:Ex,x.Sm->CallsD Γ prog 33 [.agg (exC x),.one (cI o),.one (cS s)] (.one (cB (x.anyN (vow o s)))):=by
 refine Ex.ind (fun x ih hx=>?_);have hl:=hx.len;rw [Ex.x9i,Bool.or_comm];refine CallsD.run [] Go.Proofs.Tryz.func33 rfl rfl rfl ?_;simp only [Go.Proofs.Tryz.f33];refine hgR ?_;refine yxw [1,2,3] (fun n:Nat=>[(7,.one (.dat (cI n)))]) (fun _=>[.box ((exC x).map .dat) (some 25)]) (fun n=>n<=x.args.length/\∀ j,j<n->(x.args.getD j default).anyN (vow o s)=false) (fun n=>x.args.length-n) 0 ⟨Nat.zero_le _,fun j hj=>by omega⟩ ?_ ?_
 . refine hg ?_;exact StH.same svl rfl
 intro n hn;obtain ⟨hn,hj⟩:=hn;refine hg ?_
 repeat' ((first | refine hfk ?_ ?_<;>intros | refine hik ?_ | with_reducible first | refine v47 (ih _ (xdq (show n<x.args.length by omega)) (hx.arg _ (xdq (show n<x.args.length by omega)))) ?_ | refine vrf (ih _ (xdq (show n<x.args.length by omega)) (hx.arg _ (xdq (show n<x.args.length by omega)))) ?_)<;>refine hgS ?_)
 . rename_i h1;rw [ymw (by omega) h1];exact RLe.ofEq rfl
 . rename_i h1;exact ⟨n+1,⟨by omega,w9q hj (by simpa using h1)⟩,by omega,StH.same svl rfl⟩
 all_goals
  have e:n=x.args.length:=by omega
  subst e;rw [xfa hj];exact RLe.ofEq (by simp [vow, *])
theorem xfs {p:Ex->Bool} {l:List Ex} {i:Nat} (h:∀ j,j<i->p (l.getD j default)=false) (h2:p (l.getD i default)=false):∀ j,j<i+1->p (l.getD j default)=false:=fun j hj=>by
 rcases Nat.lt_or_eq_of_le (Nat.le_of_lt_succ hj) with h3 | h3
 . exact h j h3
 . rw [h3];exact h2
theorem wmf (s:ByteArray):∀ x:Ex,x.Sm->CallsD Γ prog 17 [.agg (exC x),.one (cS s)] (.one (cB (y3r s x))):=by
 refine Ex.ind (fun x ih hx=>?_);have hl:=hx.len
 have hi:∀ y∈x.args,CallsD Γ prog 17 [.agg (exC y),.one (cS s)] (.one (cB (y.anyN (vow 3 s)))):=fun y hy=>ih y hy (hx.arg y hy)
 show CallsD Γ prog _ _ (.one (cB (x.anyN (vow 3 s))));rw [Ex.x9i];clear ih
 have yxw:∀ a:Bool,vow 3 s x=a->CallsD Γ prog 17 [.agg (exC x),.one (cS s)] (.one (cB (a||x.args.any (Ex.anyN (vow 3 s))))):=by
  intro a ha;unfold vow at ha
  cases a with
  | true=>
   rw [Bool.and_eq_true] at ha;obtain ⟨d1,d2⟩:=ha;refine CallsD.run [] Go.Proofs.Tryz.func17 rfl rfl rfl ?_;simp only [Go.Proofs.Tryz.f17];refine hgR ?_;refine hg2 @d1 @d2 ?_
   repeat' ((first | refine hfk ?_ ?_<;>intros | refine hik ?_)<;>refine hgS ?_)
   all_goals first
    | exact RLe.ofEq rfl
    | (exfalso;simp_all;done)
  | false=>
   have key:CallsD Γ prog 17 [.agg (exC x),.one (cS s)] (.one (cB (false||x.args.any (Ex.anyN (vow 3 s))))):=by
    by_cases h3:x.op=3
    . have d0:decide (x.op=3)=true:=decide_eq_true h3
      have d1:seq x.name s=false:=by rw [d0,Bool.true_and] at ha;exact ha
      clear h3 ha;refine CallsD.run [] Go.Proofs.Tryz.func17 rfl rfl rfl ?_;simp only [Go.Proofs.Tryz.f17];refine hgR ?_;refine hg2 @d0 @d1 ?_
      repeat' ((first | refine hfk ?_ ?_<;>intros | refine hik ?_)<;>refine hgS ?_)
      refine yxw [1,2] (fun n:Nat=>[(5,.one (.dat (cI n)))]) (fun _=>[.box ((exC x).map .dat) (some 25)]) (fun n=>n<=x.args.length/\∀ j,j<n->(x.args.getD j default).anyN (vow 3 s)=false) (fun n=>x.args.length-n) 0 ⟨Nat.zero_le _,fun j hj=>by omega⟩ ?_ ?_
      . refine hg ?_;exact StH.same svl rfl
      intro n hn;obtain ⟨hn,hj⟩:=hn;refine hg ?_
      repeat' ((first | refine hfk ?_ ?_<;>intros | refine hik ?_ | with_reducible first | refine v47 (hi _ (xdq (show n<x.args.length by omega))) ?_ | refine vrf (hi _ (xdq (show n<x.args.length by omega))) ?_)<;>refine hgS ?_)
      . rename_i h1;rw [ymw (by omega) h1];exact RLe.ofEq (by simp)
      . rename_i h1;exact ⟨n+1,⟨by omega,xfs hj (by simpa using h1)⟩,by omega,StH.same svl rfl⟩
      . have e:n=x.args.length:=by omega
        subst e;rw [xfa hj];exact RLe.ofEq rfl
    . have d0:decide (x.op=3)=false:=decide_eq_false h3;clear h3 ha;refine CallsD.run [] Go.Proofs.Tryz.func17 rfl rfl rfl ?_;simp only [Go.Proofs.Tryz.f17];refine hgR ?_;refine hg1 @d0 ?_
      repeat' ((first | refine hfk ?_ ?_<;>intros | refine hik ?_)<;>refine hgS ?_)
      refine yxw [1,2] (fun n:Nat=>[(5,.one (.dat (cI n)))]) (fun _=>[.box ((exC x).map .dat) (some 25)]) (fun n=>n<=x.args.length/\∀ j,j<n->(x.args.getD j default).anyN (vow 3 s)=false) (fun n=>x.args.length-n) 0 ⟨Nat.zero_le _,fun j hj=>by omega⟩ ?_ ?_
      . refine hg ?_;exact StH.same svl rfl
      intro n hn;obtain ⟨hn,hj⟩:=hn;refine hg ?_
      repeat' ((first | refine hfk ?_ ?_<;>intros | refine hik ?_ | with_reducible first | refine v47 (hi _ (xdq (show n<x.args.length by omega))) ?_ | refine vrf (hi _ (xdq (show n<x.args.length by omega))) ?_)<;>refine hgS ?_)
      . rename_i h1;rw [ymw (by omega) h1];exact RLe.ofEq (by simp)
      . rename_i h1;exact ⟨n+1,⟨by omega,xfs hj (by simpa using h1)⟩,by omega,StH.same svl rfl⟩
      . have e:n=x.args.length:=by omega
        subst e;rw [xfa hj];exact RLe.ofEq rfl
   exact key
 exact yxw _ rfl
theorem y5n:∀ x:Ex,x.Sm->CallsD Γ prog 11 [.agg (exC x),.agg (exC x)] (.one (cB true)):=by
 refine Ex.ind (fun x ih hx=>?_);have hl:=hx.len
 have hs1:seq x.unit x.unit=true:=by rw [veo];exact decide_eq_true rfl
 have hs2:seq x.name x.name=true:=by rw [veo];exact decide_eq_true rfl
 refine CallsD.run [] Go.Proofs.Tryz.func11 rfl rfl rfl ?_;simp only [Go.Proofs.Tryz.f11];refine hgR ?_;refine hg2 @hs1 @hs2 ?_
 repeat' ((first | refine hfk ?_ ?_<;>intros | refine hik ?_)<;>refine hgS ?_)
 refine yxw [2,3] (fun n:Nat=>[(5,.one (.dat (cI n)))]) (fun _=>[.box ((exC x).map .dat) (some 25),.box ((exC x).map .dat) (some 25)]) (fun n=>n<=x.args.length) (fun n=>x.args.length-n) 0 (Nat.zero_le _) ?_ ?_
 . refine hg ?_;exact StH.same svl rfl
 intro n hn;refine hg ?_
 repeat' ((first | refine hfk ?_ ?_<;>intros | refine hik ?_ | with_reducible first | refine v47 (ih _ (xdq (show n<x.args.length by omega)) (hx.arg _ (xdq (show n<x.args.length by omega)))) ?_ | refine vrf (ih _ (xdq (show n<x.args.length by omega)) (hx.arg _ (xdq (show n<x.args.length by omega)))) ?_)<;>refine hgS ?_)
 . exact ⟨n+1,by omega,by omega,StH.same svl rfl⟩
 . exact RLe.ofEq rfl
theorem wju:CallsD Γ prog 11 [.agg (exC Ex.zero),.agg [cI 0,cI 0,cS ⟨#[]⟩,cS ⟨#[]⟩,.zc]] (.one (cB true)):=by
 change CallsD Γ prog _ [.agg [cI 0,cI 0,cS ⟨#[]⟩,cS ⟨#[]⟩,.sl 5 []],_] _;refine CallsD.run [] Go.Proofs.Tryz.func11 rfl rfl rfl ?_;simp only [Go.Proofs.Tryz.f11];refine hgR ?_
 repeat' ((first | refine hfk ?_ ?_<;>intros | refine hik ?_)<;>refine hgS ?_)
 refine z7r ?_;refine hg ?_
 repeat' ((first | refine hfk ?_ ?_<;>intros | refine hik ?_)<;>refine hgS ?_)
 all_goals first
  | exact RLe.ofEq rfl
  | (exfalso;simp_all;done)
theorem ylq (F:List Fnc) (x:Ex) (hF:F.length<=1073741824) (hS:∀ f∈F,f.Sm) (hx:x.Sm):∀ y:Ex,y.Sm->
 (∀ z,Ex.Nd z y->(z.op=1->x.anyN (vow 1 z.name)=true)/\(z.op=2->(x.anyN (vow 2 z.name)||F.any fun f=>f.body.anyN (vow 2 z.name))=true))->
 CallsD Γ prog 15 [.agg (exC y),.agg (exC x),.one (.sl 7 (F.map Fnc.C))] (.one (cB true)):=by
 refine Ex.ind (fun y ih hy ho=>?_);have hl:=hy.len;obtain ⟨h1,h2⟩:=ho y .here
 have hi:∀ i,i<y.args.length->CallsD Γ prog 15 [.agg (exC (y.args.getD i default)),.agg (exC x),.one (.sl 7 (F.map Fnc.C))] (.one (cB true)):=fun i hi=>ih _ (xdq hi) (hy.arg _ (xdq hi)) (fun z hz=>ho z (.arg (xdq hi) hz))
 clear ih ho;by_cases c1:y.op=1
 . have d1:decide (y.op=1)=true:=decide_eq_true c1;have d2:decide (y.op=2)=false:=decide_eq_false (by omega);have a1:=zqj (Γ:=Γ) 1 y.name x hx;rw [h1 c1] at a1;clear c1 h1 h2;refine CallsD.run [] Go.Proofs.Tryz.func15 rfl rfl rfl ?_;simp only [Go.Proofs.Tryz.f15];refine hgR ?_;refine hg2 @d1 @d2 ?_
   repeat' ((first | refine hfk ?_ ?_<;>intros | refine hik ?_ | with_reducible first | refine v47 (a1) ?_ | refine vrf (a1) ?_)<;>refine hgS ?_)
   refine hg2 @d1 @d2 ?_
   repeat' ((first | refine hfk ?_ ?_<;>intros | refine hik ?_)<;>refine hgS ?_)
   refine yxw [2,3,4] (fun n:Nat=>[(9,.one (.dat (cI n)))]) (fun _=>[.box ((exC y).map .dat) (some 25),.box ((exC x).map .dat) (some 25)]) (fun n=>n<=y.args.length) (fun n=>y.args.length-n) 0 (Nat.zero_le _) ?_ ?_
   . refine hg ?_;exact StH.same svl rfl
   intro n hn;refine hg ?_;refine xw4 (fun hlt _=>?_) (fun hlt _=>?_)
   . have hlt':n<y.args.length:=by omega
     have hc:=hi _ hlt';refine hg ?_
     repeat' ((first | refine hfk ?_ ?_<;>intros | refine hik ?_ | with_reducible first | refine v47 (hc) ?_ | refine vrf (hc) ?_)<;>refine hgS ?_)
     exact ⟨n+1,by omega,by omega,StH.same svl rfl⟩
   . refine hg ?_
     repeat' ((first | refine hfk ?_ ?_<;>intros | refine hik ?_)<;>refine hgS ?_)
     exact RLe.ofEq rfl
 by_cases c2:y.op=2
 . have d1:decide (y.op=1)=false:=decide_eq_false c1;have d2:decide (y.op=2)=true:=decide_eq_true c2;have a1:=zqj (Γ:=Γ) 2 y.name x hx
   have a2:∀ i,i<F.length->CallsD Γ prog 33 [.agg (exC (F.getD i default).body),.one (cI 2),.one (cS y.name)] (.one (cB ((F.getD i default).body.anyN (vow 2 y.name)))):=fun i hi=>zqj 2 y.name _ (hS _ (xdq hi)).b
   have h2:=h2 c2;clear c1 c2 h1;generalize x.anyN (vow 2 y.name)=b at *;refine CallsD.run [] Go.Proofs.Tryz.func15 rfl rfl rfl ?_;simp only [Go.Proofs.Tryz.f15];refine hgR ?_;refine hg2 @d1 @d2 ?_
   repeat' ((first | refine hfk ?_ ?_<;>intros | refine hik ?_ | with_reducible first | refine v47 (a1) ?_ | refine vrf (a1) ?_)<;>refine hgS ?_)
   refine yxw [2,3,4] (fun p:Nat×Bool=>[(7,.one (.dat (cB p.2))),(8,.one (.dat (cI p.1)))]) (fun _=>[.box ((exC y).map .dat) (some 25),.box ((exC x).map .dat) (some 25)])
    (fun p=>p.1<=F.length/\p.2=(b||(F.take p.1).any fun f=>f.body.anyN (vow 2 y.name))) (fun p=>F.length-p.1) (0,b) ⟨Nat.zero_le _,by simp⟩ ?_ ?_
   . refine hg ?_;exact StH.same svl rfl
   rintro ⟨i,t⟩ ⟨hin,ht⟩;dsimp only at hin ht;refine hg ?_;refine xw4 (fun hlt _=>?_) (fun hlt _=>?_)
   . have hlt':i<F.length:=by omega
     have hs:∀ u,u=(t||(F.getD i default).body.anyN (vow 2 y.name))->u=(b||(F.take (i+1)).any fun f=>f.body.anyN (vow 2 y.name)):=fun u hu=>by
      rw [hu,zea hlt',List.any_append,<-Bool.or_assoc,<-ht];simp
     have a3:=a2 i hlt';generalize hq:(F.getD i default).body.anyN (vow 2 y.name)=q at *;clear ht a1 a2 h2 hi
     cases t with
     | true=>
      refine hg ?_
      repeat' ((first | refine hfk ?_ ?_<;>intros | refine hik ?_)<;>refine hgS ?_)
      exact ⟨(i+1,true),⟨by dsimp only;omega,hs _ rfl⟩,by dsimp only;omega,StH.same svl rfl⟩
     | false=>
      refine hg ?_
      repeat' ((first | refine hfk ?_ ?_<;>intros | refine hik ?_ | with_reducible first | refine v47 (a3) ?_ | refine vrf (a3) ?_)<;>refine hgS ?_)
      exact ⟨(i+1,q),⟨by dsimp only;omega,hs _ rfl⟩,by dsimp only;omega,StH.same svl rfl⟩
   rw [List.take_of_length_le (show F.length<=i by omega)] at ht;have ht2:t=true:=ht.trans h2;subst ht2;clear ht h2 a1 a2;refine hg ?_
   repeat' ((first | refine hfk ?_ ?_<;>intros | refine hik ?_)<;>refine hgS ?_)
   refine yxw [2,3,4] (fun n:Nat=>[(9,.one (.dat (cI n)))]) (fun _=>[.box ((exC y).map .dat) (some 25),.box ((exC x).map .dat) (some 25)]) (fun n=>n<=y.args.length) (fun n=>y.args.length-n) 0 (Nat.zero_le _) ?_ ?_
   . refine hg ?_;exact StH.same svl rfl
   intro n hn;refine hg ?_;refine xw4 (fun hlt _=>?_) (fun hlt _=>?_)
   . have hlt':n<y.args.length:=by omega
     have hc:=hi _ hlt';refine hg ?_
     repeat' ((first | refine hfk ?_ ?_<;>intros | refine hik ?_ | with_reducible first | refine v47 (hc) ?_ | refine vrf (hc) ?_)<;>refine hgS ?_)
     exact ⟨n+1,by omega,by omega,StH.same svl rfl⟩
   . refine hg ?_
     repeat' ((first | refine hfk ?_ ?_<;>intros | refine hik ?_)<;>refine hgS ?_)
     exact RLe.ofEq rfl
 . have d1:decide (y.op=1)=false:=decide_eq_false c1;have d2:decide (y.op=2)=false:=decide_eq_false c2;clear c1 c2 h1 h2;refine CallsD.run [] Go.Proofs.Tryz.func15 rfl rfl rfl ?_;simp only [Go.Proofs.Tryz.f15];refine hgR ?_;refine hg2 @d1 @d2 ?_
   repeat' ((first | refine hfk ?_ ?_<;>intros | refine hik ?_)<;>refine hgS ?_)
   refine yxw [2,3,4] (fun n:Nat=>[(9,.one (.dat (cI n)))]) (fun _=>[.box ((exC y).map .dat) (some 25),.box ((exC x).map .dat) (some 25)]) (fun n=>n<=y.args.length) (fun n=>y.args.length-n) 0 (Nat.zero_le _) ?_ ?_
   . refine hg ?_;exact StH.same svl rfl
   intro n hn;refine hg ?_;refine xw4 (fun hlt _=>?_) (fun hlt _=>?_)
   . have hlt':n<y.args.length:=by omega
     have hc:=hi _ hlt';refine hg ?_
     repeat' ((first | refine hfk ?_ ?_<;>intros | refine hik ?_ | with_reducible first | refine v47 (hc) ?_ | refine vrf (hc) ?_)<;>refine hgS ?_)
     exact ⟨n+1,by omega,by omega,StH.same svl rfl⟩
   . refine hg ?_
     repeat' ((first | refine hfk ?_ ?_<;>intros | refine hik ?_)<;>refine hgS ?_)
     exact RLe.ofEq rfl
def fewP (f:Fnc):Bool:=!(decide (8<(f.params.length:Int))||!decide (0<=f.body.rsz 60 22))
def y1e (F:List Fnc) (m:Int):Bool:=bif (decide (m<(F.length:Int))&&decide ((F.length:Int)<=100))||decide (102<(F.length:Int)) then false else
 F.all fewP
theorem wy3 {p:Fnc->Bool} {l:List Fnc} (h:∀ j,j<l.length->p (l.getD j default)=true):l.all p=true:=by
 rw [List.all_eq_true];intro x hx;obtain ⟨i,hi,rfl⟩:=List.getElem_of_mem hx
 have:=h i hi
 rwa [show l.getD i default=l[i] by simp [hi]] at this
theorem y09 {p:Fnc->Bool} {l:List Fnc} {j:Nat} (hj:j<l.length) (h:p (l.getD j default)=false):l.all p=false:=by
 cases e:l.all p with
 | false=>rfl
 | true=>rw [List.all_eq_true.1 e _ (xdq hj)] at h;cases h
theorem zi5 (F:List Fnc) (m:Int) (hF:F.length<=1073741824) (hS:∀ f∈F,f.Sm):CallsD Γ prog 16 [.one (.sl 7 (F.map Fnc.C)),.one (cI m)] (.one (cB (y1e F m))):=by
 unfold y1e
 cases hcnd:(decide (m<(F.length:Int))&&decide ((F.length:Int)<=100))||decide (102<(F.length:Int)) with
 | true=>
  refine CallsD.run [] Go.Proofs.Tryz.func16 rfl rfl rfl ?_;simp only [Go.Proofs.Tryz.f16];refine hgR ?_
  repeat' ((first | refine hfk ?_ ?_<;>intros | refine hik ?_)<;>refine hgS ?_)
  all_goals first
   | exact RLe.ofEq rfl
   | (exfalso;simp_all;done)
   | (exfalso;simp_all;omega)
 | false=>
  refine CallsD.run [] Go.Proofs.Tryz.func16 rfl rfl rfl ?_;simp only [Go.Proofs.Tryz.f16];refine hgR ?_
  repeat' ((first | refine hfk ?_ ?_<;>intros | refine hik ?_)<;>refine hgS ?_)
  all_goals first
   | exact RLe.ofEq rfl
   | (exfalso;simp_all;done)
   | (exfalso;simp_all;omega)
   | skip
  all_goals
   refine yxw [0] (fun n:Nat=>[(5,.one (.dat (cI n)))]) (fun _=>[]) (fun n=>n<=F.length/\∀ j,j<n->fewP (F.getD j default)=true) (fun n=>F.length-n) 0 ⟨Nat.zero_le _,fun j hj=>by omega⟩ ?_ ?_
   . refine hg ?_;exact StH.same svl rfl
   intro n hn;obtain ⟨hn,hj⟩:=hn;refine hg ?_;refine xw4 (fun hlt _=>?_) (fun hlt _=>?_)
   . have hlt':n<F.length:=by omega
     have hfs:=hS _ (xdq hlt');have hpl:=hfs.len;have a1:=rFew (Γ:=Γ) _ hfs.b 60 22 (by decide) (by decide) (by decide) (by decide)
     have hb:∀ u,fewP (F.getD n default)=u->(u=false->F.all fewP=false)/\(u=true->∀ j,j<n+1->fewP (F.getD j default)=true):=fun u hu=>⟨fun e=>y09 hlt' (hu.trans e),fun e j hj'=>by
      rcases Nat.lt_or_eq_of_le (Nat.le_of_lt_succ hj') with h3 | h3
      . exact hj j h3
      . rw [h3];exact hu.trans e⟩
     have hq:True->fewP (F.getD n default) = !(decide (8<((F.getD n default).params.length:Int))||!decide (0<=(F.getD n default).body.rsz 60 22)):=fun _=>rfl
     generalize decide (0<=(F.getD n default).body.rsz 60 22)=b at *;clear hj hS
     cases b with
     | true=>
      refine hg ?_
      repeat' ((first | refine hfk ?_ ?_<;>intros | refine hik ?_ | with_reducible first | refine v47 (a1) ?_ | refine vrf (a1) ?_)<;>refine hgS ?_)
      all_goals first
       | (rw [(hb false ((hq trivial).trans (by simp only [*];rfl))).1 rfl];exact RLe.ofEq rfl)
       | exact ⟨n+1,⟨by omega,(hb true ((hq trivial).trans (by simp only [*];rfl))).2 rfl⟩,by omega,StH.same svl rfl⟩
     | false=>
      refine hg ?_
      repeat' ((first | refine hfk ?_ ?_<;>intros | refine hik ?_ | with_reducible first | refine v47 (a1) ?_ | refine vrf (a1) ?_)<;>refine hgS ?_)
      all_goals
       rw [(hb false ((hq trivial).trans (by simp))).1 rfl];exact RLe.ofEq rfl
   . have e:n=F.length:=by omega
     subst e;rw [wy3 hj];refine hg ?_
     repeat' ((first | refine hfk ?_ ?_<;>intros | refine hik ?_)<;>refine hgS ?_)
     exact RLe.ofEq rfl
theorem lFew (F:List Fnc) (x:Ex) (hx:x.Sm) (hF:F.length<=1073741824) (hS:∀ f∈F,f.Sm):CallsD Γ prog 8 [.one (.sl 7 (F.map Fnc.C)),.agg (exC x)] (.one (cB (y1e F 8&&decide (0<=x.rsz 120 22)))):=by
 have a1:=zi5 (Γ:=Γ) F 8 hF hS;have a2:=rFew (Γ:=Γ) x hx 120 22 (by decide) (by decide) (by decide) (by decide);generalize y1e F 8=a at *;generalize decide (0<=x.rsz 120 22)=b at *;refine CallsD.run [] Go.Proofs.Tryz.func8 rfl rfl rfl ?_;simp only [Go.Proofs.Tryz.f8];refine hgR ?_
 repeat' ((first | refine hfk ?_ ?_<;>intros | refine hik ?_ | with_reducible first | refine v47 (a1) ?_ | refine vrf (a1) ?_ | refine v47 (a2) ?_ | refine vrf (a2) ?_)<;>refine hgS ?_)
 all_goals exact RLe.ofEq (by simp [*])
abbrev wBx (b n:Nat):SB:=.box [.sl b 4 0 n] (some 171)
abbrev wAr (L:List Tk):SB:=.arr (.sl 4 (L.map Tk.C)) 0 (some 134)
theorem x6u (L:List Tk) (s:ByteArray) (hL:L.length<=1000000):xgj Γ prog 128 [wBx 1 L.length,wAr L] [.one (.ptr 0 0),.one (.dat (cS s))] [wBx 2 (L.length+1),.dead,wAr (L++[⟨3,s,0,0⟩])] (.tup []):=by
 refine xgj.run [] Go.Proofs.Tryz.func128 rfl rfl ?_;simp only [Go.Proofs.Tryz.f128];refine hgR ?_
 repeat' ((first | refine hfk ?_ ?_<;>intros | refine hik ?_)<;>refine hgS ?_)
 exact StH.same svl (by simp only [wAr,wBx,List.length_append,List.length_map,List.length_singleton,List.map_append,List.map_cons,List.map_nil];rfl)
theorem ych (L:List Tk) (s:ByteArray) (hL:L.length<=1000000):xgj Γ prog 126 [wBx 1 L.length,wAr L] [.one (.ptr 0 0),.one (.dat (cS s))] [wBx 2 (L.length+1),.dead,wAr (L++[⟨0,s,0,0⟩])] (.tup []):=by
 refine xgj.run [] Go.Proofs.Tryz.func126 rfl rfl ?_;simp only [Go.Proofs.Tryz.f126];refine hgR ?_
 repeat' ((first | refine hfk ?_ ?_<;>intros | refine hik ?_)<;>refine hgS ?_)
 exact StH.same svl (by simp only [wAr,wBx,List.length_append,List.length_map,List.length_singleton,List.map_append,List.map_cons,List.map_nil];rfl)
def WrE (Γ:List (Nat×List Cell)) (N:Nat) (x:Ex) (ts:List Tk):Prop:=∀ L:List Tk,L.length<=N->xgj Γ prog 102 [wBx 1 L.length,wAr L] [.one (.ptr 0 0),.agg ((exC x).map .dat)] [wBx 2 (L.length+ts.length),.dead,wAr (L++ts)] (.tup [])
def atT (a:Ex) (ta:List Tk):List Tk:=bif isOp a.op then ⟨3,⟨#[40]⟩,0,0⟩::(ta++[⟨3,⟨#[41]⟩,0,0⟩]) else ta
theorem w2n (N:Nat) (hN:N<=100000) (a:Ex) (ta:List Tk) (ht:ta.length<=1000) (h4:a.op≠4) (h5:a.op≠5) (hE:WrE Γ N a ta) (L:List Tk) (hL:L.length+10<=N):xgj Γ prog 130 [wBx 1 L.length,wAr L] [.one (.ptr 0 0),.agg ((exC a).map .dat)] [wBx 2 (L.length+(atT a ta).length),.dead,wAr (L++atT a ta)] (.tup []):=by
 have a1:=y4o (Γ:=Γ) a.op;have d4:decide (a.op=4)=false:=decide_eq_false h4;have d5:decide (a.op=5)=false:=decide_eq_false h5;unfold atT;generalize xeq a.op=ot at *
 cases ho:isOp a.op with
 | false=>
  have e1:=hE L (by omega);rw [ho] at a1;clear ho h4 h5 hE;refine xgj.run [] Go.Proofs.Tryz.func130 rfl rfl ?_;simp only [Go.Proofs.Tryz.f130];refine hgR ?_;refine v47 a1 ?_;refine hg2 @d4 @d5 ?_
  repeat' ((first | refine hfk ?_ ?_<;>intros | refine hik ?_)<;>refine hgS ?_)
  . refine xmn [0,1] e1 rfl (by decide) rfl rfl rfl ?_;refine hg ?_
    repeat' ((first | refine hfk ?_ ?_<;>intros | refine hik ?_)<;>refine hgS ?_)
    exact StH.back [0] 2 3 3 rfl rfl rfl rfl rfl (by kernel_rfl) (StH.same svl rfl)
  all_goals (exfalso;simp_all;done)
 | true=>
  have e1:=x6u (Γ:=Γ) L ⟨#[40]⟩ (by omega);have e2:=hE (L++[⟨3,⟨#[40]⟩,0,0⟩]) (by simp;omega);have e3:=x6u (Γ:=Γ) (L++[⟨3,⟨#[40]⟩,0,0⟩]++ta) ⟨#[41]⟩ (by simp;omega);simp only [List.length_append,List.length_singleton] at e2 e3;rw [ho] at a1;rw [cond_true,show (⟨3,⟨#[40]⟩,0,0⟩::(ta++[⟨3,⟨#[41]⟩,0,0⟩]):List Tk).length=1+ta.length+1 by simp;omega,show L++(⟨3,⟨#[40]⟩,0,0⟩::(ta++[⟨3,⟨#[41]⟩,0,0⟩]))=L++[⟨3,⟨#[40]⟩,0,0⟩]++ta++[⟨3,⟨#[41]⟩,0,0⟩] by simp];clear ho h4 h5 hE;refine xgj.run [] Go.Proofs.Tryz.func130 rfl rfl ?_;simp only [Go.Proofs.Tryz.f130];refine hgR ?_;refine v47 a1 ?_;refine hg ?_
  repeat' ((first | refine hfk ?_ ?_<;>intros | refine hik ?_)<;>refine hgS ?_)
  refine xmn [0,1] e1 rfl (by decide) rfl rfl rfl ?_;refine hg ?_
  repeat' ((first | refine hfk ?_ ?_<;>intros | refine hik ?_)<;>refine hgS ?_)
  refine xmn [0,3] e2 rfl (by decide) rfl rfl rfl ?_;refine hg ?_
  repeat' ((first | refine hfk ?_ ?_<;>intros | refine hik ?_)<;>refine hgS ?_)
  refine xmn [0,4] e3 rfl (by decide) rfl rfl rfl ?_;refine hg ?_
  repeat' ((first | refine hfk ?_ ?_<;>intros | refine hik ?_)<;>refine hgS ?_)
  refine StH.back [0] 2 5 3 rfl rfl rfl rfl rfl (by kernel_rfl) (StH.same svl ?_);rw [show L.length+(1+ta.length+1)=L.length+1+ta.length+1 by omega];rfl
end Go.Hp.T
namespace Go.Hp.T
open Go Go.RowKit Go.Slot Go.Hp Go.Slot.T
open Go.Proofs.Tryz (prog)
set_option maxRecDepth 10000
set_option maxHeartbeats 8000000
variable {Γ:List (Nat×List Cell)}
def w8t:Go.Shelf.Ren:=⟨fun | 156=>104 | 165=>133 | 166=>134 | 169=>132 | 240=>155 | 241=>156 | 276=>166 | 277=>167 | n=>n,fun | 31=>61 | 9=>9 | 3=>3 | 4=>4 | 0=>0 | 20=>20 | 72=>201 | 76=>207 | 70=>198 | 37=>199 | 75=>203 | 127=>222 | 164=>230 | 5=>5 | 80=>205 | n=>n,fun | n=>n⟩
theorem yg2:Go.Proofs.Lays.n156 prog w8t:={
 mixed:=by kernel_rfl
 f156:=Go.Proofs.Tryz.func104.trans (congrArg some (by kernel_rfl))
 f165:=Go.Proofs.Tryz.func133.trans (congrArg some (by kernel_rfl))
 f166:=Go.Proofs.Tryz.func134.trans (congrArg some (by kernel_rfl))
 f169:=Go.Proofs.Tryz.func132.trans (congrArg some (by kernel_rfl))
 f240:=Go.Proofs.Tryz.func155.trans (congrArg some (by kernel_rfl))
 f241:=Go.Proofs.Tryz.func156.trans (congrArg some (by kernel_rfl))
 f276:=Go.Proofs.Tryz.func166.trans (congrArg some (by kernel_rfl))
 f277:=Go.Proofs.Tryz.func167.trans (congrArg some (by kernel_rfl))
 t0:=Go.Proofs.Tryz.underlying0
 a0:=Go.Proofs.Tryz.isAgg0
 z0:=Go.Proofs.Tryz.sizeOf0
 v0:=Go.Proofs.Tryz.zeroValue0
 t3:=Go.Proofs.Tryz.underlying3
 a3:=Go.Proofs.Tryz.isAgg3
 z3:=Go.Proofs.Tryz.sizeOf3
 v3:=Go.Proofs.Tryz.zeroValue3
 t4:=Go.Proofs.Tryz.underlying4
 a4:=Go.Proofs.Tryz.isAgg4
 z4:=Go.Proofs.Tryz.sizeOf4
 v4:=Go.Proofs.Tryz.zeroValue4
 t9:=Go.Proofs.Tryz.underlying9
 a9:=Go.Proofs.Tryz.isAgg9
 z9:=Go.Proofs.Tryz.sizeOf9
 v9:=Go.Proofs.Tryz.zeroValue9
 t20:=Go.Proofs.Tryz.underlying20
 a20:=Go.Proofs.Tryz.isAgg20
 z20:=Go.Proofs.Tryz.sizeOf20
 v20:=Go.Proofs.Tryz.zeroValue20
 t31:=Go.Proofs.Tryz.underlying61
 a31:=Go.Proofs.Tryz.isAgg61
 z31:=Go.Proofs.Tryz.sizeOf61
 v31:=Go.Proofs.Tryz.zeroValue61
 t37:=Go.Proofs.Tryz.underlying199
 a37:=Go.Proofs.Tryz.isAgg199
 z37:=Go.Proofs.Tryz.sizeOf199
 v37:=Go.Proofs.Tryz.zeroValue199
 t70:=Go.Proofs.Tryz.underlying198
 a70:=Go.Proofs.Tryz.isAgg198
 z70:=Go.Proofs.Tryz.sizeOf198
 v70:=Go.Proofs.Tryz.zeroValue198
 t72:=Go.Proofs.Tryz.underlying201
 a72:=Go.Proofs.Tryz.isAgg201
 z72:=Go.Proofs.Tryz.sizeOf201
 v72:=Go.Proofs.Tryz.zeroValue201
 t75:=Go.Proofs.Tryz.underlying203
 a75:=Go.Proofs.Tryz.isAgg203
 z75:=Go.Proofs.Tryz.sizeOf203
 v75:=Go.Proofs.Tryz.zeroValue203
 t76:=Go.Proofs.Tryz.underlying207
 a76:=Go.Proofs.Tryz.isAgg207
 z76:=Go.Proofs.Tryz.sizeOf207
 v76:=Go.Proofs.Tryz.zeroValue207
 t127:=Go.Proofs.Tryz.underlying222
 a127:=Go.Proofs.Tryz.isAgg222
 z127:=Go.Proofs.Tryz.sizeOf222
 v127:=Go.Proofs.Tryz.zeroValue222
 t164:=Go.Proofs.Tryz.underlying230
 a164:=Go.Proofs.Tryz.isAgg230
 z164:=Go.Proofs.Tryz.sizeOf230
 v164:=Go.Proofs.Tryz.zeroValue230 }
theorem yfv:Go.Proofs.Builder.Extra prog w8t:={
 sizeBuilder:=by kernel_rfl
 liesBuilder:=by kernel_rfl
 t5:=Go.Proofs.Tryz.underlying5
 a5:=Go.Proofs.Tryz.isAgg5
 z5:=Go.Proofs.Tryz.sizeOf5
 v5:=Go.Proofs.Tryz.zeroValue5
 infoByte:=by kernel_rfl
 cellsByte:=by kernel_rfl
 sizeByte:=by kernel_rfl
 neB5:=by decide }
def yuh (l:List ByteArray) (sep:ByteArray):ByteArray:=⟨(Lib.join (l.map (·.data.toList)) sep.data.toList).toArray⟩
theorem zuy (l:List ByteArray) (sep:ByteArray) (hl:l.length<=140737488355328) (hlen:(Lib.join (l.map (·.data.toList)) sep.data.toList).length<=140737488355328) :
 CallsD Γ prog 104 [.one (.sl 1 (l.map fun s=>[cS s])),.one (cS sep)] (.one (cS (yuh l sep))):=by
 refine ⟨⟨_,Go.Proofs.Tryz.func104,rfl,rfl⟩,fun M w vs hb hgl hr=>?_⟩
 match vs,hr with
 | [v1,v2],hr=>
  obtain ⟨h1,h2,_⟩:=hr;have h1:RdC M w v1 (.sl 1 (l.map fun s=>[cS s])):=h1;have e2:v2=.string sep:=RdC.xcn h2;subst e2;generalize hrows:(l.map fun s=>[cS s])=rows at h1
  cases h1 with
  | @sl a len cap n rows b off u hle hc ha hn hm hr=>
   subst hrows
   have hlen':len=l.length:=by rw [hle,List.length_map]
   subst hlen';by_cases hz:l=[]
   . subst hz;refine (Go.Proofs.Any.strings_Join_none yg2 yfv a cap sep w).mono (fun e w' h=>?_);obtain ⟨h1,h2⟩:=h;subst h1 h2;exact ⟨_,rfl,znd _,RdC.raw rfl,fun h=>by cases h⟩
   . have ha':=ha (by simpa using hz);subst ha'
     have hcell:∀(j:Nat) (x:ByteArray),l[j]? = some x->w.cell? ⟨b,off+j,none⟩=some (.string x):=fun j x hx=>by
      have hj:j<l.length:=(List.getElem?_eq_some_iff.1 hx).1;have h1:=(hm j (by simpa using hj) 0 (by decide)).2;have h2:=hr j (by simpa using hj) 0 (by simp);have hx':l[j]=x:=(List.getElem?_eq_some_iff.1 hx).2;simp only [List.getElem_map,List.getElem_cons_zero,hx'] at h2;rw [RdC.xcn h2] at h1;simpa using h1
     have hbk:b<w.heap.size:=by
      obtain ⟨x,hx⟩:∃ x,l[0]? = some x:=by
       cases l with
       | nil=>exact absurd rfl hz
       | cons x l=>exact ⟨x,rfl⟩
      have h1:=hcell 0 x hx
      rcases Nat.lt_or_ge b w.heap.size with h | h
      . exact h
      . exfalso;unfold World.cell? at h1;simp [Array.getElem?_eq_none h] at h1
     refine (Go.Proofs.Any.strings_Join yg2 yfv b off cap l sep w hcell hbk hl hc hlen).mono (fun e w' h=>?_);obtain ⟨h1,h2⟩:=h;subst h1;exact ⟨_,rfl,h2,RdC.raw rfl,fun h=>by cases h⟩
end Go.Hp.T
namespace Go.Hp.T
open Go Go.RowKit Go.Slot Go.Hp Go.Slot.T
open Go.Proofs.Tryz (prog)
attribute [local irreducible] hide RH
set_option maxRecDepth 10000
set_option maxHeartbeats 8000000
variable {Γ:List (Nat×List Cell)}
theorem vdp:CallsD Γ prog 125 [.one (cI 2)] (.one (cS ⟨#[50]⟩)):=by
 have h1:CallsD Γ prog 171 [.one (cI 2)] (.one (cS ⟨#[50]⟩)):=by
  refine CallsD.run [] Go.Proofs.Tryz.func171 rfl rfl rfl ?_;simp only [Go.Proofs.Tryz.f171];refine hgR ?_
  repeat' ((first | refine hfk ?_ ?_<;>intros | refine hik ?_)<;>refine hgS ?_)
  all_goals exact RLe.ofEq rfl
 have h2:CallsD Γ prog 165 [.one (cI 2),.one (cI 10)] (.one (cS ⟨#[50]⟩)):=by
  refine CallsD.run [] Go.Proofs.Tryz.func165 rfl rfl rfl ?_;simp only [Go.Proofs.Tryz.f165];refine hgR ?_
  repeat' ((first | refine hfk ?_ ?_<;>intros | refine hik ?_ | with_reducible first | refine v47 (h1) ?_ | refine vrf (h1) ?_)<;>refine hgS ?_)
  all_goals exact RLe.ofEq rfl
 have h3:CallsD Γ prog 154 [.one (cI 2)] (.one (cS ⟨#[50]⟩)):=by
  refine CallsD.run [] Go.Proofs.Tryz.func154 rfl rfl rfl ?_;simp only [Go.Proofs.Tryz.f154];refine hgR ?_
  repeat' ((first | refine hfk ?_ ?_<;>intros | refine hik ?_ | with_reducible first | refine v47 (h2) ?_ | refine vrf (h2) ?_)<;>refine hgS ?_)
  all_goals exact RLe.ofEq rfl
 refine CallsD.run [] Go.Proofs.Tryz.func125 rfl rfl rfl ?_;simp only [Go.Proofs.Tryz.f125];refine hgR ?_
 repeat' ((first | refine hfk ?_ ?_<;>intros | refine hik ?_ | with_reducible first | refine v47 (h3) ?_ | refine vrf (h3) ?_)<;>refine hgS ?_)
 all_goals exact RLe.ofEq rfl
theorem w8a:CallsD Γ prog 125 [.one (cI 3)] (.one (cS ⟨#[51]⟩)):=by
 have h1:CallsD Γ prog 171 [.one (cI 3)] (.one (cS ⟨#[51]⟩)):=by
  refine CallsD.run [] Go.Proofs.Tryz.func171 rfl rfl rfl ?_;simp only [Go.Proofs.Tryz.f171];refine hgR ?_
  repeat' ((first | refine hfk ?_ ?_<;>intros | refine hik ?_)<;>refine hgS ?_)
  all_goals exact RLe.ofEq rfl
 have h2:CallsD Γ prog 165 [.one (cI 3),.one (cI 10)] (.one (cS ⟨#[51]⟩)):=by
  refine CallsD.run [] Go.Proofs.Tryz.func165 rfl rfl rfl ?_;simp only [Go.Proofs.Tryz.f165];refine hgR ?_
  repeat' ((first | refine hfk ?_ ?_<;>intros | refine hik ?_ | with_reducible first | refine v47 (h1) ?_ | refine vrf (h1) ?_)<;>refine hgS ?_)
  all_goals exact RLe.ofEq rfl
 have h3:CallsD Γ prog 154 [.one (cI 3)] (.one (cS ⟨#[51]⟩)):=by
  refine CallsD.run [] Go.Proofs.Tryz.func154 rfl rfl rfl ?_;simp only [Go.Proofs.Tryz.f154];refine hgR ?_
  repeat' ((first | refine hfk ?_ ?_<;>intros | refine hik ?_ | with_reducible first | refine v47 (h2) ?_ | refine vrf (h2) ?_)<;>refine hgS ?_)
  all_goals exact RLe.ofEq rfl
 refine CallsD.run [] Go.Proofs.Tryz.func125 rfl rfl rfl ?_;simp only [Go.Proofs.Tryz.f125];refine hgR ?_
 repeat' ((first | refine hfk ?_ ?_<;>intros | refine hik ?_ | with_reducible first | refine v47 (h3) ?_ | refine vrf (h3) ?_)<;>refine hgS ?_)
 all_goals exact RLe.ofEq rfl
abbrev exM (o n:Int) (u s:ByteArray) (l:List Ex):List HC:=[.dat (cI o),.dat (cI n),.dat (cS u),.dat (cS s),.dat (.sl 5 (l.map Ex.cells))]
theorem WrE.of {N:Nat} {o n:Int} {u s:ByteArray} {l:List Ex} {ts:List Tk} (h:∀ L:List Tk,L.length<=N->xgj Γ prog 102 [wBx 1 L.length,wAr L] [.one (.ptr 0 0),.agg (exM o n u s l)] [wBx 2 (L.length+ts.length),.dead,wAr (L++ts)] (.tup [])):WrE Γ N (.mk o n u s l) ts:=h
theorem vn5 (L:List Tk) (t:Tk):wAr (L++[t])=.arr (.sl 4 (L.map Tk.C++[t.C])) 0 (some 134):=by
 simp only [wAr,List.map_append,List.map_cons,List.map_nil]
theorem wce (N:Nat) (hN:N<=100000) (n:Int) (d:ByteArray) (h:CallsD Γ prog 125 [.one (cI n)] (.one (cS d))):WrE Γ N (.mk 0 n ⟨#[]⟩ ⟨#[]⟩ []) [⟨1,d,n,0⟩]:=by
 refine WrE.of (fun L hL=>?_);rw [vn5];refine xgj.run [] Go.Proofs.Tryz.func102 rfl rfl ?_;simp only [Go.Proofs.Tryz.f102];refine hgR ?_
 repeat' ((first | refine hfk ?_ ?_<;>intros | refine hik ?_ | with_reducible first | refine v47 (h) ?_ | refine vrf (h) ?_)<;>refine hgS ?_)
 refine StH.back [0] 2 3 3 rfl rfl rfl rfl rfl (by kernel_rfl) ?_
 conv=>simp (maxSteps:=2000000) (disch:=omega) only [go_sem,Nat.reduceAdd,Nat.reduceSub,Nat.reduceMul,Int.reduceToNat,Nat.reduceEqDiff,Nat.reduceBEq,Nat.reduceBneDiff,Nat.reduceLT,Int.reduceEq,Int.reduceLT,Int.reduceLE,Int.reduceNeg,Int.reduceAdd,Int.reduceSub,Int.reduceMul,List.length_append,List.length_singleton]
 exact StH.same svl rfl
theorem wf7 (N:Nat) (hN:N<=100000) (n:Int) (d u:ByteArray) (hu:seq u ⟨#[]⟩=false) (h:CallsD Γ prog 125 [.one (cI n)] (.one (cS d))):WrE Γ N (.mk 0 n u ⟨#[]⟩ []) [⟨1,d,n,0⟩,⟨2,u,0,0⟩]:=by
 refine WrE.of (fun L hL=>?_);refine xgj.run [] Go.Proofs.Tryz.func102 rfl rfl ?_;simp only [Go.Proofs.Tryz.f102];refine hgR ?_;refine hg1 @hu ?_
 repeat' ((first | refine hfk ?_ ?_<;>intros | refine hik ?_ | with_reducible first | refine v47 (h) ?_ | refine vrf (h) ?_)<;>refine hgS ?_)
 conv=>simp (maxSteps:=2000000) (disch:=omega) only [go_sem,Nat.reduceAdd,Nat.reduceSub,Nat.reduceMul,Int.reduceToNat,Nat.reduceEqDiff,Nat.reduceBEq,Nat.reduceBneDiff,Nat.reduceLT,Int.reduceEq,Int.reduceLT,Int.reduceLE,Int.reduceNeg,Int.reduceAdd,Int.reduceSub,Int.reduceMul,hu,List.length_append,List.length_map,List.length_singleton]
 repeat' ((first | refine hfk ?_ ?_<;>intros | refine hik ?_)<;>refine hgS ?_)
 refine StH.back [0] 2 4 3 rfl rfl rfl rfl rfl (by kernel_rfl) ?_;rw [show L++[(⟨1,d,n,0⟩:Tk),⟨2,u,0,0⟩]=L++[⟨1,d,n,0⟩]++[⟨2,u,0,0⟩] by simp,vn5,List.map_append]
 conv=>simp (maxSteps:=2000000) (disch:=omega) only [go_sem,Nat.reduceAdd,Nat.reduceSub,Nat.reduceMul,Int.reduceToNat,Nat.reduceEqDiff,Nat.reduceBEq,Nat.reduceBneDiff,Nat.reduceLT,Int.reduceEq,Int.reduceLT,Int.reduceLE,Int.reduceNeg,Int.reduceAdd,Int.reduceSub,Int.reduceMul,List.length_append,List.length_map,List.length_singleton]
 exact StH.same svl rfl
theorem vfd (N:Nat) (hN:N<=100000) (s:ByteArray):WrE Γ N (.mk 1 0 ⟨#[]⟩ s []) [⟨0,s,0,0⟩]:=by
 refine WrE.of (fun L hL=>?_);have e1:=ych (Γ:=Γ) L s (by omega);refine xgj.run [] Go.Proofs.Tryz.func102 rfl rfl ?_;simp only [Go.Proofs.Tryz.f102];refine hgR ?_
 repeat' ((first | refine hfk ?_ ?_<;>intros | refine hik ?_)<;>refine hgS ?_)
 refine xmn [0,1] e1 rfl (by decide) rfl rfl rfl ?_;refine hg ?_
 repeat' ((first | refine hfk ?_ ?_<;>intros | refine hik ?_)<;>refine hgS ?_)
 exact StH.back [0] 2 3 3 rfl rfl rfl rfl rfl (by kernel_rfl) (StH.same svl rfl)
theorem cWOp (N:Nat) (hN:N<=90000) (o:Int) (ho:o=6\/o=8) (a b:Ex) (ta tb:List Tk) (ha:ta.length<=1000) (hb:tb.length<=1000) (a4:a.op≠4) (a5:a.op≠5) (b4:b.op≠4) (b5:b.op≠5) (hA:WrE Γ (N+3000) a ta) (hB:WrE Γ (N+3000) b tb) :
 WrE Γ N (.mk o 0 ⟨#[]⟩ ⟨#[]⟩ [a,b]) (atT a ta++[(⟨3,xeq o,0,0⟩:Tk)]++atT b tb):=by
 refine WrE.of ?_;show ∀ L:List Tk,L.length<=N->xgj Γ prog 102 [wBx 1 L.length,wAr L] [.one (.ptr 0 0),.agg (exM o 0 ⟨#[]⟩ ⟨#[]⟩ [a,b])] [wBx 2 (L.length+(atT a ta++[(⟨3,xeq o,0,0⟩:Tk)]++atT b tb).length),.dead,wAr (L++(atT a ta++[(⟨3,xeq o,0,0⟩:Tk)]++atT b tb))] (.tup []);intro L hL
 have la:∀(x:Ex) (t:List Tk),t.length<=1000->(atT x t).length<=1002:=fun x t ht=>by
  unfold atT
  cases isOp x.op<;>simp<;>omega
 have l1:=la a ta ha;have e1:=w2n (Γ:=Γ) (N+3000) (by omega) a ta ha a4 a5 hA L (by omega);have e2:=x6u (Γ:=Γ) (L++atT a ta) (xeq o) (by simp;omega);have e3:=w2n (Γ:=Γ) (N+3000) (by omega) b tb hb b4 b5 hB (L++atT a ta++[⟨3,xeq o,0,0⟩]) (by simp;omega);have e4:=y4o (Γ:=Γ) o;simp only [List.length_append,List.length_singleton] at e2 e3;rw [show (atT a ta++[(⟨3,xeq o,0,0⟩:Tk)]++atT b tb).length=(atT a ta).length+1+(atT b tb).length by simp;omega,show L++(atT a ta++[(⟨3,xeq o,0,0⟩:Tk)]++atT b tb)=L++atT a ta++[⟨3,xeq o,0,0⟩]++atT b tb by simp]
 have hop:isOp o=true:=by rcases ho with e | e<;>subst e<;>rfl
 rw [hop] at e4;generalize atT a ta=A at *;generalize atT b tb=B at *;clear la hA hB a4 a5 b4 b5 hop
 rcases ho with e | e
 all_goals
  subst e;refine xgj.run [] Go.Proofs.Tryz.func102 rfl rfl ?_;simp only [Go.Proofs.Tryz.f102];refine hgR ?_
  repeat' ((first | refine hfk ?_ ?_<;>intros | refine hik ?_)<;>refine hgS ?_)
  refine xmn [0,1] e1 rfl (by decide) rfl rfl rfl ?_;refine hg ?_
  repeat' ((first | refine hfk ?_ ?_<;>intros | refine hik ?_ | with_reducible first | refine v47 (e4) ?_ | refine vrf (e4) ?_)<;>refine hgS ?_)
  refine xmn [0,3] e2 rfl (by decide) rfl rfl rfl ?_;refine hg ?_
  repeat' ((first | refine hfk ?_ ?_<;>intros | refine hik ?_)<;>refine hgS ?_)
  refine xmn [0,4] e3 rfl (by decide) rfl rfl rfl ?_;refine hg ?_
  repeat' ((first | refine hfk ?_ ?_<;>intros | refine hik ?_)<;>refine hgS ?_)
  refine StH.back [0] 2 5 3 rfl rfl rfl rfl rfl (by kernel_rfl) (StH.same svl ?_);rw [show L.length+(A.length+1+B.length)=L.length+A.length+1+B.length by omega];rfl
end Go.Hp.T
namespace Go.Hp
open Go Go.RowKit Go.Slot
variable {P:Program} {Γ:List (Nat×List Cell)}
theorem xgj.went {f:FuncId} {η η1 η':List SB} {args:List SV} {res:SV} (hw:∀ Mo ρ w,HInv Γ Mo ρ η w->∃ ρ1,Went Γ Mo ρ η w ρ1 η1 w) (h:xgj Γ P f η1 args η' res):xgj Γ P f η args η' res:=⟨h.1,fun Mo ρ w vs hI hr=>by
 obtain ⟨ρ1,hw1⟩:=hw Mo ρ w hI
 exact (h.2 Mo ρ1 w vs hw1.inv (SRL.mv hw1.mv hr)).mono (fun e w' ⟨v,ρ',h1,h2,h3⟩=>⟨v,ρ',h1,hw1.trans h2,h3⟩)⟩
theorem xgj.zcB {f:FuncId} {η':List SB} {args:List SV} {res:SV} {T':Option TypeId} {c:Cell} {es:Nat} {T:Option TypeId} (hu:c.uni) (hc:c.cnt=0)
 (h:xgj Γ P f [.box [.sl 1 es 0 0] T',.arr c 0 T] args η' res):xgj Γ P f [.box [.dat .zc] T'] args η' res:=by
 refine xgj.went (fun Mo ρ w hI=>?_) h;have h1:=Went.extend hI 1;have hfr:([SB.box [.dat .zc] T']++List.replicate 1 SB.fresh)[1]? = some .fresh:=rfl;have hw:=Went.new h1.inv (znd w) hfr (v:=.pointer none) (x:=.arr c 0 T) (by simp) (fun _ hr=>absurd rfl hr) (fun m=>⟨⟨hu,Nat.zero_le _⟩,.inl ⟨hc,rfl⟩⟩);have h2:=h1.trans hw;have hb2:(([SB.box [.dat .zc] T']++List.replicate 1 SB.fresh).set 1 (.arr c 0 T))[0]? = some (.box [.dat .zc] T'):=rfl;have hblk:=h2.inv.blk 0 _ hb2;refine ⟨upd ρ 1 (.pointer none),h2.trans (Went.less (x':=.box [.sl 1 es 0 0] T') h2.inv hb2 (by simp) (fun _=>rfl) (fun o h=>h) (fun m=>?_))⟩;obtain ⟨bb,vs,T0,e,hh,hr,ht⟩:=hblk.mv m (fun _ _=>rfl);refine ⟨bb,vs,T0,e,hh,?_,ht⟩
 have:=HRL.setF (h:=.dat .zc) (h':=.sl 1 es 0 0) (fun v hv=>by
  obtain ⟨ad,hv'⟩:=vwb (τ:=fun _=>⟨Go.undef,0⟩) (c:=.zc) rfl (RdT.of (show RdC _ w v .zc from hv))
  exact ⟨zux (by simp) ⟨.arr c 0 T,by simp,by simp⟩,ad,0,hv',Nat.le_refl _,fun h=>absurd rfl h⟩) 0 hr rfl
 exact this
end Go.Hp
namespace Go.Hp.T
open Go Go.RowKit Go.Slot Go.Hp Go.Slot.T
open Go.Proofs.Tryz (prog)
attribute [local irreducible] hide RH
set_option maxRecDepth 10000
set_option maxHeartbeats 8000000
variable {Γ:List (Nat×List Cell)}
theorem yfm {N:Nat} (x:Ex) (ts:List Tk) (hx:x.Sm) (hr:z7n x=true) (hE:WrE Γ N x ts):CallsD Γ prog 68 [.agg (exC x)] (.tup [.one (.sl 4 (ts.map Tk.C)),.one (cB true)]):=by
 have a1:=x22 (Γ:=Γ) x hx;rw [hr] at a1;have e1:=xgj.zcB (c:=.sl 4 []) (T:=some 134) (fun r hr=>by cases hr) rfl (hE [] (Nat.zero_le _));clear hr hE hx;refine CallsD.run [] Go.Proofs.Tryz.func68 rfl rfl rfl ?_;simp only [Go.Proofs.Tryz.f68];refine hgR ?_
 repeat' ((first | refine hfk ?_ ?_<;>intros | refine hik ?_ | with_reducible first | refine v47 (a1) ?_ | refine vrf (a1) ?_)<;>refine hgS ?_)
 refine xmn [1] e1 rfl (by decide) rfl rfl rfl ?_;refine hg ?_
 repeat' ((first | refine hfk ?_ ?_<;>intros | refine hik ?_)<;>refine hgS ?_)
 exact RLe.ofEq rfl
def prT (t:Tk):ByteArray:=bif decide (t.k=2) then escS t.t else t.t
theorem yoy (ts:List Tk) (hl:ts.length<=1073741824) (hs:∀ t∈ts,t.t.size<=1073741824) (hlen:(Lib.join ((ts.map prT).map (·.data.toList)) [32]).length<=140737488355328) :
 CallsD Γ prog 69 [.one (.sl 4 (ts.map Tk.C))] (.one (cS (yuh (ts.map prT) ⟨#[32]⟩))):=by
 have hj:=zuy (Γ:=Γ) (ts.map prT) ⟨#[32]⟩ (by rw [List.length_map];omega) hlen;clear hlen;refine CallsD.run [] Go.Proofs.Tryz.func69 rfl rfl rfl ?_;simp only [Go.Proofs.Tryz.f69];refine hgR ?_;refine yxw [6,7] (fun p:Nat×List ByteArray=>[(3,.one (.sl 0 1 0 p.2.length)),(8,.one (.dat (cI p.1)))]) (fun p=>[.arr (.sl 1 (p.2.map fun s=>[cS s])) 0 (some 9)])
  (fun p=>p.1<=ts.length/\p.2=(ts.take p.1).map prT) (fun p=>ts.length-p.1) (0,[]) ⟨Nat.zero_le _,by simp⟩ ?_ ?_
 . refine hg ?_;refine StH.trans (StH.empty (d:=3) (es:=1) (c:=.sl 1 []) (T:=some 9) rfl rfl (fun r hr=>by cases hr) rfl) ?_;refine hg ?_;exact StH.same svl rfl
 rintro ⟨i,l⟩ ⟨hi,hls⟩;dsimp only at hi hls
 have hll:l.length=i:=by rw [hls];simp;omega
 refine hg ?_;refine xw4 (fun hlt _=>?_) (fun hlt _=>?_)
 . have hlt':i<ts.length:=by omega
   have hsz:=hs _ (xdq hlt');have a1:=ync (Γ:=Γ) (ts.getD i default).t hsz
   have hnx:∀ u,u=prT (ts.getD i default)->l++[u]=(ts.take (i+1)).map prT:=fun u hu=>by rw [hu,hls,zea hlt',List.map_append];rfl
   have fin:∀ u,u=prT (ts.getD i default)->∃ y:Nat×List ByteArray,y=(i+1,l++[u])/\(y.1<=ts.length/\y.2=(ts.take y.1).map prT)/\ts.length-y.1<ts.length-i:=fun u hu=>⟨_,rfl,⟨by dsimp only;omega,hnx u hu⟩,by dsimp only;omega⟩
   clear hls hj hs hnx;by_cases hk:(ts.getD i default).k=2
   . have d1:decide ((ts.getD i default).k=2)=true:=decide_eq_true hk;obtain ⟨y,hy,h1,h2⟩:=fin (escS (ts.getD i default).t) (by unfold prT;rw [d1];rfl);clear fin hk;refine hg1 @d1 ?_
     repeat' ((first | refine hfk ?_ ?_<;>intros | refine hik ?_ | with_reducible first | refine v47 (a1) ?_ | refine vrf (a1) ?_)<;>refine hgS ?_)
     refine ⟨y,h1,h2,?_⟩;subst hy;refine StH.back [3,6,7,8] 0 2 1 rfl rfl rfl rfl rfl (by kernel_rfl) ?_;simp only [List.map_append,List.map_cons,List.map_nil]
     conv=>simp (maxSteps:=2000000) (disch:=omega) only [go_sem,Nat.reduceAdd,Nat.reduceSub,Nat.reduceMul,Int.reduceToNat,Nat.reduceEqDiff,Nat.reduceBEq,Nat.reduceBneDiff,Nat.reduceLT,Int.reduceEq,Int.reduceLT,Int.reduceLE,Int.reduceNeg,Int.reduceAdd,Int.reduceSub,Int.reduceMul,List.length_append,List.length_singleton]
     exact StH.same svl rfl
   . have d1:decide ((ts.getD i default).k=2)=false:=decide_eq_false hk;obtain ⟨y,hy,h1,h2⟩:=fin (ts.getD i default).t (by unfold prT;rw [d1];rfl);clear fin hk a1;refine hg1 @d1 ?_
     repeat' ((first | refine hfk ?_ ?_<;>intros | refine hik ?_)<;>refine hgS ?_)
     refine ⟨y,h1,h2,?_⟩;subst hy;refine StH.back [3,6,7,8] 0 2 1 rfl rfl rfl rfl rfl (by kernel_rfl) ?_;simp only [List.map_append,List.map_cons,List.map_nil]
     conv=>simp (maxSteps:=2000000) (disch:=omega) only [go_sem,Nat.reduceAdd,Nat.reduceSub,Nat.reduceMul,Int.reduceToNat,Nat.reduceEqDiff,Nat.reduceBEq,Nat.reduceBneDiff,Nat.reduceLT,Int.reduceEq,Int.reduceLT,Int.reduceLE,Int.reduceNeg,Int.reduceAdd,Int.reduceSub,Int.reduceMul,List.length_append,List.length_singleton]
     exact StH.same svl rfl
 . have ei:i=ts.length:=by omega
   subst ei;rw [List.take_length] at hls;rw [<-hls] at hj ⊢;clear hls;refine hg ?_
   repeat' ((first | refine hfk ?_ ?_<;>intros | refine hik ?_ | with_reducible first | refine v47 (hj) ?_ | refine vrf (hj) ?_)<;>refine hgS ?_)
   exact RLe.ofEq rfl
theorem yag {N:Nat} (x:Ex) (ts:List Tk) (s:ByteArray) (hx:x.Sm) (hr:z7n x=true) (hE:WrE Γ N x ts) (hl:ts.length<=1073741824) (hs:∀ t∈ts,t.t.size<=1073741824) (hlen:(Lib.join ((ts.map prT).map (·.data.toList)) [32]).length<=140737488355328)
 (hj:yuh (ts.map prT) ⟨#[32]⟩=s) (hsz:s.size<=4000):CallsD Γ prog 39 [.agg (exC x)] (.tup [.one (cS s),.one (cB true)]):=by
 have a1:=yfm (Γ:=Γ) x ts hx hr hE;have a2:=yoy (Γ:=Γ) ts hl hs hlen;rw [hj] at a2;clear hj hE hlen;refine CallsD.run [] Go.Proofs.Tryz.func39 rfl rfl rfl ?_;simp only [Go.Proofs.Tryz.f39];refine hgR ?_
 repeat' ((first | refine hfk ?_ ?_<;>intros | refine hik ?_ | with_reducible first | refine v47 (a1) ?_ | refine vrf (a1) ?_ | refine v47 (a2) ?_ | refine vrf (a2) ?_)<;>refine hgS ?_)
 all_goals first
  | exact RLe.ofEq rfl
  | (exfalso;omega)
end Go.Hp.T
