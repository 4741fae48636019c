/- The proof, part Z34: 7c, 7d, 7g, Ja, Jb. -/
import Derived.Test.YtbdoipfmafbhoaaGreatDoorZ33
import Derived.Test.YtbdoipfmafbhoaaGreatDoorZ32
import Derived.Test.YtbdoipfmafbhoaaGreatDoorZ7
import Derived.WalkKit
import Derived.ProofKit
import Derived.OpenShut
import Derived.JoinedCond
import Derived.ChangeBook
import Derived.ChangeStays
namespace Go.Hp.T
open Go Go.RowKit Go.Slot Go.Hp Go.Slot.T
open Go.Proofs.Tryz (prog)
attribute [local irreducible] hide RH
set_option maxRecDepth 10000
set_option maxHeartbeats 8000000
variable {Γ:List (Nat×List Cell)}
def cntS (l:List ByteArray) (s:ByteArray):Nat:=(l.filter fun t=>seq t s).length
theorem yel (l:List ByteArray) (s:ByteArray):cntS l s<=l.length:=List.length_filter_le _ _
theorem vkx {α:Type} [Inhabited α] {p:α->Bool} {l:List α} {i:Nat} (h:i<l.length):((l.take (i+1)).filter p).length=((l.take i).filter p).length+bif p (l.getD i default) then 1 else 0:=by
 rw [List.take_succ_eq_append_getElem h,List.filter_append,List.length_append,List.getD_eq_getElem?_getD,List.getElem?_eq_getElem h];simp only [Option.getD_some]
 cases hp:p l[i]<;>simp [hp]
theorem vdb (l:List ByteArray) (s:ByteArray) (hl:l.length<=1073741824):CallsD Γ prog 48 [.one (x5v l),.one (cS s)] (.one (cI (cntS l s))):=by
 refine CallsD.run [] Go.Proofs.Tryz.func48 rfl rfl rfl ?_;simp only [Go.Proofs.Tryz.f48];refine hgR ?_
 repeat' ((first | refine hfk ?_ ?_<;>intros | refine hik ?_)<;>refine hgS ?_)
 refine xou [0,1] (fun i:Nat=>[(5,.one (.dat (cI (((l.take i).filter fun t=>seq t s).length:Nat)))),(6,.one (.dat (cI i)))]) (fun _=>[]) (fun i=>i<=l.length) (fun i=>l.length-i) 0 (Nat.zero_le _) ?_ ?_
 . refine hg ?_;exact StH.same svl rfl
 intro i hi;have hb:((l.take i).filter fun t=>seq t s).length<=1073741824:=Nat.le_trans (List.length_filter_le _ _) (by simp;omega);refine hg ?_;refine w4y (fun hlt _=>?_) (fun hlt _=>?_)
 . have hlt':i<l.length:=by omega
   have hf:=vkx (p:=fun t=>seq t s) hlt';generalize ((l.take i).filter fun t=>seq t s).length=c at *
   cases hq:seq (l.getD i default) s
   . rw [hq,cond_false,Nat.add_zero] at hf;refine hg1 @hq ?_
     repeat' ((first | refine hfk ?_ ?_<;>intros | refine hik ?_)<;>refine hgS ?_)
     refine ⟨i+1,by omega,by omega,?_⟩;rw [hf];exact StH.same svl rfl
   . rw [hq,cond_true] at hf;refine hg1 @hq ?_
     repeat' ((first | refine hfk ?_ ?_<;>intros | refine hik ?_)<;>refine hgS ?_)
     refine ⟨i+1,by omega,by omega,?_⟩;rw [hf];exact StH.same svl rfl
 . rw [List.take_of_length_le (show l.length<=i by omega)] at hb ⊢;refine hg ?_
   repeat' ((first | refine hfk ?_ ?_<;>intros | refine hik ?_)<;>refine hgS ?_)
   exact RLe.ofEq rfl
def vg7 (l:List Stp) (u:Int) (s:ByteArray):Nat->Nat×Nat
 | 0=>(0,0)
 | i+1=>bif decide ((i:Int)<u) then ((vg7 l u s i).1+cntS (l.getD i default).out s,(vg7 l u s i).2) else ((vg7 l u s i).1,(vg7 l u s i).2+cntS (l.getD i default).inn s)
theorem zvo {l:List Stp} {u:Int} {s:ByteArray} (h:∀ y∈l,y.Sm):∀ i,i<=l.length->(vg7 l u s i).1<=1073741824*i/\(vg7 l u s i).2<=1073741824*i
 | 0,_=>⟨Nat.le_refl _,Nat.le_refl _⟩
 | i+1,hi=>by
  have ih:=zvo (u:=u) (s:=s) h i (by omega);have hy:=h _ (wip (show i<l.length by omega));have h1:=Nat.le_trans (yel (l.getD i default).out s) hy.ol;have h2:=Nat.le_trans (yel (l.getD i default).inn s) hy.il;rw [vg7]
  cases decide ((i:Int)<u)
  . rw [cond_false];dsimp only;omega
  . rw [cond_true];dsimp only;omega
theorem y2f (l:List Stp) (u:Int) (s:ByteArray) (hl:l.length<=1073741824) (h:∀ y∈l,y.Sm):CallsD Γ prog 19 [.one (.sl 6 (l.map Stp.C)),.one (cI u),.one (cS s)] (.tup [.one (cI (vg7 l u s l.length).1),.one (cI (vg7 l u s l.length).2)]):=by
 refine CallsD.run [] Go.Proofs.Tryz.func19 rfl rfl rfl ?_;simp only [Go.Proofs.Tryz.f19];refine hgR ?_
 repeat' ((first | refine hfk ?_ ?_<;>intros | refine hik ?_)<;>refine hgS ?_)
 refine xou [0,1,2] (fun i:Nat=>[(8,.one (.dat (cI (vg7 l u s i).1))),(9,.one (.dat (cI (vg7 l u s i).2))),(10,.one (.dat (cI i)))]) (fun _=>[]) (fun i=>i<=l.length) (fun i=>l.length-i) 0 (Nat.zero_le _) ?_ ?_
 . refine hg ?_;exact StH.same svl rfl
 intro i hi;have hb:=zvo (u:=u) (s:=s) h i hi;have hm:=vg7.eq_2 l u s i;refine hg ?_;refine w4y (fun hlt _=>?_) (fun hlt _=>?_)
 . have hlt':i<l.length:=by omega
   have hy:=h _ (wip hlt');have c1:=vdb (Γ:=Γ) (l.getD i default).out s hy.ol;have c2:=vdb (Γ:=Γ) (l.getD i default).inn s hy.il;have h1:=Nat.le_trans (yel (l.getD i default).out s) hy.ol;have h2:=Nat.le_trans (yel (l.getD i default).inn s) hy.il;generalize cntS (l.getD i default).out s=n1 at *;generalize cntS (l.getD i default).inn s=n2 at *;generalize vg7 l u s i=p at *;obtain ⟨a,b⟩:=p;dsimp only at hb hm ⊢;clear h hy;by_cases hu:(i:Int)<u
   . rw [decide_eq_true hu,cond_true] at hm;refine hg ?_
     repeat' ((first | refine hfk ?_ ?_<;>intros | refine hik ?_ | with_reducible first | refine wud (c1) ?_ | refine vqe (c1) ?_ | refine wud (c2) ?_ | refine vqe (c2) ?_)<;>refine hgS ?_)
     all_goals try (exfalso;omega)
     refine ⟨i+1,by omega,by omega,?_⟩;rw [hm];exact StH.same svl rfl
   . rw [decide_eq_false hu,cond_false] at hm;refine hg ?_
     repeat' ((first | refine hfk ?_ ?_<;>intros | refine hik ?_ | with_reducible first | refine wud (c1) ?_ | refine vqe (c1) ?_ | refine wud (c2) ?_ | refine vqe (c2) ?_)<;>refine hgS ?_)
     all_goals try (exfalso;omega)
     refine ⟨i+1,by omega,by omega,?_⟩;rw [hm];exact StH.same svl rfl
 . have hii:i=l.length:=by omega
   subst hii;clear h;refine hg ?_
   repeat' ((first | refine hfk ?_ ?_<;>intros | refine hik ?_)<;>refine hgS ?_)
   exact RLe.ofEq rfl
def vor (x:Stp):Bool:=x.inn.any (fun s=>decide (1<(cntS x.inn s:Int)))||x.out.any (fun s=>decide (1<(cntS x.out s:Int)))
theorem z1e (x:Stp) (hi:x.inn.length<=1073741824) (ho:x.out.length<=1073741824):CallsD Γ prog 20 [.agg (stpC x)] (.one (cB (vor x))):=by
 have c1:=fun s=>vdb (Γ:=Γ) x.inn s hi
 have c2:=fun s=>vdb (Γ:=Γ) x.out s ho
 generalize hR:vor x=R;refine CallsD.run [] Go.Proofs.Tryz.func20 rfl rfl rfl ?_;simp only [Go.Proofs.Tryz.f20];refine hgR ?_
 repeat' ((first | refine hfk ?_ ?_<;>intros | refine hik ?_)<;>refine hgS ?_)
 refine xou [1] (fun i:Nat=>[(3,.one (.dat (cI i)))]) (fun _=>[.box ((stpC x).map .dat) (some 50)]) (fun i=>i<=x.inn.length/\∀ j,j<i->decide (1<(cntS x.inn (x.inn.getD j default):Int))=false) (fun i=>x.inn.length-i) 0 ⟨Nat.zero_le _,fun j hj=>by omega⟩ ?_ ?_
 . refine hg ?_;exact StH.same svl rfl
 rintro i ⟨hin,hj⟩;refine hg ?_;refine w4y (fun hlt _=>?_) (fun hlt _=>?_)
 . have hlt':i<x.inn.length:=by omega
   have eb:decide (1<(cntS x.inn (x.inn.getD i default):Int))=true->R=true:=fun h=>by rw [<-hR];unfold vor;rw [v0j (p:=fun s=>decide (1<(cntS x.inn s:Int))) hlt' h];rfl
   have c3:=c1 (x.inn.getD i default);generalize hn:cntS x.inn (x.inn.getD i default)=n at *;clear c1 c2 hR;refine hg ?_
   repeat' ((first | refine hfk ?_ ?_<;>intros | refine hik ?_ | with_reducible first | refine wud (c3) ?_ | refine vqe (c3) ?_)<;>refine hgS ?_)
   . rename_i hd;exact RLe.ofEq rfl
   . rename_i hd;exact ⟨i+1,⟨by omega,yht hj (by rw [hn];exact hd)⟩,by omega,StH.same svl rfl⟩
 have ha:x.inn.any (fun s=>decide (1<(cntS x.inn s:Int)))=false:=ww8 (fun j hjl=>hj j (by omega));clear hj;refine hg ?_;refine xou [1] (fun i:Nat=>[(4,.one (.dat (cI i)))]) (fun _=>[.box ((stpC x).map .dat) (some 50)]) (fun i=>i<=x.out.length/\∀ j,j<i->decide (1<(cntS x.out (x.out.getD j default):Int))=false) (fun i=>x.out.length-i) 0 ⟨Nat.zero_le _,fun j hj=>by omega⟩ ?_ ?_
 . refine hg ?_;exact StH.same svl rfl
 rintro i ⟨hin,hj⟩;refine hg ?_;refine w4y (fun hlt _=>?_) (fun hlt _=>?_)
 . have hlt':i<x.out.length:=by omega
   have eb:decide (1<(cntS x.out (x.out.getD i default):Int))=true->R=true:=fun h=>by rw [<-hR];unfold vor;rw [v0j (p:=fun s=>decide (1<(cntS x.out s:Int))) hlt' h];simp
   have c3:=c2 (x.out.getD i default);generalize hn:cntS x.out (x.out.getD i default)=n at *;clear c1 c2 hR;refine hg ?_
   repeat' ((first | refine hfk ?_ ?_<;>intros | refine hik ?_ | with_reducible first | refine wud (c3) ?_ | refine vqe (c3) ?_)<;>refine hgS ?_)
   . rename_i hd;exact RLe.ofEq rfl
   . rename_i hd;exact ⟨i+1,⟨by omega,yht hj (by rw [hn];exact hd)⟩,by omega,StH.same svl rfl⟩
 have hb:x.out.any (fun s=>decide (1<(cntS x.out s:Int)))=false:=ww8 (fun j hjl=>hj j (by omega))
 have hRf:R=false:=by rw [<-hR];unfold vor;rw [ha,hb];rfl
 rw [hRf];clear hR hRf ha hb c1 c2;refine hg ?_
 repeat' ((first | refine hfk ?_ ?_<;>intros | refine hik ?_)<;>refine hgS ?_)
 exact RLe.ofEq rfl
def shM (a b:Stp):Bool:=b.inn.any (fun s=>decide (0<(cntS a.inn s:Int)))||(b.out.any (fun s=>decide (0<(cntS a.out s:Int)))||(decide (a.kind=b.kind)&&(seq a.name b.name&&!seq a.name ⟨#[]⟩)))
theorem yfu (a b:Stp) (ha:a.Sm) (hb:b.Sm):CallsD Γ prog 21 [.agg (stpC a),.agg (stpC b)] (.one (cB (shM a b))):=by
 have c1:=fun s=>vdb (Γ:=Γ) a.inn s ha.il
 have c2:=fun s=>vdb (Γ:=Γ) a.out s ha.ol
 have hi:=hb.il;have ho:=hb.ol;have hn1:=ha.n;have hn2:=hb.n;clear ha hb;generalize hR:shM a b=R;refine CallsD.run [] Go.Proofs.Tryz.func21 rfl rfl rfl ?_;simp only [Go.Proofs.Tryz.f21];refine hgR ?_
 repeat' ((first | refine hfk ?_ ?_<;>intros | refine hik ?_)<;>refine hgS ?_)
 refine xou [2,3] (fun i:Nat=>[(5,.one (.dat (cI i)))]) (fun _=>[.box ((stpC a).map .dat) (some 50),.box ((stpC b).map .dat) (some 50)]) (fun i=>i<=b.inn.length/\∀ j,j<i->decide (0<(cntS a.inn (b.inn.getD j default):Int))=false) (fun i=>b.inn.length-i) 0 ⟨Nat.zero_le _,fun j hj=>by omega⟩ ?_ ?_
 . refine hg ?_;exact StH.same svl rfl
 rintro i ⟨hin,hj⟩;refine hg ?_;refine w4y (fun hlt _=>?_) (fun hlt _=>?_)
 . have hlt':i<b.inn.length:=by omega
   have eb:decide (0<(cntS a.inn (b.inn.getD i default):Int))=true->R=true:=fun h=>by rw [<-hR];unfold shM;rw [v0j (p:=fun s=>decide (0<(cntS a.inn s:Int))) hlt' h];simp
   have c3:=c1 (b.inn.getD i default);generalize hn:cntS a.inn (b.inn.getD i default)=n at *;clear c1 c2 hR;refine hg ?_
   repeat' ((first | refine hfk ?_ ?_<;>intros | refine hik ?_ | with_reducible first | refine wud (c3) ?_ | refine vqe (c3) ?_)<;>refine hgS ?_)
   . rename_i hd;exact RLe.ofEq rfl
   . rename_i hd;exact ⟨i+1,⟨by omega,yht hj (by rw [hn];exact hd)⟩,by omega,StH.same svl rfl⟩
 have h1:b.inn.any (fun s=>decide (0<(cntS a.inn s:Int)))=false:=ww8 (fun j hjl=>hj j (by omega));clear hj;refine hg ?_;refine xou [2,3] (fun i:Nat=>[(6,.one (.dat (cI i)))]) (fun _=>[.box ((stpC a).map .dat) (some 50),.box ((stpC b).map .dat) (some 50)]) (fun i=>i<=b.out.length/\∀ j,j<i->decide (0<(cntS a.out (b.out.getD j default):Int))=false) (fun i=>b.out.length-i) 0 ⟨Nat.zero_le _,fun j hj=>by omega⟩ ?_ ?_
 . refine hg ?_;exact StH.same svl rfl
 rintro i ⟨hin,hj⟩;refine hg ?_;refine w4y (fun hlt _=>?_) (fun hlt _=>?_)
 . have hlt':i<b.out.length:=by omega
   have eb:decide (0<(cntS a.out (b.out.getD i default):Int))=true->R=true:=fun h=>by rw [<-hR];unfold shM;rw [v0j (p:=fun s=>decide (0<(cntS a.out s:Int))) hlt' h];simp
   have c3:=c2 (b.out.getD i default);generalize hn:cntS a.out (b.out.getD i default)=n at *;clear c1 c2 hR;refine hg ?_
   repeat' ((first | refine hfk ?_ ?_<;>intros | refine hik ?_ | with_reducible first | refine wud (c3) ?_ | refine vqe (c3) ?_)<;>refine hgS ?_)
   . rename_i hd;exact RLe.ofEq rfl
   . rename_i hd;exact ⟨i+1,⟨by omega,yht hj (by rw [hn];exact hd)⟩,by omega,StH.same svl rfl⟩
 have h2:b.out.any (fun s=>decide (0<(cntS a.out s:Int)))=false:=ww8 (fun j hjl=>hj j (by omega));clear hj;unfold shM at hR;rw [h1,h2,Bool.false_or,Bool.false_or] at hR;rw [<-hR];clear hR h1 h2 c1 c2;refine hg ?_
 repeat' ((first | refine hfk ?_ ?_<;>intros | refine hik ?_)<;>refine hgS ?_)
 all_goals exact RLe.ofEq (by simp_all)
end Go.Hp.T
namespace Go.Hp.T
open Go Go.RowKit Go.Slot Go.Hp Go.Slot.T
set_option maxRecDepth 10000
theorem yd4 {k:Int} {t:Tg}:∀{T:List Tg} {H:Mb},z7x tgE (addT H k T) t=bif T.any (tgE t) then some k else z7x tgE H t
 | [],_=>rfl
 | y::T,H=>by
  show z7x tgE (addT (updG tgE H y k) k T) t=_;rw [yd4,y84 xff yzz vae,List.any_cons]
  cases T.any (tgE t)<;>cases tgE t y<;>rfl
theorem wmu {t:Tg} {T:List Tg}:T.any (tgE t)=true↔t∈T:=by
 rw [List.any_eq_true];constructor
 . rintro ⟨y,hy,h⟩;rw [yb9.1 h];exact hy
 . exact fun h=>⟨t,h,xff t⟩
structure zk3 (l:List Stp) (i:Nat) (H:Mb):Prop where
 old:∀ t k,z7x tgE H t=some k->∃ j:Nat,j<i/\k=(j:Int)/\t∈xxm (l.getD j default)
 all:∀ j,j<i->∀ t∈xxm (l.getD j default),(z7x tgE H t).isSome=true
theorem zk3.nil (l:List Stp):zk3 l 0 []:=⟨fun t k h=>(by cases h),fun j h=>(by omega)⟩
theorem zk3.step {l:List Stp} {i:Nat} {H:Mb} (h:zk3 l i H):zk3 l (i+1) (addT H i (xxm (l.getD i default))) where
 old:=by
  intro t k hk;rw [yd4] at hk
  cases ha:(xxm (l.getD i default)).any (tgE t) with
  | true=>
   rw [ha,cond_true] at hk;exact ⟨i,by omega,(Option.some.inj hk).symm,wmu.1 ha⟩
  | false=>
   rw [ha,cond_false] at hk;obtain ⟨j,hj,hk,ht⟩:=h.old t k hk;exact ⟨j,by omega,hk,ht⟩
 all:=by
  intro j hj t ht;rw [yd4]
  cases ha:(xxm (l.getD i default)).any (tgE t) with
  | true=>rfl
  | false=>
   rw [cond_false]
   rcases Nat.lt_succ_iff_lt_or_eq.1 hj with hj | rfl
   . exact h.all j hj t ht
   . rw [wmu.2 ht] at ha;cases ha
theorem yf0 {C I:Ms} {N:Mn} {kind:ByteArray} {l:List Stp}:∀(n i:Nat) (H:Mb),n=l.length-i->i<=l.length->zk3 l i H->
 (match vyy C I N kind (l.drop i) i H with
 | .inl k=>∃ j H',j<l.length/\zk3 l j H'/\¬vgt C I N H' kind (l.getD j default)=0/\k=(vgt C I N H' kind (l.getD j default),(j:Int),wri (vgt C I N H' kind (l.getD j default)) j H' (l.getD j default))
 | .inr H'=>zk3 l l.length H')
 | 0,i,H,hn,hi,hb=>by
  have e:i=l.length:=by omega
  rw [List.drop_of_length_le (by omega),vyy];exact e▸hb
 | n+1,i,H,hn,hi,hb=>by
  have hl:i<l.length:=by omega
  rw [wsu hl,vyy];by_cases hw:vgt C I N H kind (l.getD i default)=0
  . rw [hw,decide_eq_false (by simp),cond_false];exact yf0 n (i+1) _ (by omega) hl hb.step
  . rw [decide_eq_true hw,cond_true];exact ⟨i,H,hl,hb,hw,rfl⟩
theorem yb7 {t:Tg}:∀{T:List Tg} {m:Mb},(z7x tgE (cntM T m) t).getD 0=(z7x tgE m t).getD 0+((T.filter (tgE t)).length:Nat)
 | [],m=>by simp [cntM]
 | y::T,m=>by
  show (z7x tgE (cntM T (updG tgE m y ((z7x tgE m y).getD 0+1))) t).getD 0=_;rw [yb7,y84 xff yzz vae,List.filter_cons]
  cases h:tgE t y with
  | true=>
   rw [yb9.1 h];simp;omega
  | false=>simp
theorem zkz {e a:Int} {H K:Mb} (h:¬e=5):∀{T:List Tg},yd0 e a H K T=[a]
 | []=>rfl
 | y::T=>by
  rw [yd0]
  cases z7x tgE H y with
  | some k=>dsimp only;rw [decide_eq_false h,cond_false,zkz h];cases decide (1<(z7x tgE K y).getD 0)<;>rfl
  | none=>dsimp only;rw [zkz h];cases decide (1<(z7x tgE K y).getD 0)<;>rfl
theorem xy1 {a:Int} {H K:Mb}:∀{T:List Tg},(∃ k,∃ t∈T,z7x tgE H t=some k/\yd0 5 a H K T=[k,a])\/(yd0 5 a H K T=[a]/\((∃ t∈T,1<(z7x tgE K t).getD 0)\/∀ t∈T,z7x tgE H t=none/\¬1<(z7x tgE K t).getD 0))
 | []=>.inr ⟨rfl,.inr fun t ht=>by cases ht⟩
 | y::T=>by
  rw [yd0]
  cases hk:z7x tgE H y with
  | some k=>exact .inl ⟨k,y,List.mem_cons_self,hk,rfl⟩
  | none=>
   dsimp only;by_cases hc:1<(z7x tgE K y).getD 0
   . rw [decide_eq_true hc];exact .inr ⟨rfl,.inl ⟨y,List.mem_cons_self,hc⟩⟩
   . rw [decide_eq_false hc,cond_false]
     rcases xy1 (a:=a) (H:=H) (K:=K) (T:=T) with ⟨k,t,ht,h1,h2⟩ | ⟨h1,⟨t,ht,h2⟩ | h2⟩
     . exact .inl ⟨k,t,List.mem_cons_of_mem _ ht,h1,h2⟩
     . exact .inr ⟨h1,.inl ⟨t,List.mem_cons_of_mem _ ht,h2⟩⟩
     . refine .inr ⟨h1,.inr fun t ht=>?_⟩
       rcases List.mem_cons.1 ht with rfl | ht
       . exact ⟨hk,hc⟩
       . exact h2 t ht
theorem x1w {H : Mb} : ∀ {T : List Tg} {m : Mn}, dupT H T m = true → (∃ t ∈ T, (z7x tgE H t).isSome = true) ∨ (∃ t ∈ T, (z7x tgE m t).isSome = true) ∨ ∃ t ∈ T, 1 < (T.filter (tgE t)).length
 | [],m,h=>by cases h
 | y::T,m,h=>by
  rw [dupT] at h
  cases h1:(z7x tgE H y).isSome with
  | true=>exact .inl ⟨y,List.mem_cons_self,h1⟩
  | false =>
   cases h2:(z7x tgE m y).isSome with
   | true=>exact .inr (.inl ⟨y,List.mem_cons_self,h2⟩)
   | false=>
    rw [h1,h2] at h
    rcases x1w (T:=T) h with ⟨t,ht,h3⟩ | ⟨t,ht,h3⟩ | ⟨t,ht,h3⟩
    . exact .inl ⟨t,List.mem_cons_of_mem _ ht,h3⟩
    . rw [y84 xff yzz vae] at h3
      cases hy:tgE t y with
      | true=>
       refine .inr (.inr ⟨t,List.mem_cons_of_mem _ ht,?_⟩)
       have:0<(T.filter (tgE t)).length:=List.length_pos_of_mem (List.mem_filter.2 ⟨ht,xff t⟩)
       rw [List.filter_cons,if_pos hy,List.length_cons];omega
      | false=>
       rw [hy,cond_false] at h3;exact .inr (.inl ⟨t,List.mem_cons_of_mem _ ht,h3⟩)
    . refine .inr (.inr ⟨t,List.mem_cons_of_mem _ ht,?_⟩);rw [List.filter_cons]
      split
      . rw [List.length_cons];omega
      . exact h3
theorem vf7 {C I : Ms} {N : Mn} {H : Mb} {kind : ByteArray} {x : Stp} (h : ¬ vgt C I N H kind x = 0) : vgt C I N H kind x = 4 ∨ vgt C I N H kind x = 13 ∨ (vgt C I N H kind x = 5 ∧ dupT H (xxm x) [] = true) := by
 revert h;unfold vgt
 cases x.inn.any (noMk H)
 . cases x.cells.any (noCl C)
   . cases (!(seq x.name ⟨#[]⟩)&&(!decide (x.kind=7)&&(z7x tgE N (x.kind,x.name)).isNone))
     . cases (decide (x.kind=0)&&!(seq (vfm I x.name) kind)||x.cells.any (badW C))
       . cases hd:dupT H (xxm x) []
         . exact fun h=>absurd rfl h
         . exact fun _=>.inr (.inr ⟨rfl,rfl⟩)
       . exact fun _=>.inr (.inl rfl)
     . exact fun _=>.inl rfl
   . exact fun _=>.inl rfl
 . exact fun _=>.inl rfl
theorem seqc (a b:ByteArray):seq a b=seq b a:=by rw [wzm,wzm,Bool.eq_iff_iff,decide_eq_true_iff,decide_eq_true_iff];exact eq_comm
theorem seqt {a b:ByteArray}:seq a b=true↔a=b:=by rw [wzm,decide_eq_true_iff]
theorem vhp {a b:Int} {s:ByteArray}:∀{l:List ByteArray},((l.map fun x=>((b,x):Tg)).filter (tgE (a,s))).length=bif decide (a=b) then cntS l s else 0
 | []=>by cases decide (a=b)<;>rfl
 | y::l=>by
  rw [List.map_cons,List.filter_cons];have ih:=vhp (a:=a) (b:=b) (s:=s) (l:=l);unfold cntS at *;rw [List.filter_cons];show List.length (if (decide (a=b)&&seq s y)=true then _ else _)=_;rw [seqc s y]
  cases hab:decide (a=b) with
  | false=>rw [hab,cond_false] at ih;simpa using ih
  | true=>
   rw [hab,cond_true] at ih
   cases seq y s with
   | true=>simpa using ih
   | false=>simpa using ih
theorem vvw {l:List ByteArray} {s:ByteArray}:0<cntS l s↔s∈l:=by
 unfold cntS;rw [List.length_pos_iff_exists_mem];constructor
 . rintro ⟨y,h⟩;rw [List.mem_filter,seqt] at h;exact h.2▸h.1
 . exact fun h=>⟨s,List.mem_filter.2 ⟨h,seqt.2 rfl⟩⟩
theorem w0b {x:Stp} {t:Tg} (h:1<((xxm x).filter (tgE t)).length):vor x=true:=by
 obtain ⟨a,s⟩:=t;unfold xxm at h;rw [List.filter_append,List.filter_append,List.length_append,List.length_append,vhp,vhp] at h
 have hz:∀ b:Bool,((bif b then [(2+x.kind,x.name)] else []:List Tg).filter (tgE (a,s))).length<=1:=by
  intro b
  cases b
  . simp
  . exact Nat.le_trans (List.length_filter_le _ _) (by simp)
 have hk:(decide (x.kind=0)||(decide (x.kind=1)||decide (x.kind=5)))=true->0<=x.kind:=by
  intro h;simp at h;omega
 have hz':a=0\/a=1->((bif decide (x.kind=0)||(decide (x.kind=1)||decide (x.kind=5)) then [(2+x.kind,x.name)] else []:List Tg).filter (tgE (a,s))).length=0:=by
  intro ha
  cases hb:(decide (x.kind=0)||(decide (x.kind=1)||decide (x.kind=5)))
  . rfl
  . have:=hk hb
    have hn:tgE (a,s) (2+x.kind,x.name)=false:=by
     show (decide (a=2+x.kind)&&_)=false;rw [decide_eq_false (by omega)];rfl
    simp [hn]
 unfold vor;by_cases h0:a=0
 . subst h0;rw [hz' (.inl rfl),decide_eq_true rfl,decide_eq_false (by decide),cond_true,cond_false] at h;have hm:s∈x.inn:=vvw.1 (by omega);rw [List.any_eq_true.2 ⟨s,hm,decide_eq_true (by omega)⟩];rfl
 . by_cases h1:a=1
   . subst h1;rw [hz' (.inr rfl),decide_eq_true rfl,decide_eq_false (by decide),cond_true,cond_false] at h;have hm:s∈x.out:=vvw.1 (by omega);rw [List.any_eq_true.2 ⟨s,hm,decide_eq_true (by omega)⟩];exact Bool.or_true _
   . rw [decide_eq_false h0,decide_eq_false h1,cond_false,cond_false] at h
     have:=hz (decide (x.kind=0)||(decide (x.kind=1)||decide (x.kind=5)))
     omega
theorem xdd {t:Tg} {x:Stp}:t∈xxm x↔(∃ s∈x.inn,t=(0,s))\/(∃ s∈x.out,t=(1,s))\/((x.kind=0\/x.kind=1\/x.kind=5)/\t=(2+x.kind,x.name)):=by
 unfold xxm;rw [List.mem_append,List.mem_append,List.mem_map,List.mem_map,or_assoc];refine or_congr ?_ (or_congr ?_ ?_)
 . exact ⟨fun ⟨s,h,e⟩=>⟨s,h,e.symm⟩,fun ⟨s,h,e⟩=>⟨s,h,e.symm⟩⟩
 . exact ⟨fun ⟨s,h,e⟩=>⟨s,h,e.symm⟩,fun ⟨s,h,e⟩=>⟨s,h,e.symm⟩⟩
 . cases hb:(decide (x.kind=0)||(decide (x.kind=1)||decide (x.kind=5))) with
   | false=>simp at hb;simp [hb]
   | true=>
    simp only [Bool.or_eq_true,decide_eq_true_eq] at hb;simp [hb]
theorem yox {x y:Stp} {t:Tg} (hx:t∈xxm x) (hy:t∈xxm y) (hn:(y.kind=0\/y.kind=1\/y.kind=5)->seq y.name ⟨#[]⟩=false):shM x y=true:=by
 unfold shM
 rcases xdd.1 hy with ⟨s,hs,rfl⟩ | ⟨s,hs,rfl⟩ | ⟨hk,rfl⟩
 . rcases xdd.1 hx with ⟨s',hs',e⟩ | ⟨s',hs',e⟩ | ⟨hk',e⟩
   . obtain rfl:s=s':=(Prod.mk.inj e).2
     have:=vvw.2 hs'
     rw [List.any_eq_true.2 ⟨s,hs,decide_eq_true (by omega)⟩];rfl
   . exact absurd (Prod.mk.inj e).1 (by decide)
   . have:=(Prod.mk.inj e).1;omega
 . rcases xdd.1 hx with ⟨s',hs',e⟩ | ⟨s',hs',e⟩ | ⟨hk',e⟩
   . exact absurd (Prod.mk.inj e).1 (by decide)
   . obtain rfl:s=s':=(Prod.mk.inj e).2
     have:=vvw.2 hs'
     have e:y.out.any (fun s=>decide (0<(cntS x.out s:Int)))=true:=List.any_eq_true.2 ⟨s,hs,decide_eq_true (by omega)⟩;rw [e];simp
   . have:=(Prod.mk.inj e).1;omega
 . rcases xdd.1 hx with ⟨s',hs',e⟩ | ⟨s',hs',e⟩ | ⟨hk',e⟩
   . have:=(Prod.mk.inj e).1;omega
   . have:=(Prod.mk.inj e).1;omega
   . have e1:=(Prod.mk.inj e).1;have e2:=(Prod.mk.inj e).2;have h1:=hn hk;rw [e2] at h1 ⊢;rw [decide_eq_true (show x.kind=y.kind by omega),seqt.2 rfl,h1];simp
theorem wvo {α:Type} {U:α->Us}:∀{l:List α} {c:Sc},(wlp U l c).1=true->c.1=true/\∀ x∈l,(U x).2.1=true/\(U x).2.2=true/\wgk (U x).1=true
 | [],_,h=>⟨h,fun x hx=>by cases hx⟩
 | y::l,c,h=>by
  have ih:=wvo (l:=l) (c:=useM c (U y)) h;have h1:=ih.1;unfold useM at h1;simp only [Bool.and_eq_true] at h1;refine ⟨h1.1,fun x hx=>?_⟩
  rcases List.mem_cons.1 hx with rfl | hx
  . exact ⟨h1.2.1,h1.2.2.1,h1.2.2.2.1⟩
  . exact ih.2 x hx
theorem v26 {s:Sht} (h:x7y s=true) {x:Rcp} (hx:x∈s.recipes) {y:Stp} (hy:y∈x.steps):z7o y=true:=by
 unfold x7y at h;simp only [Bool.and_eq_true] at h
 have:=((wvo h.2).2 x hx).2.1
 unfold rcpU at this;simp only [Bool.and_eq_true,Bool.not_eq_true',List.any_eq_false] at this;simpa using this.2 y hy
theorem y76 {s:ByteArray} (h:wgk s=true):seq s ⟨#[]⟩=false:=by
 cases hs:seq s ⟨#[]⟩ with
 | false=>rfl
 | true=>
  rw [seqt.1 hs] at h;exact absurd h (by decide +kernel)
theorem v2f {y:Stp} (h:z7o y=true) (hk:y.kind=0\/y.kind=1\/y.kind=5):seq y.name ⟨#[]⟩=false:=by
 unfold z7o yzn at h;simp only [Bool.and_eq_true] at h;have h1:=h.2.1.2
 have hn:(yfy y.kind).n=true:=by rcases hk with e | e | e<;>rw [e]<;>rfl
 rw [hn,cond_true] at h1;exact y76 h1
inductive LookSpec (s:Sht) (r:Int):Lk->Prop
 | fine (e:Int) (he:e=0\/e=1):LookSpec s r (e,0,[])
 | gap (hr:0<=r) (hr':r<s.recipes.length):LookSpec s r (21,((s.recipes.getD r.toNat default).steps.length:Nat),[])
 | lost (hr:0<=r) (hr':r<s.recipes.length) (g:Nat) (hg:g<(s.recipes.getD r.toNat default).steps.length) (p:ByteArray) (hp:p∈((s.recipes.getD r.toNat default).steps.getD g default).out) (h:∀ j,j<(s.recipes.getD r.toNat default).steps.length->cntS ((s.recipes.getD r.toNat default).steps.getD j default).inn p=0):LookSpec s r (21,((s.recipes.getD r.toNat default).steps.length:Nat),[(g:Int)])
 | bad (hr:0<=r) (hr':r<s.recipes.length) (i:Nat) (hi:i<(s.recipes.getD r.toNat default).steps.length) (e:Int) (he:e=4\/e=13):LookSpec s r (e,(i:Int),[(i:Int)])
 | doub (hr:0<=r) (hr':r<s.recipes.length) (i:Nat) (hi:i<(s.recipes.getD r.toNat default).steps.length) (h:vor ((s.recipes.getD r.toNat default).steps.getD i default)=true):LookSpec s r (5,(i:Int),[(i:Int)])
 | sh (hr:0<=r) (hr':r<s.recipes.length) (i k:Nat) (hi:i<(s.recipes.getD r.toNat default).steps.length) (hk:k<i) (h:shM ((s.recipes.getD r.toNat default).steps.getD k default) ((s.recipes.getD r.toNat default).steps.getD i default)=true):LookSpec s r (5,(i:Int),[(k:Int),(i:Int)])
theorem yne (s:Sht) (r:Int):LookSpec s r (yr2 s r):=by
 unfold yr2
 cases hc:(!x7y s||(decide (r<0)||decide ((s.recipes.length:Int)<=r))) with
 | true=>exact .fine 1 (.inr rfl)
 | false=>
  rw [cond_false];simp only [Bool.or_eq_false_iff,Bool.not_eq_false',decide_eq_false_iff_not] at hc;obtain ⟨hR,h0,h1⟩:=hc
  have hr:0<=r:=by omega
  have hr':r<s.recipes.length:=by omega
  have hst:∀ y∈(s.recipes.getD r.toNat default).steps,z7o y=true:=fun y hy=>v26 hR (wip (by omega)) hy
  have sp:=yf0 (C:=xgh s) (I:=y5s s) (N:=w3n s) (kind:=(s.recipes.getD r.toNat default).kind) (l:=(s.recipes.getD r.toNat default).steps) _ 0 [] rfl (Nat.zero_le _) (.nil _);rw [List.drop_zero] at sp
  cases hL:vyy (xgh s) (y5s s) (w3n s) (s.recipes.getD r.toNat default).kind (s.recipes.getD r.toNat default).steps 0 [] with
  | inl k=>
   rw [hL] at sp;dsimp only at sp ⊢;obtain ⟨j,H,hj,hb,hw,rfl⟩:=sp
   rcases vf7 hw with e | e | ⟨e,hd⟩
   . rw [e];unfold wri;rw [zkz (by decide)];exact .bad hr hr' j hj 4 (.inl rfl)
   . rw [e];unfold wri;rw [zkz (by decide)];exact .bad hr hr' j hj 13 (.inr rfl)
   . rw [e];unfold wri
     rcases xy1 (a:=(j:Int)) (H:=H) (K:=cntM (xxm ((s.recipes.getD r.toNat default).steps.getD j default)) []) (T:=xxm ((s.recipes.getD r.toNat default).steps.getD j default)) with ⟨k,t,ht,h2,h3⟩ | ⟨h3,h4⟩
     . rw [h3];obtain ⟨i,hi,rfl,hti⟩:=hb.old t k h2;exact .sh hr hr' j i hj hi (yox hti ht (v2f (hst _ (wip hj))))
     . rw [h3];refine .doub hr hr' j hj ?_
       rcases h4 with ⟨t,ht,h5⟩ | h5
       . rw [yb7] at h5;exact w0b (t:=t) (by simp only [z7x,Option.getD_none] at h5;omega)
       . rcases x1w hd with ⟨t,ht,h6⟩ | ⟨t,ht,h6⟩ | ⟨t,ht,h6⟩
         . rw [(h5 t ht).1] at h6;cases h6
         . cases h6
         . exact w0b h6
  | inr H=>
   rw [hL] at sp;dsimp only at sp ⊢;unfold endL
   cases hg:(gapR s (s.recipes.getD r.toNat default) H).2 with
   | false=>exact .fine 0 (.inl rfl)
   | true=>
    rw [cond_true];by_cases hm:(gapR s (s.recipes.getD r.toNat default) H).1 = -1
    . rw [hm];exact .gap hr hr'
    . rw [decide_eq_true hm,cond_true];unfold gapR at hm ⊢
      cases hu:vxq H (s.recipes.getD r.toNat default).steps with
      | none=>rw [hu] at hm;exact absurd rfl hm
      | some g=>
       dsimp only;unfold vxq at hu;rw [List.find?_range_eq_some] at hu
       have hgl:g<(s.recipes.getD r.toNat default).steps.length:=by simpa using hu.2.1
       have h3:=hu.1;unfold wz1 at h3;obtain ⟨p,hp,h4⟩:=List.any_eq_true.1 h3
       refine .lost hr hr' g hgl p hp fun j hj=>?_
       by_cases hz:cntS ((s.recipes.getD r.toNat default).steps.getD j default).inn p=0
       . exact hz
       . have hm:=vvw.1 (Nat.pos_of_ne_zero hz)
         have:=sp.all j hj (0,p) (xdd.2 (.inl ⟨p,hm,rfl⟩))
         unfold vhs at h4
         cases hq:z7x tgE H (0,p) with
         | none=>rw [hq] at this;cases this
         | some _=>rw [hq] at h4;cases h4
end Go.Hp.T
namespace Go.Slot
open Go Go.RowKit Go.ChangeShapes
variable {P:Program} {H:Type} {enc:TypeId×Value->H} {w:World} {spare:Nat->Bool} {held:Bool}
structure Bulk (bk:DataW H->Nat):Prop where
 str:∀ b,b.length<=bk (.lit (.string b))
 elems:∀ l r,l.length<=bk (.slice l r)
 elem:∀ l r d,d∈l->bk d<=bk (.slice l r)
 part:∀ l d,d∈l->bk d<=bk (.agg l)
theorem RdD.app0 {M:Nat->Nat->Prop} {w:World}:∀{vs us:List Value} {cs ds:List Cell},RdD M w vs cs->RdD M w us ds->RdD M w (vs++us) (cs++ds)
 | [],_,[],_,_,h=>h
 | _::_,_,_::_,_,h,h'=>⟨h.1,RdD.app0 h.2 h'⟩
theorem cellAt {a:Addr} {v:Value} (h:w.cell? a=some v):a.spot=none:=by
 unfold World.cell? at h;split at h
 . split at h
   . cases h
   . rename_i hs;simpa using hs
 . cases h
theorem addrAt {a:Addr} (h:a.spot=none) (n:Nat):a.add n=⟨a.block,a.off+n,none⟩:=by
 unfold Addr.add
 split
 . rename_i e;subst e;cases a;simp at h;subst h;rfl
 . rfl
section
variable {bk:DataW H->Nat} {N:Nat}
end
end Go.Slot
namespace Go.Slot
open Go Go.RowKit Go.ChangeShapes Go.WideShapes
variable {P:Program} {H:Type} {enc:TypeId×Value->H}
def M0:Nat->Nat->Prop:=fun _ _=>False
section
variable {w:World} {spare:Nat->Bool} {held:Bool} {bk:DataW H->Nat} {N:Nat} {r:Reach} {b0:Nat}
end
theorem wz2 (hl:laidOutB P=true) {W W':World} (hb:Below W.heap.size W W') {sp:Nat->Bool}:∀{ts:List TypeId} {vs:List Value} {ds:List (DataW H)} {ps:List MemPlace},(∀ t∈ts,P.readableRec t=true/\t<P.types.size)->
 DataW.TrodAll enc P W 0 (fun _=>true) true ts vs ds ps->(∀ p∈ps,p.block<W.heap.size)->(∀ p∈ps,sp p.block=true)->DataW.TrodAll enc P W' 0 sp true ts vs ds ps
 | [],vs,ds,ps,_,h,_,_=>by
  obtain ⟨rfl,rfl,rfl⟩:=trodAll_nil h;exact trodAll_mk0
 | t::ts,vs,ds,ps,hts,h,hlt,hsp=>by
  obtain ⟨v,vs',d,ds',p,q,rfl,rfl,rfl,⟨fuel,h1⟩,h2⟩:=trodAll_cons h;have ht:=hts t (by simp)
  exact ⟨p,q,⟨fuel,DataW.trod_stays (kids_book hl ht.1) (book_sized ht.1) (fun h=>by cases h) ⟨ht.2,book_self t⟩ h1 (fun x hx=>hb.same (hlt x (by simp [hx]))) (fun x hx=>hsp x (by simp [hx]))⟩,
   wz2 hl hb (fun u hu=>hts u (by simp [hu])) h2 (fun x hx=>hlt x (by simp [hx])) (fun x hx=>hsp x (by simp [hx])),rfl⟩
theorem vko {W W':World} {may:MemPlace->Prop} (hb:Below W.heap.size W W'):W.keptBut W' may:=by
 refine ⟨hb.os,hb.output,fun i hi=>?_⟩;rw [hb.block i hi]
 split
 . rename_i h1 h2;rw [h1] at h2;cases h2;exact ⟨rfl,rfl,rfl,fun _ _=>rfl⟩
 . rename_i h1 h2;rw [h1] at h2;cases h2;exact .inr ⟨rfl,rfl⟩
 . rfl
theorem v14 {W W':World} (hb:Below W.heap.size W W') {a:Addr} (h:a.block<W.heap.size):W'.frozen? a=W.frozen? a:=by
 unfold World.frozen?;rw [hb.block _ h]
theorem v2t (hl:laidOutB P=true) {f:Func} {s:ChangeSpec} {apart fresh handsOn again:Bool} {W W':World} {args:Array Value} {ds gs:List (DataW H)} {before:List MemPlace} {tb:TypeId}
 (hts:∀ t∈f.params.toList,P.readableRec t=true/\t<P.types.size) (hv:s.vars=[]) (hrt:f.resultTypes=#[tb]) (htb:P.underlying tb=some .bool)
 (hfn:∀ ds gs:List (DataW H),DataW.TrodAll enc P W 0 (fun _=>true) true f.params.toList args.toList ds before->gs=[]->(s.fn H (ds++gs)).results=[.lit (.bool true)]/\(s.fn H (ds++gs)).args=ds/\(s.fn H (ds++gs)).vars=[])
 (hW:DataW.Whole enc P f.params.toList s.vars apart W args.toList ds gs before) (hb:Below W.heap.size W W'):s.post enc P f apart fresh handsOn again W args (.bool true) W':=by
 have hlt:∀ p∈before,p.block<W.heap.size:=fun p hp=>hW.lt p hp
 have hW':=hW;obtain ⟨p,q,hA,hV,rfl,hfz,hnd⟩:=hW;rw [hv] at hV;obtain ⟨rfl,rfl⟩:=trodVars_none hV;rw [List.append_nil] at hW' hlt hfz hnd hfn;obtain ⟨e1,e2,e3⟩:=hfn ds [] hA rfl
 have hres:∀(b:Nat) (sp:Nat->Bool) (hd:Bool),DataW.TrodAll enc P W' b sp hd f.resultTypes.toList ((Value.bool true).resultList f.resultTypes.size) (s.fn H (ds++[])).results []:=fun b sp hd=>by
  rw [e1,hrt];exact trodAll_cons_mk (shut_bool htb true) trodAll_mk0
 have hargs:∀ sp:Nat->Bool,(∀ x∈p,sp x.block=true)->DataW.TrodAll enc P W' 0 sp true f.params.toList args.toList (s.fn H (ds++[])).args p:=fun sp hsp=>by
  rw [e2];exact wz2 hl hb hts hA hlt hsp
 have hvars:∀ sp:Nat->Bool,DataW.TrodVars enc P W' sp s.vars (s.fn H (ds++[])).vars []:=fun sp=>by
  rw [e3,hv];exact rfl
 refine ⟨ds,[],p,[],p,[],hW',hres _ _ _,hargs _ (fun x hx=>by simpa using hlt x hx),hvars _,vko hb,fun _=>⟨?_,_,_,([]++p)++[],⟨[]++p,[],trodAll_append (hargs _ (fun _ _=>rfl)) (hres _ _ _),hvars _,rfl,?_,?_⟩,?_⟩⟩
 . exact ok_one hrt rfl (okWide_bool_mk htb true)
 . intro b off hp
   have hp':MemPlace.cell b off∈p:=by simpa using hp
   rw [v14 hb (hlt _ hp')];exact hfz b off hp'
 . intro ha;simpa using hnd ha
 . intro x hx _;simpa using hx
end Go.Slot
