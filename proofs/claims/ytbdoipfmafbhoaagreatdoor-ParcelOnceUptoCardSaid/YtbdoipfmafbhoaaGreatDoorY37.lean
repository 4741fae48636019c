/- The proof, part Y37: 7i, 7j, 7l, 7m. -/
import Derived.Test.YtbdoipfmafbhoaaGreatDoorY34
import Derived.Test.YtbdoipfmafbhoaaGreatDoorY35
import Derived.Test.YtbdoipfmafbhoaaGreatDoorY31
import Derived.Test.YtbdoipfmafbhoaaGreatDoorY30
namespace Go.Hp.T
open Go Go.RowKit Go.Slot Go.Hp Go.Slot.T
open Go.Proofs.Tryz (prog)
attribute [local irreducible] hide RH
set_option maxRecDepth 10000
set_option maxHeartbeats 8000000
variable {Γ:List (Nat×List Cell)}
end Go.Hp.T
namespace Go.Hp.T
open Go Go.RowKit Go.Slot Go.Hp Go.Slot.T
set_option maxRecDepth 10000
def z6h (l:List Stp):Nat->Mb
 | 0=>[]
 | i+1=>addT (z6h l i) i (ypc (l.getD i default))
theorem xvh (l:List Stp):∀ i,vaw l i (z6h l i)
 | 0=>.nil l
 | i+1=>(xvh l i).step
theorem zdo {C I:Ms} {N:Mn} {kind:ByteArray} {l:List Stp}:∀ n,n<=l.length->(∀ j,j<n->veh C I N (z6h l j) kind (l.getD j default)=0)->z9q C I N kind l 0 []=z9q C I N kind (l.drop n) n (z6h l n)
 | 0,_,_=>rfl
 | n+1,hn,h=>by
  rw [zdo n (by omega) (fun j hj=>h j (by omega)),xp9 hn,z9q,h n (by omega),decide_eq_false (by simp),cond_false];rfl
theorem xks {C I:Ms} {N:Mn} {kind:ByteArray} {l:List Stp} {H:Mb}:∀(n i:Nat),n=l.length-i->i<=l.length->z9q C I N kind (l.drop i) i (z6h l i)=.inr H->(∀ j,i<=j->j<l.length->veh C I N (z6h l j) kind (l.getD j default)=0)/\H=z6h l l.length
 | 0,i,hn,hi,h=>by
  have e:i=l.length:=by omega
  rw [List.drop_of_length_le (by omega),z9q] at h;exact ⟨fun j h1 h2=>by omega,by rw [<-e];exact (Sum.inr.inj h).symm⟩
 | n+1,i,hn,hi,h=>by
  have hl:i<l.length:=by omega
  rw [xp9 hl,z9q] at h;by_cases hw:veh C I N (z6h l i) kind (l.getD i default)=0
  . rw [hw,decide_eq_false (by simp),cond_false] at h;have ih:=xks n (i+1) (by omega) hl h;refine ⟨fun j h1 h2=>?_,ih.2⟩
    rcases Nat.eq_or_lt_of_le h1 with rfl | h1
    . exact hw
    . exact ih.1 j h1 h2
  . rw [decide_eq_true hw,cond_true] at h
    cases h
structure Acc (s:Sht) (r:Int) (x:Rcp):Prop where
 hR:y4x s=true
 h0:0<=r
 h1:r<s.recipes.length
 hw:∀ i,i<x.steps.length->veh (wzt s) (yz8 s) (vgd s) (z6h x.steps i) x.kind (x.steps.getD i default)=0
 hg:(gapR s x (z6h x.steps x.steps.length)).2=false
theorem xco {s:Sht} {r:Int} (h:(z4k s r).1=0):Acc s r (s.recipes.getD r.toNat default):=by
 unfold z4k at h
 cases hc:(!y4x s||(decide (r<0)||decide ((s.recipes.length:Int)<=r))) with
 | true=>rw [hc] at h;exact absurd h (show ¬(1:Int)=0 by decide)
 | false=>
  rw [hc,cond_false] at h;simp only [Bool.or_eq_false_iff,Bool.not_eq_false',decide_eq_false_iff_not] at hc;obtain ⟨hR,h0,h1⟩:=hc;generalize s.recipes.getD r.toNat default=x at *;have sp:=xcj (C:=wzt s) (I:=yz8 s) (N:=vgd s) (kind:=x.kind) (l:=x.steps) _ 0 [] rfl (Nat.zero_le _) (.nil _);rw [List.drop_zero] at sp
  cases hL:z9q (wzt s) (yz8 s) (vgd s) x.kind x.steps 0 [] with
  | inl k=>
   rw [hL] at sp h;dsimp only at sp h;obtain ⟨j,H,hj,hb,hw,rfl⟩:=sp;exact absurd h hw
  | inr H=>
   rw [hL] at h;dsimp only at h;have hi:=xks (l:=x.steps) _ 0 rfl (Nat.zero_le _) hL;obtain ⟨h2,rfl⟩:=hi;refine ⟨hR,by omega,by omega,fun i hi=>h2 i (Nat.zero_le _) hi,?_⟩;unfold endL at h
   cases hg:(gapR s x (z6h x.steps x.steps.length)).2 with
   | false=>rfl
   | true=>rw [hg] at h;exact absurd h (by simp)
theorem v0f {C I : Ms} {N : Mn} {H : Mb} {kind : ByteArray} {x : Stp} : veh C I N H kind x = 0 ↔ x.inn.any (noMk H) = false ∧ x.cells.any (noCl C) = false ∧ (!(seq x.name ⟨#[]⟩) && (!decide (x.kind = 7) && (ynd tgE N (x.kind, x.name)).isNone)) = false ∧ (decide (x.kind = 0) && !(seq (yyx I x.name) kind) || x.cells.any (badW C)) = false ∧ dupT H (ypc x) [] = false := by
 unfold veh
 cases x.inn.any (noMk H)
 . cases x.cells.any (noCl C)
   . cases (!(seq x.name ⟨#[]⟩)&&(!decide (x.kind=7)&&(ynd tgE N (x.kind,x.name)).isNone))
     . cases (decide (x.kind=0)&&!(seq (yyx I x.name) kind)||x.cells.any (badW C))
       . cases dupT H (ypc x) []<;>simp
       . simp
     . simp
   . simp
 . simp
theorem yrf {H:Mb}:∀{T:List Tg} {m:Mn},dupT H T m=false->∀ t∈T,(ynd tgE H t).isSome=false
 | [],_,_,t,ht=>by cases ht
 | y::T,m,h,t,ht=>by
  rw [dupT] at h
  cases h1:(ynd tgE H y).isSome||(ynd tgE m y).isSome with
  | true=>rw [h1] at h;cases h
  | false=>
   rw [h1,cond_false] at h
   rcases List.mem_cons.1 ht with rfl | ht
   . rw [Bool.or_eq_false_iff] at h1;exact h1.1
   . exact yrf h t ht
theorem zc0 {x:Stp} {p:ByteArray}:(0,p)∈ypc x↔p∈x.inn:=by
 rw [ysc];constructor
 . rintro (⟨s,hs,e⟩ | ⟨s,hs,e⟩ | ⟨hk,e⟩)
   . rw [(Prod.mk.inj e).2];exact hs
   . exact absurd (Prod.mk.inj e).1 (by decide)
   . have:=(Prod.mk.inj e).1;omega
 . exact fun h=>.inl ⟨p,h,rfl⟩
theorem wsp {x:Stp} {p:ByteArray}:(1,p)∈ypc x↔p∈x.out:=by
 rw [ysc];constructor
 . rintro (⟨s,hs,e⟩ | ⟨s,hs,e⟩ | ⟨hk,e⟩)
   . exact absurd (Prod.mk.inj e).1 (by decide)
   . rw [(Prod.mk.inj e).2];exact hs
   . have:=(Prod.mk.inj e).1;omega
 . exact fun h=>.inr (.inl ⟨p,h,rfl⟩)
theorem ygv {α:Type} {o:Option α} (h:¬o.isNone=true):∃ k,o=some k:=by
 cases o with
 | none=>exact absurd rfl h
 | some k=>exact ⟨k,rfl⟩
section
variable {s:Sht} {r:Int} {x:Rcp}
theorem Acc.made (h:Acc s r x) {i:Nat} (hi:i<x.steps.length) {p:ByteArray} (hp:p∈(x.steps.getD i default).inn):∃ j,j<i/\p∈(x.steps.getD j default).out:=by
 have h1:=(v0f.1 (h.hw i hi)).1;rw [List.any_eq_false] at h1;obtain ⟨k,hk⟩:=ygv (h1 p hp);obtain ⟨j,hj,_,ht⟩:=(xvh x.steps i).old _ _ hk;exact ⟨j,hj,wsp.1 ht⟩
theorem Acc.once (h:Acc s r x) {i j:Nat} (hij:i<j) (hj:j<x.steps.length) {t:Tg} (hi:t∈ypc (x.steps.getD i default)):¬t∈ypc (x.steps.getD j default):=fun ht=>by
 have h1:=yrf (v0f.1 (h.hw j hj)).2.2.2.2 t ht;rw [(xvh x.steps j).all i hij t hi] at h1
 cases h1
theorem Acc.one (h:Acc s r x) {i j:Nat} (hi:i<x.steps.length) (hj:j<x.steps.length) {t:Tg} (h1:t∈ypc (x.steps.getD i default)) (h2:t∈ypc (x.steps.getD j default)):i=j:=by
 rcases Nat.lt_trichotomy i j with hh | hh | hh
 . exact absurd h2 (h.once hh hj h1)
 . exact hh
 . exact absurd h1 (h.once hh hi h2)
theorem wr6 {H:Mb} {l:List Stp} (h:v6b H l=none) {i:Nat} (hi:i<l.length) {p:ByteArray} (hp:p∈(l.getD i default).out):¬(ynd tgE H (0,p)).isNone=true:=fun hn=>by
 unfold v6b at h;rw [List.find?_range_eq_none] at h
 have:=h i hi
 unfold zia at this;simp only [Bool.not_eq_true',List.any_eq_false] at this;exact this p hp hn
theorem Acc.used (h:Acc s r x) {i:Nat} (hi:i<x.steps.length) {p:ByteArray} (hp:p∈(x.steps.getD i default).out):∃ j,j<x.steps.length/\p∈(x.steps.getD j default).inn:=by
 have hg:=h.hg;unfold gapR at hg
 cases hu:v6b (z6h x.steps x.steps.length) x.steps with
 | some g=>rw [hu] at hg;cases hg
 | none=>
  obtain ⟨k,hk⟩:=ygv (wr6 hu hi hp);obtain ⟨j,hj,_,ht⟩:=(xvh x.steps x.steps.length).old _ _ hk;exact ⟨j,hj,zc0.1 ht⟩
end
section
variable {s:Sht} {r:Int} {k:Nat}
end
end Go.Hp.T
namespace Go.Hp.T
open Go Go.RowKit Go.Slot Go.Hp Go.Slot.T
open Go.Proofs.Tryz (prog)
attribute [local irreducible] hide RH
set_option maxRecDepth 10000
set_option maxHeartbeats 8000000
variable {Γ:List (Nat×List Cell)}
theorem ybv (s:Sht) (w:ByteArray) (hl:s.inputs.length<=1073741824):CallsD Γ prog 43 [.agg (shtC s),.one (cS w)] (.one (cI (idxF (fun x:Inp=>seq x.name w) s.inputs))):=by
 refine CallsD.run [] Go.Proofs.Tryz.func43 rfl rfl rfl ?_;simp only [Go.Proofs.Tryz.f43];refine hgR ?_
 repeat' ((first | refine hfk ?_ ?_<;>intros | refine hik ?_)<;>refine hgS ?_)
 refine wwt [1,2] (fun i:Nat=>[(5,.one (.dat (cI i)))]) (fun _=>[.box ((shtC s).map .dat) (some 31)]) (fun i=>i<=s.inputs.length/\∀ j,j<i->seq (s.inputs.getD j default).name w=false) (fun i=>s.inputs.length-i) 0 ⟨Nat.zero_le _,fun j hj=>by omega⟩ ?_ ?_
 . refine hg ?_;exact StH.same svl rfl
 rintro i ⟨hi,hj⟩;refine hg ?_;refine zcl (fun hlt _=>?_) (fun hlt _=>?_)
 . have hlt':i<s.inputs.length:=by omega
   cases hq:seq (s.inputs.getD i default).name w with
   | true=>
    refine hg1 @hq ?_
    repeat' ((first | refine hfk ?_ ?_<;>intros | refine hik ?_)<;>refine hgS ?_)
    exact RLe.ofEq (by rw [(we2 (p:=fun x:Inp=>seq x.name w) hi hj).2 hlt' hq])
   | false=>
    refine hg1 @hq ?_
    repeat' ((first | refine hfk ?_ ?_<;>intros | refine hik ?_)<;>refine hgS ?_)
    exact ⟨i+1,⟨by omega,zbh hj hq⟩,by omega,StH.same svl rfl⟩
 . have e:=(we2 (p:=fun x:Inp=>seq x.name w) hi hj).1 (by omega);clear hj;refine hg ?_
   repeat' ((first | refine hfk ?_ ?_<;>intros | refine hik ?_)<;>refine hgS ?_)
   exact RLe.ofEq (by rw [e])
theorem zp8 (s:Sht) (w:ByteArray) (hl:s.imports.length<=1073741824):CallsD Γ prog 44 [.agg (shtC s),.one (cS w)] (.one (cI (idxF (fun x:Imp=>seq x.name w) s.imports))):=by
 refine CallsD.run [] Go.Proofs.Tryz.func44 rfl rfl rfl ?_;simp only [Go.Proofs.Tryz.f44];refine hgR ?_
 repeat' ((first | refine hfk ?_ ?_<;>intros | refine hik ?_)<;>refine hgS ?_)
 refine wwt [1,2] (fun i:Nat=>[(5,.one (.dat (cI i)))]) (fun _=>[.box ((shtC s).map .dat) (some 31)]) (fun i=>i<=s.imports.length/\∀ j,j<i->seq (s.imports.getD j default).name w=false) (fun i=>s.imports.length-i) 0 ⟨Nat.zero_le _,fun j hj=>by omega⟩ ?_ ?_
 . refine hg ?_;exact StH.same svl rfl
 rintro i ⟨hi,hj⟩;refine hg ?_;refine zcl (fun hlt _=>?_) (fun hlt _=>?_)
 . have hlt':i<s.imports.length:=by omega
   cases hq:seq (s.imports.getD i default).name w with
   | true=>
    refine hg1 @hq ?_
    repeat' ((first | refine hfk ?_ ?_<;>intros | refine hik ?_)<;>refine hgS ?_)
    exact RLe.ofEq (by rw [(we2 (p:=fun x:Imp=>seq x.name w) hi hj).2 hlt' hq])
   | false=>
    refine hg1 @hq ?_
    repeat' ((first | refine hfk ?_ ?_<;>intros | refine hik ?_)<;>refine hgS ?_)
    exact ⟨i+1,⟨by omega,zbh hj hq⟩,by omega,StH.same svl rfl⟩
 . have e:=(we2 (p:=fun x:Imp=>seq x.name w) hi hj).1 (by omega);clear hj;refine hg ?_
   repeat' ((first | refine hfk ?_ ?_<;>intros | refine hik ?_)<;>refine hgS ?_)
   exact RLe.ofEq (by rw [e])
theorem xg2 (s:Sht) (w:ByteArray) (hl:s.stores.length<=1073741824):CallsD Γ prog 45 [.agg (shtC s),.one (cS w)] (.one (cI (idxF (fun x:Sto=>seq x.name w) s.stores))):=by
 refine CallsD.run [] Go.Proofs.Tryz.func45 rfl rfl rfl ?_;simp only [Go.Proofs.Tryz.f45];refine hgR ?_
 repeat' ((first | refine hfk ?_ ?_<;>intros | refine hik ?_)<;>refine hgS ?_)
 refine wwt [1,2] (fun i:Nat=>[(5,.one (.dat (cI i)))]) (fun _=>[.box ((shtC s).map .dat) (some 31)]) (fun i=>i<=s.stores.length/\∀ j,j<i->seq (s.stores.getD j default).name w=false) (fun i=>s.stores.length-i) 0 ⟨Nat.zero_le _,fun j hj=>by omega⟩ ?_ ?_
 . refine hg ?_;exact StH.same svl rfl
 rintro i ⟨hi,hj⟩;refine hg ?_;refine zcl (fun hlt _=>?_) (fun hlt _=>?_)
 . have hlt':i<s.stores.length:=by omega
   cases hq:seq (s.stores.getD i default).name w with
   | true=>
    refine hg1 @hq ?_
    repeat' ((first | refine hfk ?_ ?_<;>intros | refine hik ?_)<;>refine hgS ?_)
    exact RLe.ofEq (by rw [(we2 (p:=fun x:Sto=>seq x.name w) hi hj).2 hlt' hq])
   | false=>
    refine hg1 @hq ?_
    repeat' ((first | refine hfk ?_ ?_<;>intros | refine hik ?_)<;>refine hgS ?_)
    exact ⟨i+1,⟨by omega,zbh hj hq⟩,by omega,StH.same svl rfl⟩
 . have e:=(we2 (p:=fun x:Sto=>seq x.name w) hi hj).1 (by omega);clear hj;refine hg ?_
   repeat' ((first | refine hfk ?_ ?_<;>intros | refine hik ?_)<;>refine hgS ?_)
   exact RLe.ofEq (by rw [e])
theorem ydq (s:Sht) (w:ByteArray) (hl:s.ports.length<=1073741824):CallsD Γ prog 46 [.agg (shtC s),.one (cS w)] (.one (cI (idxF (fun x:Por=>seq x.name w) s.ports))):=by
 refine CallsD.run [] Go.Proofs.Tryz.func46 rfl rfl rfl ?_;simp only [Go.Proofs.Tryz.f46];refine hgR ?_
 repeat' ((first | refine hfk ?_ ?_<;>intros | refine hik ?_)<;>refine hgS ?_)
 refine wwt [1,2] (fun i:Nat=>[(5,.one (.dat (cI i)))]) (fun _=>[.box ((shtC s).map .dat) (some 31)]) (fun i=>i<=s.ports.length/\∀ j,j<i->seq (s.ports.getD j default).name w=false) (fun i=>s.ports.length-i) 0 ⟨Nat.zero_le _,fun j hj=>by omega⟩ ?_ ?_
 . refine hg ?_;exact StH.same svl rfl
 rintro i ⟨hi,hj⟩;refine hg ?_;refine zcl (fun hlt _=>?_) (fun hlt _=>?_)
 . have hlt':i<s.ports.length:=by omega
   cases hq:seq (s.ports.getD i default).name w with
   | true=>
    refine hg1 @hq ?_
    repeat' ((first | refine hfk ?_ ?_<;>intros | refine hik ?_)<;>refine hgS ?_)
    exact RLe.ofEq (by rw [(we2 (p:=fun x:Por=>seq x.name w) hi hj).2 hlt' hq])
   | false=>
    refine hg1 @hq ?_
    repeat' ((first | refine hfk ?_ ?_<;>intros | refine hik ?_)<;>refine hgS ?_)
    exact ⟨i+1,⟨by omega,zbh hj hq⟩,by omega,StH.same svl rfl⟩
 . have e:=(we2 (p:=fun x:Por=>seq x.name w) hi hj).1 (by omega);clear hj;refine hg ?_
   repeat' ((first | refine hfk ?_ ?_<;>intros | refine hik ?_)<;>refine hgS ?_)
   exact RLe.ofEq (by rw [e])
def xwf (l:List Stp) (k:Int) (w:ByteArray):Nat:=(l.filter fun y=>decide (y.kind=k)&&seq y.name w).length
theorem zpr (l:List Stp) (k:Int) (w:ByteArray) (hl:l.length<=1073741824):CallsD Γ prog 24 [.one (.sl 6 (l.map Stp.C)),.one (cI k),.one (cS w)] (.one (cI (xwf l k w))):=by
 unfold xwf;refine CallsD.run [] Go.Proofs.Tryz.func24 rfl rfl rfl ?_;simp only [Go.Proofs.Tryz.f24];refine hgR ?_
 repeat' ((first | refine hfk ?_ ?_<;>intros | refine hik ?_)<;>refine hgS ?_)
 refine wwt [0,1,2] (fun i:Nat=>[(7,.one (.dat (cI (((l.take i).filter fun y=>decide (y.kind=k)&&seq y.name w).length:Nat)))),(8,.one (.dat (cI i)))]) (fun _=>[]) (fun i=>i<=l.length) (fun i=>l.length-i) 0 (Nat.zero_le _) ?_ ?_
 . refine hg ?_;exact StH.same svl rfl
 intro i hi;have hb:((l.take i).filter fun y=>decide (y.kind=k)&&seq y.name w).length<=1073741824:=Nat.le_trans (List.length_filter_le _ _) (by simp;omega);refine hg ?_;refine zcl (fun hlt _=>?_) (fun hlt _=>?_)
 . have hlt':i<l.length:=by omega
   have hf:=wew (p:=fun y:Stp=>decide (y.kind=k)&&seq y.name w) hlt';generalize ((l.take i).filter fun y=>decide (y.kind=k)&&seq y.name w).length=c at *;by_cases hk:(l.getD i default).kind=k
   . cases hq:seq (l.getD i default).name w with
     | true=>
      rw [hq,decide_eq_true hk,Bool.and_true,cond_true] at hf;refine hg1 @hq ?_
      repeat' ((first | refine hfk ?_ ?_<;>intros | refine hik ?_)<;>refine hgS ?_)
      all_goals try (exfalso;omega)
      refine ⟨i+1,by omega,by omega,?_⟩;rw [hf];exact StH.same svl rfl
     | false=>
      rw [hq,Bool.and_false,cond_false,Nat.add_zero] at hf;refine hg1 @hq ?_
      repeat' ((first | refine hfk ?_ ?_<;>intros | refine hik ?_)<;>refine hgS ?_)
      all_goals try (exfalso;omega)
      refine ⟨i+1,by omega,by omega,?_⟩;rw [hf];exact StH.same svl rfl
   . rw [decide_eq_false hk,Bool.false_and,cond_false,Nat.add_zero] at hf;refine hg ?_
     repeat' ((first | refine hfk ?_ ?_<;>intros | refine hik ?_)<;>refine hgS ?_)
     all_goals try (exfalso;omega)
     refine ⟨i+1,by omega,by omega,?_⟩;rw [hf];exact StH.same svl rfl
 . rw [List.take_of_length_le (show l.length<=i by omega)] at hb ⊢;refine hg ?_
   repeat' ((first | refine hfk ?_ ?_<;>intros | refine hik ?_)<;>refine hgS ?_)
   exact RLe.ofEq rfl
def v8h (s:Sht) (w:ByteArray):Bool:=bif decide (0<=idxF (fun x:Cel=>seq x.name w) s.cells) then wdw (s.cells.getD (idxF (fun x:Cel=>seq x.name w) s.cells).toNat default).unit&&wsk (s.cells.getD (idxF (fun x:Cel=>seq x.name w) s.cells).toNat default).unit else false
theorem yzo (s:Sht) (w:ByteArray) (hs:s.Sm):CallsD Γ prog 47 [.agg (shtC s),.one (cS w)] (.one (cB (v8h s w))):=by
 have hl:=hs.cl;have hc:=hs.c;clear hs;generalize hR:v8h s w=R;refine CallsD.run [] Go.Proofs.Tryz.func47 rfl rfl rfl ?_;simp only [Go.Proofs.Tryz.f47];refine hgR ?_
 repeat' ((first | refine hfk ?_ ?_<;>intros | refine hik ?_)<;>refine hgS ?_)
 refine wwt [1,2] (fun i:Nat=>[(5,.one (.dat (cI i)))]) (fun _=>[.box ((shtC s).map .dat) (some 31)]) (fun i=>i<=s.cells.length/\∀ j,j<i->seq (s.cells.getD j default).name w=false) (fun i=>s.cells.length-i) 0 ⟨Nat.zero_le _,fun j hj=>by omega⟩ ?_ ?_
 . refine hg ?_;exact StH.same svl rfl
 rintro i ⟨hi,hj⟩;refine hg ?_;refine zcl (fun hlt _=>?_) (fun hlt _=>?_)
 . have hlt':i<s.cells.length:=by omega
   cases hq:seq (s.cells.getD i default).name w with
   | true=>
    have e:=(we2 (p:=fun x:Cel=>seq x.name w) hi hj).2 hlt' hq
    have eR:(wdw (s.cells.getD i default).unit&&wsk (s.cells.getD i default).unit)=R:=by
     rw [<-hR];unfold v8h;rw [e,decide_eq_true (by omega),cond_true];rfl
    have hu:=vwf (Γ:=Γ) (s.cells.getD i default).unit (hc _ (wax hlt')).2.1;unfold wdw wsk at eR;generalize vb5 (s.cells.getD i default).unit=u at *;clear e hR hj hc;subst eR;refine hg1 @hq ?_
    repeat' ((first | refine hfk ?_ ?_<;>intros | refine hik ?_ | with_reducible first | refine y5k (hu) ?_ | refine x4p (hu) ?_)<;>refine hgS ?_)
    all_goals refine lfE ?_;first | exact trivial | rfl
   | false=>
    clear hR hc;refine hg1 @hq ?_
    repeat' ((first | refine hfk ?_ ?_<;>intros | refine hik ?_)<;>refine hgS ?_)
    exact ⟨i+1,⟨by omega,zbh hj hq⟩,by omega,StH.same svl rfl⟩
 . have e:=(we2 (p:=fun x:Cel=>seq x.name w) hi hj).1 (by omega)
   have eR:false=R:=by
    rw [<-hR];unfold v8h;rw [e,decide_eq_false (by omega)];rfl
   subst eR;clear hj hR e hc;refine hg ?_
   repeat' ((first | refine hfk ?_ ?_<;>intros | refine hik ?_)<;>refine hgS ?_)
   exact RLe.ofEq rfl
def linI (l:List Stp) (i:Nat) (p:ByteArray):Bool:=decide ((zj0 l (i:Int) p l.length).1=1)&&(decide ((zj0 l (i:Int) p l.length).2=1)&&(decide ((zj0 l (l.length:Nat) p l.length).1=1)&&decide ((zj0 l 0 p l.length).2=1)))
def linO (l:List Stp) (p:ByteArray):Bool:=decide ((zj0 l (l.length:Nat) p l.length).1=1)&&decide ((zj0 l 0 p l.length).2=1)
def linS (l:List Stp) (i:Nat):Bool:=(l.getD i default).inn.all (linI l i)&&(l.getD i default).out.all (linO l)
def linM (l:List Stp):Bool:=(List.range l.length).all (linS l)
theorem x9c {l:List Stp} {i:Nat} (h:i<l.length) (hs:linS l i=false):linM l=false:=by
 unfold linM;rw [List.all_eq_false];exact ⟨i,List.mem_range.2 h,by rw [hs];decide⟩
theorem xtb {l:List Stp} (h:∀ i,i<l.length->linS l i=true):linM l=true:=by
 unfold linM;rw [List.all_eq_true]
 exact fun i hi=>h i (List.mem_range.1 hi)
theorem x8e (l:List Stp) (hl:l.length<=1073741824) (h:∀ y∈l,y.Sm):CallsD Γ prog 16 [.one (.sl 6 (l.map Stp.C))] (.one (cB (linM l))):=by
 refine CallsD.run [] Go.Proofs.Tryz.func16 rfl rfl rfl ?_;simp only [Go.Proofs.Tryz.f16];refine hgR ?_
 repeat' ((first | refine hfk ?_ ?_<;>intros | refine hik ?_)<;>refine hgS ?_)
 refine wwt [0] (fun i:Nat=>[(3,.one (.dat (cI i)))]) (fun _=>[]) (fun i=>i<=l.length/\∀ j,j<i->linS l j=true) (fun i=>l.length-i) 0 ⟨Nat.zero_le _,fun j hj=>by omega⟩ ?_ ?_
 . refine hg ?_;exact StH.same svl rfl
 rintro i ⟨hi,hj⟩;refine hg ?_;refine zcl (fun hlt _=>?_) (fun hlt _=>?_)
 . have hlt':i<l.length:=by omega
   have hy:=h _ (wax hlt');have hil:=hy.il;have hol:=hy.ol;have hbad:=x9c hlt'
   have hI:∀ k,k<(l.getD i default).inn.length->linI l i ((l.getD i default).inn.getD k default)=false->linM l=false:=fun k hk hf=>hbad (by unfold linS;rw [zo4 hk hf];rfl)
   have hO:∀ k,k<(l.getD i default).out.length->linO l ((l.getD i default).out.getD k default)=false->linM l=false:=fun k hk hf=>hbad (by unfold linS;rw [zo4 hk hf,Bool.and_false])
   clear hbad;refine hg ?_;refine wwt [0,3] (fun k:Nat=>[(4,.one (.dat (cI k)))]) (fun _=>[]) (fun k=>k<=(l.getD i default).inn.length/\∀ j,j<k->linI l i ((l.getD i default).inn.getD j default)=true) (fun k=>(l.getD i default).inn.length-k) 0 ⟨Nat.zero_le _,fun j hj=>by omega⟩ ?_ ?_
   . refine hg ?_;exact StH.same svl rfl
   rintro k ⟨hk,hkj⟩;refine hg ?_;refine zcl (fun hlt2 _=>?_) (fun hlt2 _=>?_)
   . have hlt2':k<(l.getD i default).inn.length:=by omega
     have c1:=x9v (Γ:=Γ) l (i:Int) ((l.getD i default).inn.getD k default) hl h;have c2:=x9v (Γ:=Γ) l (l.length:Nat) ((l.getD i default).inn.getD k default) hl h;have c3:=x9v (Γ:=Γ) l 0 ((l.getD i default).inn.getD k default) hl h;have hf:=hI k hlt2'
     have ht:∀ b,linI l i ((l.getD i default).inn.getD k default)=b->linI l i ((l.getD i default).inn.getD k default)=b:=fun _ e=>e
     unfold linI at hf;generalize hg1:zj0 l (i:Int) ((l.getD i default).inn.getD k default) l.length=m1 at *;generalize hg2:zj0 l (l.length:Nat) ((l.getD i default).inn.getD k default) l.length=m2 at *;generalize hg3:zj0 l 0 ((l.getD i default).inn.getD k default) l.length=m3 at *;obtain ⟨a1,b1⟩:=m1;obtain ⟨a2,b2⟩:=m2;obtain ⟨a3,b3⟩:=m3;dsimp only at c1 c2 c3 hf
     have hgood:a1=1->b1=1->a2=1->b3=1->linI l i ((l.getD i default).inn.getD k default)=true:=fun e1 e2 e3 e4=>by
      unfold linI;rw [hg1,hg2,hg3,e1,e2,e3,e4];rfl
     clear hI hO ht hg1 hg2 hg3;refine hg ?_
     repeat' ((first | refine hfk ?_ ?_<;>intros | refine hik ?_ | with_reducible first | refine y5k (c1) ?_ | refine x4p (c1) ?_ | refine y5k (c2) ?_ | refine x4p (c2) ?_ | refine y5k (c3) ?_ | refine x4p (c3) ?_)<;>refine hgS ?_)
     all_goals first
      | exact ⟨k+1,⟨by omega,zbh hkj (hgood (by omega) (by omega) (by omega) (by omega))⟩,by omega,StH.same svl rfl⟩
      | exact RLe.ofEq (by rw [hf (by simp only [Bool.and_eq_false_iff,decide_eq_false_iff_not];omega)])
   clear hI;have hin:(l.getD i default).inn.all (linI l i)=true:=xyf (fun j hjl=>hkj j (by omega));clear hkj;refine hg ?_;refine wwt [0,3] (fun k:Nat=>[(11,.one (.dat (cI k)))]) (fun _=>[]) (fun k=>k<=(l.getD i default).out.length/\∀ j,j<k->linO l ((l.getD i default).out.getD j default)=true) (fun k=>(l.getD i default).out.length-k) 0 ⟨Nat.zero_le _,fun j hj=>by omega⟩ ?_ ?_
   . refine hg ?_;exact StH.same svl rfl
   rintro k ⟨hk,hkj⟩;refine hg ?_;refine zcl (fun hlt2 _=>?_) (fun hlt2 _=>?_)
   . have hlt2':k<(l.getD i default).out.length:=by omega
     have c2:=x9v (Γ:=Γ) l (l.length:Nat) ((l.getD i default).out.getD k default) hl h;have c3:=x9v (Γ:=Γ) l 0 ((l.getD i default).out.getD k default) hl h;have hf:=hO k hlt2';unfold linO at hf;generalize hg2:zj0 l (l.length:Nat) ((l.getD i default).out.getD k default) l.length=m2 at *;generalize hg3:zj0 l 0 ((l.getD i default).out.getD k default) l.length=m3 at *;obtain ⟨a2,b2⟩:=m2;obtain ⟨a3,b3⟩:=m3;dsimp only at c2 c3 hf
     have hgood:a2=1->b3=1->linO l ((l.getD i default).out.getD k default)=true:=fun e3 e4=>by
      unfold linO;rw [hg2,hg3,e3,e4];rfl
     clear hO hg2 hg3 hin;refine hg ?_
     repeat' ((first | refine hfk ?_ ?_<;>intros | refine hik ?_ | with_reducible first | refine y5k (c2) ?_ | refine x4p (c2) ?_ | refine y5k (c3) ?_ | refine x4p (c3) ?_)<;>refine hgS ?_)
     all_goals first
      | exact ⟨k+1,⟨by omega,zbh hkj (hgood (by omega) (by omega))⟩,by omega,StH.same svl rfl⟩
      | exact RLe.ofEq (by rw [hf (by simp only [Bool.and_eq_false_iff,decide_eq_false_iff_not];omega)])
   have hout:(l.getD i default).out.all (linO l)=true:=xyf (fun j hjl=>hkj j (by omega));clear hkj hO
   have hS:linS l i=true:=by unfold linS;rw [hin,hout];rfl
   clear hin hout;refine hg ?_
   repeat' ((first | refine hfk ?_ ?_<;>intros | refine hik ?_)<;>refine hgS ?_)
   exact ⟨i+1,⟨by omega,zbh hj hS⟩,by omega,StH.same svl rfl⟩
 . have e:=xtb (l:=l) (fun j hjl=>hj j (by omega));clear hj h;refine hg ?_
   repeat' ((first | refine hfk ?_ ?_<;>intros | refine hik ?_)<;>refine hgS ?_)
   exact RLe.ofEq (by rw [e])
end Go.Hp.T
