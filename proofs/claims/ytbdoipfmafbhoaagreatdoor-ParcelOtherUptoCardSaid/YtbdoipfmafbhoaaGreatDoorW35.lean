/- The proof, part W35: 7c, 7d, 7g, Ja, Jb, Jd. -/
import Derived.Test.YtbdoipfmafbhoaaGreatDoorW34
import Derived.Test.YtbdoipfmafbhoaaGreatDoorW33
import Derived.Test.YtbdoipfmafbhoaaGreatDoorW7
import Derived.WalkKit
import Derived.ProofKit
import Derived.OpenShut
import Derived.JoinedCond
import Derived.ChangeBook
import Derived.ChangeStays
namespace Go.Hp.T
open Go Go.RowKit Go.Slot Go.Hp Go.Slot.T
open Go.Proofs.Tryz (prog)
attribute [local irreducible] hide RH
set_option maxRecDepth 10000
set_option maxHeartbeats 8000000
variable {Γ:List (Nat×List Cell)}
def cntS (l:List ByteArray) (s:ByteArray):Nat:=(l.filter fun t=>seq t s).length
theorem wew {α:Type} [Inhabited α] {p:α->Bool} {l:List α} {i:Nat} (h:i<l.length):((l.take (i+1)).filter p).length=((l.take i).filter p).length+bif p (l.getD i default) then 1 else 0:=by
 rw [List.take_succ_eq_append_getElem h,List.filter_append,List.length_append,List.getD_eq_getElem?_getD,List.getElem?_eq_getElem h];simp only [Option.getD_some]
 cases hp:p l[i]<;>simp [hp]
theorem ywy (l:List ByteArray) (s:ByteArray) (hl:l.length<=1073741824):CallsD Γ prog 48 [.one (xan l),.one (cS s)] (.one (cI (cntS l s))):=by
 refine CallsD.run [] Go.Proofs.Tryz.func48 rfl rfl rfl ?_;simp only [Go.Proofs.Tryz.f48];refine hgR ?_
 repeat' ((first | refine hfk ?_ ?_<;>intros | refine hik ?_)<;>refine hgS ?_)
 refine wwt [0,1] (fun i:Nat=>[(5,.one (.dat (cI (((l.take i).filter fun t=>seq t s).length:Nat)))),(6,.one (.dat (cI i)))]) (fun _=>[]) (fun i=>i<=l.length) (fun i=>l.length-i) 0 (Nat.zero_le _) ?_ ?_
 . refine hg ?_;exact StH.same svl rfl
 intro i hi;have hb:((l.take i).filter fun t=>seq t s).length<=1073741824:=Nat.le_trans (List.length_filter_le _ _) (by simp;omega);refine hg ?_;refine zcl (fun hlt _=>?_) (fun hlt _=>?_)
 . have hlt':i<l.length:=by omega
   have hf:=wew (p:=fun t=>seq t s) hlt';generalize ((l.take i).filter fun t=>seq t s).length=c at *
   cases hq:seq (l.getD i default) s
   . rw [hq,cond_false,Nat.add_zero] at hf;refine hg1 @hq ?_
     repeat' ((first | refine hfk ?_ ?_<;>intros | refine hik ?_)<;>refine hgS ?_)
     refine ⟨i+1,by omega,by omega,?_⟩;rw [hf];exact StH.same svl rfl
   . rw [hq,cond_true] at hf;refine hg1 @hq ?_
     repeat' ((first | refine hfk ?_ ?_<;>intros | refine hik ?_)<;>refine hgS ?_)
     refine ⟨i+1,by omega,by omega,?_⟩;rw [hf];exact StH.same svl rfl
 . rw [List.take_of_length_le (show l.length<=i by omega)] at hb ⊢;refine hg ?_
   repeat' ((first | refine hfk ?_ ?_<;>intros | refine hik ?_)<;>refine hgS ?_)
   exact RLe.ofEq rfl
def z9k (x:Stp):Bool:=x.inn.any (fun s=>decide (1<(cntS x.inn s:Int)))||x.out.any (fun s=>decide (1<(cntS x.out s:Int)))
def shM (a b:Stp):Bool:=b.inn.any (fun s=>decide (0<(cntS a.inn s:Int)))||(b.out.any (fun s=>decide (0<(cntS a.out s:Int)))||(decide (a.kind=b.kind)&&(seq a.name b.name&&!seq a.name ⟨#[]⟩)))
end Go.Hp.T
namespace Go.Hp.T
open Go Go.RowKit Go.Slot Go.Hp Go.Slot.T
set_option maxRecDepth 10000
theorem w7q {k:Int} {t:Tg}:∀{T:List Tg} {H:Mb},ynd tgE (addT H k T) t=bif T.any (tgE t) then some k else ynd tgE H t
 | [],_=>rfl
 | y::T,H=>by
  show ynd tgE (addT (updG tgE H y k) k T) t=_;rw [w7q,wc7 yj4 yyy wse,List.any_cons]
  cases T.any (tgE t)<;>cases tgE t y<;>rfl
theorem zd3 {t:Tg} {T:List Tg}:T.any (tgE t)=true↔t∈T:=by
 rw [List.any_eq_true];constructor
 . rintro ⟨y,hy,h⟩;rw [v5k.1 h];exact hy
 . exact fun h=>⟨t,h,yj4 t⟩
structure vaw (l:List Stp) (i:Nat) (H:Mb):Prop where
 old:∀ t k,ynd tgE H t=some k->∃ j:Nat,j<i/\k=(j:Int)/\t∈ypc (l.getD j default)
 all:∀ j,j<i->∀ t∈ypc (l.getD j default),(ynd tgE H t).isSome=true
theorem vaw.nil (l:List Stp):vaw l 0 []:=⟨fun t k h=>(by cases h),fun j h=>(by omega)⟩
theorem vaw.step {l:List Stp} {i:Nat} {H:Mb} (h:vaw l i H):vaw l (i+1) (addT H i (ypc (l.getD i default))) where
 old:=by
  intro t k hk;rw [w7q] at hk
  cases ha:(ypc (l.getD i default)).any (tgE t) with
  | true=>
   rw [ha,cond_true] at hk;exact ⟨i,by omega,(Option.some.inj hk).symm,zd3.1 ha⟩
  | false=>
   rw [ha,cond_false] at hk;obtain ⟨j,hj,hk,ht⟩:=h.old t k hk;exact ⟨j,by omega,hk,ht⟩
 all:=by
  intro j hj t ht;rw [w7q]
  cases ha:(ypc (l.getD i default)).any (tgE t) with
  | true=>rfl
  | false=>
   rw [cond_false]
   rcases Nat.lt_succ_iff_lt_or_eq.1 hj with hj | rfl
   . exact h.all j hj t ht
   . rw [zd3.2 ht] at ha;cases ha
theorem xcj {C I:Ms} {N:Mn} {kind:ByteArray} {l:List Stp}:∀(n i:Nat) (H:Mb),n=l.length-i->i<=l.length->vaw l i H->
 (match z9q C I N kind (l.drop i) i H with
 | .inl k=>∃ j H',j<l.length/\vaw l j H'/\¬veh C I N H' kind (l.getD j default)=0/\k=(veh C I N H' kind (l.getD j default),(j:Int),zet (veh C I N H' kind (l.getD j default)) j H' (l.getD j default))
 | .inr H'=>vaw l l.length H')
 | 0,i,H,hn,hi,hb=>by
  have e:i=l.length:=by omega
  rw [List.drop_of_length_le (by omega),z9q];exact e▸hb
 | n+1,i,H,hn,hi,hb=>by
  have hl:i<l.length:=by omega
  rw [xp9 hl,z9q];by_cases hw:veh C I N H kind (l.getD i default)=0
  . rw [hw,decide_eq_false (by simp),cond_false];exact xcj n (i+1) _ (by omega) hl hb.step
  . rw [decide_eq_true hw,cond_true];exact ⟨i,H,hl,hb,hw,rfl⟩
theorem ztw {t:Tg}:∀{T:List Tg} {m:Mb},(ynd tgE (cntM T m) t).getD 0=(ynd tgE m t).getD 0+((T.filter (tgE t)).length:Nat)
 | [],m=>by simp [cntM]
 | y::T,m=>by
  show (ynd tgE (cntM T (updG tgE m y ((ynd tgE m y).getD 0+1))) t).getD 0=_;rw [ztw,wc7 yj4 yyy wse,List.filter_cons]
  cases h:tgE t y with
  | true=>
   rw [v5k.1 h];simp;omega
  | false=>simp
theorem xqv {e a:Int} {H K:Mb} (h:¬e=5):∀{T:List Tg},yis e a H K T=[a]
 | []=>rfl
 | y::T=>by
  rw [yis]
  cases ynd tgE H y with
  | some k=>dsimp only;rw [decide_eq_false h,cond_false,xqv h];cases decide (1<(ynd tgE K y).getD 0)<;>rfl
  | none=>dsimp only;rw [xqv h];cases decide (1<(ynd tgE K y).getD 0)<;>rfl
theorem vd3 {a:Int} {H K:Mb}:∀{T:List Tg},(∃ k,∃ t∈T,ynd tgE H t=some k/\yis 5 a H K T=[k,a])\/(yis 5 a H K T=[a]/\((∃ t∈T,1<(ynd tgE K t).getD 0)\/∀ t∈T,ynd tgE H t=none/\¬1<(ynd tgE K t).getD 0))
 | []=>.inr ⟨rfl,.inr fun t ht=>by cases ht⟩
 | y::T=>by
  rw [yis]
  cases hk:ynd tgE H y with
  | some k=>exact .inl ⟨k,y,List.mem_cons_self,hk,rfl⟩
  | none=>
   dsimp only;by_cases hc:1<(ynd tgE K y).getD 0
   . rw [decide_eq_true hc];exact .inr ⟨rfl,.inl ⟨y,List.mem_cons_self,hc⟩⟩
   . rw [decide_eq_false hc,cond_false]
     rcases vd3 (a:=a) (H:=H) (K:=K) (T:=T) with ⟨k,t,ht,h1,h2⟩ | ⟨h1,⟨t,ht,h2⟩ | h2⟩
     . exact .inl ⟨k,t,List.mem_cons_of_mem _ ht,h1,h2⟩
     . exact .inr ⟨h1,.inl ⟨t,List.mem_cons_of_mem _ ht,h2⟩⟩
     . refine .inr ⟨h1,.inr fun t ht=>?_⟩
       rcases List.mem_cons.1 ht with rfl | ht
       . exact ⟨hk,hc⟩
       . exact h2 t ht
theorem x8c {H : Mb} : ∀ {T : List Tg} {m : Mn}, dupT H T m = true → (∃ t ∈ T, (ynd tgE H t).isSome = true) ∨ (∃ t ∈ T, (ynd tgE m t).isSome = true) ∨ ∃ t ∈ T, 1 < (T.filter (tgE t)).length
 | [],m,h=>by cases h
 | y::T,m,h=>by
  rw [dupT] at h
  cases h1:(ynd tgE H y).isSome with
  | true=>exact .inl ⟨y,List.mem_cons_self,h1⟩
  | false =>
   cases h2:(ynd tgE m y).isSome with
   | true=>exact .inr (.inl ⟨y,List.mem_cons_self,h2⟩)
   | false=>
    rw [h1,h2] at h
    rcases x8c (T:=T) h with ⟨t,ht,h3⟩ | ⟨t,ht,h3⟩ | ⟨t,ht,h3⟩
    . exact .inl ⟨t,List.mem_cons_of_mem _ ht,h3⟩
    . rw [wc7 yj4 yyy wse] at h3
      cases hy:tgE t y with
      | true=>
       refine .inr (.inr ⟨t,List.mem_cons_of_mem _ ht,?_⟩)
       have:0<(T.filter (tgE t)).length:=List.length_pos_of_mem (List.mem_filter.2 ⟨ht,yj4 t⟩)
       rw [List.filter_cons,if_pos hy,List.length_cons];omega
      | false=>
       rw [hy,cond_false] at h3;exact .inr (.inl ⟨t,List.mem_cons_of_mem _ ht,h3⟩)
    . refine .inr (.inr ⟨t,List.mem_cons_of_mem _ ht,?_⟩);rw [List.filter_cons]
      split
      . rw [List.length_cons];omega
      . exact h3
theorem xg3 {C I : Ms} {N : Mn} {H : Mb} {kind : ByteArray} {x : Stp} (h : ¬ veh C I N H kind x = 0) : veh C I N H kind x = 4 ∨ veh C I N H kind x = 13 ∨ (veh C I N H kind x = 5 ∧ dupT H (ypc x) [] = true) := by
 revert h;unfold veh
 cases x.inn.any (noMk H)
 . cases x.cells.any (noCl C)
   . cases (!(seq x.name ⟨#[]⟩)&&(!decide (x.kind=7)&&(ynd tgE N (x.kind,x.name)).isNone))
     . cases (decide (x.kind=0)&&!(seq (yyx I x.name) kind)||x.cells.any (badW C))
       . cases hd:dupT H (ypc x) []
         . exact fun h=>absurd rfl h
         . exact fun _=>.inr (.inr ⟨rfl,rfl⟩)
       . exact fun _=>.inr (.inl rfl)
     . exact fun _=>.inl rfl
   . exact fun _=>.inl rfl
 . exact fun _=>.inl rfl
theorem seqc (a b:ByteArray):seq a b=seq b a:=by rw [v75,v75,Bool.eq_iff_iff,decide_eq_true_iff,decide_eq_true_iff];exact eq_comm
theorem seqt {a b:ByteArray}:seq a b=true↔a=b:=by rw [v75,decide_eq_true_iff]
theorem v7o {a b:Int} {s:ByteArray}:∀{l:List ByteArray},((l.map fun x=>((b,x):Tg)).filter (tgE (a,s))).length=bif decide (a=b) then cntS l s else 0
 | []=>by cases decide (a=b)<;>rfl
 | y::l=>by
  rw [List.map_cons,List.filter_cons];have ih:=v7o (a:=a) (b:=b) (s:=s) (l:=l);unfold cntS at *;rw [List.filter_cons];show List.length (if (decide (a=b)&&seq s y)=true then _ else _)=_;rw [seqc s y]
  cases hab:decide (a=b) with
  | false=>rw [hab,cond_false] at ih;simpa using ih
  | true=>
   rw [hab,cond_true] at ih
   cases seq y s with
   | true=>simpa using ih
   | false=>simpa using ih
theorem z8r {l:List ByteArray} {s:ByteArray}:0<cntS l s↔s∈l:=by
 unfold cntS;rw [List.length_pos_iff_exists_mem];constructor
 . rintro ⟨y,h⟩;rw [List.mem_filter,seqt] at h;exact h.2▸h.1
 . exact fun h=>⟨s,List.mem_filter.2 ⟨h,seqt.2 rfl⟩⟩
theorem x40 {x:Stp} {t:Tg} (h:1<((ypc x).filter (tgE t)).length):z9k x=true:=by
 obtain ⟨a,s⟩:=t;unfold ypc at h;rw [List.filter_append,List.filter_append,List.length_append,List.length_append,v7o,v7o] at h
 have hz:∀ b:Bool,((bif b then [(2+x.kind,x.name)] else []:List Tg).filter (tgE (a,s))).length<=1:=by
  intro b
  cases b
  . simp
  . exact Nat.le_trans (List.length_filter_le _ _) (by simp)
 have hk:(decide (x.kind=0)||(decide (x.kind=1)||decide (x.kind=5)))=true->0<=x.kind:=by
  intro h;simp at h;omega
 have hz':a=0\/a=1->((bif decide (x.kind=0)||(decide (x.kind=1)||decide (x.kind=5)) then [(2+x.kind,x.name)] else []:List Tg).filter (tgE (a,s))).length=0:=by
  intro ha
  cases hb:(decide (x.kind=0)||(decide (x.kind=1)||decide (x.kind=5)))
  . rfl
  . have:=hk hb
    have hn:tgE (a,s) (2+x.kind,x.name)=false:=by
     show (decide (a=2+x.kind)&&_)=false;rw [decide_eq_false (by omega)];rfl
    simp [hn]
 unfold z9k;by_cases h0:a=0
 . subst h0;rw [hz' (.inl rfl),decide_eq_true rfl,decide_eq_false (by decide),cond_true,cond_false] at h;have hm:s∈x.inn:=z8r.1 (by omega);rw [List.any_eq_true.2 ⟨s,hm,decide_eq_true (by omega)⟩];rfl
 . by_cases h1:a=1
   . subst h1;rw [hz' (.inr rfl),decide_eq_true rfl,decide_eq_false (by decide),cond_true,cond_false] at h;have hm:s∈x.out:=z8r.1 (by omega);rw [List.any_eq_true.2 ⟨s,hm,decide_eq_true (by omega)⟩];exact Bool.or_true _
   . rw [decide_eq_false h0,decide_eq_false h1,cond_false,cond_false] at h
     have:=hz (decide (x.kind=0)||(decide (x.kind=1)||decide (x.kind=5)))
     omega
theorem ysc {t:Tg} {x:Stp}:t∈ypc x↔(∃ s∈x.inn,t=(0,s))\/(∃ s∈x.out,t=(1,s))\/((x.kind=0\/x.kind=1\/x.kind=5)/\t=(2+x.kind,x.name)):=by
 unfold ypc;rw [List.mem_append,List.mem_append,List.mem_map,List.mem_map,or_assoc];refine or_congr ?_ (or_congr ?_ ?_)
 . exact ⟨fun ⟨s,h,e⟩=>⟨s,h,e.symm⟩,fun ⟨s,h,e⟩=>⟨s,h,e.symm⟩⟩
 . exact ⟨fun ⟨s,h,e⟩=>⟨s,h,e.symm⟩,fun ⟨s,h,e⟩=>⟨s,h,e.symm⟩⟩
 . cases hb:(decide (x.kind=0)||(decide (x.kind=1)||decide (x.kind=5))) with
   | false=>simp at hb;simp [hb]
   | true=>
    simp only [Bool.or_eq_true,decide_eq_true_eq] at hb;simp [hb]
theorem wwp {x y:Stp} {t:Tg} (hx:t∈ypc x) (hy:t∈ypc y) (hn:(y.kind=0\/y.kind=1\/y.kind=5)->seq y.name ⟨#[]⟩=false):shM x y=true:=by
 unfold shM
 rcases ysc.1 hy with ⟨s,hs,rfl⟩ | ⟨s,hs,rfl⟩ | ⟨hk,rfl⟩
 . rcases ysc.1 hx with ⟨s',hs',e⟩ | ⟨s',hs',e⟩ | ⟨hk',e⟩
   . obtain rfl:s=s':=(Prod.mk.inj e).2
     have:=z8r.2 hs'
     rw [List.any_eq_true.2 ⟨s,hs,decide_eq_true (by omega)⟩];rfl
   . exact absurd (Prod.mk.inj e).1 (by decide)
   . have:=(Prod.mk.inj e).1;omega
 . rcases ysc.1 hx with ⟨s',hs',e⟩ | ⟨s',hs',e⟩ | ⟨hk',e⟩
   . exact absurd (Prod.mk.inj e).1 (by decide)
   . obtain rfl:s=s':=(Prod.mk.inj e).2
     have:=z8r.2 hs'
     have e:y.out.any (fun s=>decide (0<(cntS x.out s:Int)))=true:=List.any_eq_true.2 ⟨s,hs,decide_eq_true (by omega)⟩;rw [e];simp
   . have:=(Prod.mk.inj e).1;omega
 . rcases ysc.1 hx with ⟨s',hs',e⟩ | ⟨s',hs',e⟩ | ⟨hk',e⟩
   . have:=(Prod.mk.inj e).1;omega
   . have:=(Prod.mk.inj e).1;omega
   . have e1:=(Prod.mk.inj e).1;have e2:=(Prod.mk.inj e).2;have h1:=hn hk;rw [e2] at h1 ⊢;rw [decide_eq_true (show x.kind=y.kind by omega),seqt.2 rfl,h1];simp
theorem zmk {α:Type} {U:α->Us}:∀{l:List α} {c:Sc},(w0x U l c).1=true->c.1=true/\∀ x∈l,(U x).2.1=true/\(U x).2.2=true/\vvl (U x).1=true
 | [],_,h=>⟨h,fun x hx=>by cases hx⟩
 | y::l,c,h=>by
  have ih:=zmk (l:=l) (c:=useM c (U y)) h;have h1:=ih.1;unfold useM at h1;simp only [Bool.and_eq_true] at h1;refine ⟨h1.1,fun x hx=>?_⟩
  rcases List.mem_cons.1 hx with rfl | hx
  . exact ⟨h1.2.1,h1.2.2.1,h1.2.2.2.1⟩
  . exact ih.2 x hx
theorem vd5 {s:Sht} (h:y4x s=true) {x:Rcp} (hx:x∈s.recipes) {y:Stp} (hy:y∈x.steps):vyc y=true:=by
 unfold y4x at h;simp only [Bool.and_eq_true] at h
 have:=((zmk h.2).2 x hx).2.1
 unfold rcpU at this;simp only [Bool.and_eq_true,Bool.not_eq_true',List.any_eq_false] at this;simpa using this.2 y hy
theorem y4u {s:ByteArray} (h:vvl s=true):seq s ⟨#[]⟩=false:=by
 cases hs:seq s ⟨#[]⟩ with
 | false=>rfl
 | true=>
  rw [seqt.1 hs] at h;exact absurd h (by decide +kernel)
theorem zyy {y:Stp} (h:vyc y=true) (hk:y.kind=0\/y.kind=1\/y.kind=5):seq y.name ⟨#[]⟩=false:=by
 unfold vyc zcx at h;simp only [Bool.and_eq_true] at h;have h1:=h.2.1.2
 have hn:(z6w y.kind).n=true:=by rcases hk with e | e | e<;>rw [e]<;>rfl
 rw [hn,cond_true] at h1;exact y4u h1
inductive LookSpec (s:Sht) (r:Int):Lk->Prop
 | fine (e:Int) (he:e=0\/e=1):LookSpec s r (e,0,[])
 | gap (hr:0<=r) (hr':r<s.recipes.length):LookSpec s r (21,((s.recipes.getD r.toNat default).steps.length:Nat),[])
 | lost (hr:0<=r) (hr':r<s.recipes.length) (g:Nat) (hg:g<(s.recipes.getD r.toNat default).steps.length) (p:ByteArray) (hp:p∈((s.recipes.getD r.toNat default).steps.getD g default).out) (h:∀ j,j<(s.recipes.getD r.toNat default).steps.length->cntS ((s.recipes.getD r.toNat default).steps.getD j default).inn p=0):LookSpec s r (21,((s.recipes.getD r.toNat default).steps.length:Nat),[(g:Int)])
 | bad (hr:0<=r) (hr':r<s.recipes.length) (i:Nat) (hi:i<(s.recipes.getD r.toNat default).steps.length) (e:Int) (he:e=4\/e=13):LookSpec s r (e,(i:Int),[(i:Int)])
 | doub (hr:0<=r) (hr':r<s.recipes.length) (i:Nat) (hi:i<(s.recipes.getD r.toNat default).steps.length) (h:z9k ((s.recipes.getD r.toNat default).steps.getD i default)=true):LookSpec s r (5,(i:Int),[(i:Int)])
 | sh (hr:0<=r) (hr':r<s.recipes.length) (i k:Nat) (hi:i<(s.recipes.getD r.toNat default).steps.length) (hk:k<i) (h:shM ((s.recipes.getD r.toNat default).steps.getD k default) ((s.recipes.getD r.toNat default).steps.getD i default)=true):LookSpec s r (5,(i:Int),[(k:Int),(i:Int)])
theorem xmt (s:Sht) (r:Int):LookSpec s r (z4k s r):=by
 unfold z4k
 cases hc:(!y4x s||(decide (r<0)||decide ((s.recipes.length:Int)<=r))) with
 | true=>exact .fine 1 (.inr rfl)
 | false=>
  rw [cond_false];simp only [Bool.or_eq_false_iff,Bool.not_eq_false',decide_eq_false_iff_not] at hc;obtain ⟨hR,h0,h1⟩:=hc
  have hr:0<=r:=by omega
  have hr':r<s.recipes.length:=by omega
  have hst:∀ y∈(s.recipes.getD r.toNat default).steps,vyc y=true:=fun y hy=>vd5 hR (wax (by omega)) hy
  have sp:=xcj (C:=wzt s) (I:=yz8 s) (N:=vgd s) (kind:=(s.recipes.getD r.toNat default).kind) (l:=(s.recipes.getD r.toNat default).steps) _ 0 [] rfl (Nat.zero_le _) (.nil _);rw [List.drop_zero] at sp
  cases hL:z9q (wzt s) (yz8 s) (vgd s) (s.recipes.getD r.toNat default).kind (s.recipes.getD r.toNat default).steps 0 [] with
  | inl k=>
   rw [hL] at sp;dsimp only at sp ⊢;obtain ⟨j,H,hj,hb,hw,rfl⟩:=sp
   rcases xg3 hw with e | e | ⟨e,hd⟩
   . rw [e];unfold zet;rw [xqv (by decide)];exact .bad hr hr' j hj 4 (.inl rfl)
   . rw [e];unfold zet;rw [xqv (by decide)];exact .bad hr hr' j hj 13 (.inr rfl)
   . rw [e];unfold zet
     rcases vd3 (a:=(j:Int)) (H:=H) (K:=cntM (ypc ((s.recipes.getD r.toNat default).steps.getD j default)) []) (T:=ypc ((s.recipes.getD r.toNat default).steps.getD j default)) with ⟨k,t,ht,h2,h3⟩ | ⟨h3,h4⟩
     . rw [h3];obtain ⟨i,hi,rfl,hti⟩:=hb.old t k h2;exact .sh hr hr' j i hj hi (wwp hti ht (zyy (hst _ (wax hj))))
     . rw [h3];refine .doub hr hr' j hj ?_
       rcases h4 with ⟨t,ht,h5⟩ | h5
       . rw [ztw] at h5;exact x40 (t:=t) (by simp only [ynd,Option.getD_none] at h5;omega)
       . rcases x8c hd with ⟨t,ht,h6⟩ | ⟨t,ht,h6⟩ | ⟨t,ht,h6⟩
         . rw [(h5 t ht).1] at h6;cases h6
         . cases h6
         . exact x40 h6
  | inr H=>
   rw [hL] at sp;dsimp only at sp ⊢;unfold endL
   cases hg:(gapR s (s.recipes.getD r.toNat default) H).2 with
   | false=>exact .fine 0 (.inl rfl)
   | true=>
    rw [cond_true];by_cases hm:(gapR s (s.recipes.getD r.toNat default) H).1 = -1
    . rw [hm];exact .gap hr hr'
    . rw [decide_eq_true hm,cond_true];unfold gapR at hm ⊢
      cases hu:v6b H (s.recipes.getD r.toNat default).steps with
      | none=>rw [hu] at hm;exact absurd rfl hm
      | some g=>
       dsimp only;unfold v6b at hu;rw [List.find?_range_eq_some] at hu
       have hgl:g<(s.recipes.getD r.toNat default).steps.length:=by simpa using hu.2.1
       have h3:=hu.1;unfold zia at h3;obtain ⟨p,hp,h4⟩:=List.any_eq_true.1 h3
       refine .lost hr hr' g hgl p hp fun j hj=>?_
       by_cases hz:cntS ((s.recipes.getD r.toNat default).steps.getD j default).inn p=0
       . exact hz
       . have hm:=z8r.1 (Nat.pos_of_ne_zero hz)
         have:=sp.all j hj (0,p) (ysc.2 (.inl ⟨p,hm,rfl⟩))
         unfold w3k at h4
         cases hq:ynd tgE H (0,p) with
         | none=>rw [hq] at this;cases this
         | some _=>rw [hq] at h4;cases h4
end Go.Hp.T
namespace Go.Slot
open Go Go.RowKit Go.ChangeShapes
variable {P:Program} {H:Type} {enc:TypeId×Value->H} {w:World} {spare:Nat->Bool} {held:Bool}
structure Bulk (bk:DataW H->Nat):Prop where
 str:∀ b,b.length<=bk (.lit (.string b))
 elems:∀ l r,l.length<=bk (.slice l r)
 elem:∀ l r d,d∈l->bk d<=bk (.slice l r)
 part:∀ l d,d∈l->bk d<=bk (.agg l)
theorem RdD.app0 {M:Nat->Nat->Prop} {w:World}:∀{vs us:List Value} {cs ds:List Cell},RdD M w vs cs->RdD M w us ds->RdD M w (vs++us) (cs++ds)
 | [],_,[],_,_,h=>h
 | _::_,_,_::_,_,h,h'=>⟨h.1,RdD.app0 h.2 h'⟩
theorem cellAt {a:Addr} {v:Value} (h:w.cell? a=some v):a.spot=none:=by
 unfold World.cell? at h;split at h
 . split at h
   . cases h
   . rename_i hs;simpa using hs
 . cases h
theorem addrAt {a:Addr} (h:a.spot=none) (n:Nat):a.add n=⟨a.block,a.off+n,none⟩:=by
 unfold Addr.add
 split
 . rename_i e;subst e;cases a;simp at h;subst h;rfl
 . rfl
section
variable {bk:DataW H->Nat} {N:Nat}
end
end Go.Slot
namespace Go.Slot
open Go Go.RowKit Go.ChangeShapes Go.WideShapes
variable {P:Program} {H:Type} {enc:TypeId×Value->H}
def M0:Nat->Nat->Prop:=fun _ _=>False
section
variable {w:World} {spare:Nat->Bool} {held:Bool} {bk:DataW H->Nat} {N:Nat} {r:Reach} {b0:Nat}
end
theorem y75 (hl:laidOutB P=true) {W W':World} (hb:Below W.heap.size W W') {sp:Nat->Bool}:∀{ts:List TypeId} {vs:List Value} {ds:List (DataW H)} {ps:List MemPlace},(∀ t∈ts,P.readableRec t=true/\t<P.types.size)->
 DataW.TrodAll enc P W 0 (fun _=>true) true ts vs ds ps->(∀ p∈ps,p.block<W.heap.size)->(∀ p∈ps,sp p.block=true)->DataW.TrodAll enc P W' 0 sp true ts vs ds ps
 | [],vs,ds,ps,_,h,_,_=>by
  obtain ⟨rfl,rfl,rfl⟩:=trodAll_nil h;exact trodAll_mk0
 | t::ts,vs,ds,ps,hts,h,hlt,hsp=>by
  obtain ⟨v,vs',d,ds',p,q,rfl,rfl,rfl,⟨fuel,h1⟩,h2⟩:=trodAll_cons h;have ht:=hts t (by simp)
  exact ⟨p,q,⟨fuel,DataW.trod_stays (kids_book hl ht.1) (book_sized ht.1) (fun h=>by cases h) ⟨ht.2,book_self t⟩ h1 (fun x hx=>hb.same (hlt x (by simp [hx]))) (fun x hx=>hsp x (by simp [hx]))⟩,
   y75 hl hb (fun u hu=>hts u (by simp [hu])) h2 (fun x hx=>hlt x (by simp [hx])) (fun x hx=>hsp x (by simp [hx])),rfl⟩
theorem yq3 {W W':World} {may:MemPlace->Prop} (hb:Below W.heap.size W W'):W.keptBut W' may:=by
 refine ⟨hb.os,hb.output,fun i hi=>?_⟩;rw [hb.block i hi]
 split
 . rename_i h1 h2;rw [h1] at h2;cases h2;exact ⟨rfl,rfl,rfl,fun _ _=>rfl⟩
 . rename_i h1 h2;rw [h1] at h2;cases h2;exact .inr ⟨rfl,rfl⟩
 . rfl
theorem y39 {W W':World} (hb:Below W.heap.size W W') {a:Addr} (h:a.block<W.heap.size):W'.frozen? a=W.frozen? a:=by
 unfold World.frozen?;rw [hb.block _ h]
theorem w8s (hl:laidOutB P=true) {f:Func} {s:ChangeSpec} {apart fresh handsOn again:Bool} {W W':World} {args:Array Value} {ds gs:List (DataW H)} {before:List MemPlace} {tb:TypeId}
 (hts:∀ t∈f.params.toList,P.readableRec t=true/\t<P.types.size) (hv:s.vars=[]) (hrt:f.resultTypes=#[tb]) (htb:P.underlying tb=some .bool)
 (hfn:∀ ds gs:List (DataW H),DataW.TrodAll enc P W 0 (fun _=>true) true f.params.toList args.toList ds before->gs=[]->(s.fn H (ds++gs)).results=[.lit (.bool true)]/\(s.fn H (ds++gs)).args=ds/\(s.fn H (ds++gs)).vars=[])
 (hW:DataW.Whole enc P f.params.toList s.vars apart W args.toList ds gs before) (hb:Below W.heap.size W W'):s.post enc P f apart fresh handsOn again W args (.bool true) W':=by
 have hlt:∀ p∈before,p.block<W.heap.size:=fun p hp=>hW.lt p hp
 have hW':=hW;obtain ⟨p,q,hA,hV,rfl,hfz,hnd⟩:=hW;rw [hv] at hV;obtain ⟨rfl,rfl⟩:=trodVars_none hV;rw [List.append_nil] at hW' hlt hfz hnd hfn;obtain ⟨e1,e2,e3⟩:=hfn ds [] hA rfl
 have hres:∀(b:Nat) (sp:Nat->Bool) (hd:Bool),DataW.TrodAll enc P W' b sp hd f.resultTypes.toList ((Value.bool true).resultList f.resultTypes.size) (s.fn H (ds++[])).results []:=fun b sp hd=>by
  rw [e1,hrt];exact trodAll_cons_mk (shut_bool htb true) trodAll_mk0
 have hargs:∀ sp:Nat->Bool,(∀ x∈p,sp x.block=true)->DataW.TrodAll enc P W' 0 sp true f.params.toList args.toList (s.fn H (ds++[])).args p:=fun sp hsp=>by
  rw [e2];exact y75 hl hb hts hA hlt hsp
 have hvars:∀ sp:Nat->Bool,DataW.TrodVars enc P W' sp s.vars (s.fn H (ds++[])).vars []:=fun sp=>by
  rw [e3,hv];exact rfl
 refine ⟨ds,[],p,[],p,[],hW',hres _ _ _,hargs _ (fun x hx=>by simpa using hlt x hx),hvars _,yq3 hb,fun _=>⟨?_,_,_,([]++p)++[],⟨[]++p,[],trodAll_append (hargs _ (fun _ _=>rfl)) (hres _ _ _),hvars _,rfl,?_,?_⟩,?_⟩⟩
 . exact ok_one hrt rfl (okWide_bool_mk htb true)
 . intro b off hp
   have hp':MemPlace.cell b off∈p:=by simpa using hp
   rw [y39 hb (hlt _ hp')];exact hfz b off hp'
 . intro ha;simpa using hnd ha
 . intro x hx _;simpa using hx
end Go.Slot
namespace Go.Slot
open Go Go.RowKit Go.ChangeShapes
def vu1 (P:Program):Nat->List Field->Bool
 | _,[]=>true
 | off,f::r=>f.offset==off&&vu1 P (off+P.cellsOf f.type) r
def wa7 (P:Program):List Field->Nat
 | []=>0
 | f::r=>P.cellsOf f.type+wa7 P r
def wwn (P:Program) (L:List TypeId):Bool:=L.all fun t=>match P.underlying t with
 | some .bool=>true
 | some (.int _)=>true
 | some .string=>true
 | some (.slice e)=>L.contains e&&(P.cellsOf e != 0)&&(match P.underlying e with | some (.int _)=>P.cellsOf e==1 | _=>true)
 | some (.array n e)=>L.contains e&&(P.cellsOf t==n*P.cellsOf e)
 | some (.struct fs)=>(fs.toList.all fun f=>L.contains f.type)&&vu1 P 0 fs.toList&&(P.cellsOf t==wa7 P fs.toList)
 | _=>false
inductive FitT (P:Program) (N:Nat):TypeId->List Cell->Prop
 | int {t:TypeId} {k:IntKind} {n:Int} (ht:P.underlying t=some (.int k)) (h:k.min<=n/\n<=k.max):FitT P N t [.raw (.int k n)]
 | bool {t:TypeId} {b:Bool} (ht:P.underlying t=some .bool):FitT P N t [.raw (.bool b)]
 | str {t:TypeId} {s:ByteArray} (ht:P.underlying t=some .string) (h:s.size<=N):FitT P N t [.raw (.string s)]
 | ints {t e:TypeId} {k:IntKind} {l:List Int} (ht:P.underlying t=some (.slice e)) (he:P.underlying e=some (.int k)) (hl:l.length<=N) (h:∀ x∈l,k.min<=x/\x<=k.max):FitT P N t [.ints k l]
 | sl {t e:TypeId} {rows:List (List Cell)} (ht:P.underlying t=some (.slice e)) (he:∀ k,P.underlying e≠some (.int k)) (hl:rows.length<=N) (h:∀ r∈rows,FitT P N e r):FitT P N t [.sl (P.cellsOf e) rows]
 | struct {t:TypeId} {fs:Array Field} {rows:List (List Cell)} (ht:P.underlying t=some (.struct fs)) (hl:rows.length=fs.size) (h:∀(i:Nat) (f:Field) (r:List Cell),fs.toList[i]? = some f->rows[i]? = some r->FitT P N f.type r):FitT P N t rows.flatten
 | array {t e:TypeId} {n:Nat} {rows:List (List Cell)} (ht:P.underlying t=some (.array n e)) (hl:rows.length=n) (h:∀ r∈rows,FitT P N e r):FitT P N t rows.flatten
section
variable {P:Program} {N:Nat} {t:TypeId} {cs:List Cell}
theorem FitT.xf8 (h:FitT P N t cs) {k:IntKind} (ht:P.underlying t=some (.int k)):∃ n,cs=[.raw (.int k n)]/\k.min<=n/\n<=k.max:=by
 cases h with
 | int h1 h2=>rw [ht] at h1;cases h1;exact ⟨_,rfl,h2⟩
 | bool h1=>rw [ht] at h1;cases h1
 | str h1=>rw [ht] at h1;cases h1
 | ints h1=>rw [ht] at h1;cases h1
 | sl h1=>rw [ht] at h1;cases h1
 | struct h1=>rw [ht] at h1;cases h1
 | array h1=>rw [ht] at h1;cases h1
theorem FitT.zle (h:FitT P N t cs) (ht:P.underlying t=some .string):∃ s,cs=[.raw (.string s)]/\s.size<=N:=by
 cases h with
 | int h1 h2=>rw [ht] at h1;cases h1
 | bool h1=>rw [ht] at h1;cases h1
 | str h1 h2=>exact ⟨_,rfl,h2⟩
 | ints h1=>rw [ht] at h1;cases h1
 | sl h1=>rw [ht] at h1;cases h1
 | struct h1=>rw [ht] at h1;cases h1
 | array h1=>rw [ht] at h1;cases h1
theorem FitT.v01 (h:FitT P N t cs) {e:TypeId} (ht:P.underlying t=some (.slice e)) (he:∀ k,P.underlying e≠some (.int k)):∃ rows,cs=[.sl (P.cellsOf e) rows]/\rows.length<=N/\∀ r∈rows,FitT P N e r:=by
 cases h with
 | int h1 h2=>rw [ht] at h1;cases h1
 | bool h1=>rw [ht] at h1;cases h1
 | str h1 h2=>rw [ht] at h1;cases h1
 | ints h1 h2 h3 h4=>rw [ht] at h1;cases h1;exact absurd h2 (he _)
 | sl h1 h2 h3 h4=>rw [ht] at h1;cases h1;exact ⟨_,rfl,h3,h4⟩
 | struct h1=>rw [ht] at h1;cases h1
 | array h1=>rw [ht] at h1;cases h1
theorem FitT.yce (h:FitT P N t cs) {fs:Array Field} (ht:P.underlying t=some (.struct fs)):∃ rows:List (List Cell),cs=rows.flatten/\rows.length=fs.size/\
 ∀(i:Nat) (f:Field) (r:List Cell),fs.toList[i]? = some f->rows[i]? = some r->FitT P N f.type r:=by
 cases h with
 | int h1 h2=>rw [ht] at h1;cases h1
 | bool h1=>rw [ht] at h1;cases h1
 | str h1 h2=>rw [ht] at h1;cases h1
 | ints h1 h2 h3 h4=>rw [ht] at h1;cases h1
 | sl h1 h2 h3 h4=>rw [ht] at h1;cases h1
 | struct h1 h2 h3=>rw [ht] at h1;cases h1;exact ⟨_,rfl,h2,h3⟩
 | array h1=>rw [ht] at h1;cases h1
end
variable {P:Program} {H:Type} {enc:TypeId×Value->H} {w:World} {spare:Nat->Bool} {held:Bool} {bk:DataW H->Nat} {N:Nat}
theorem RdD.whb {M:Nat->Nat->Prop}:∀{vs:List Value} {cs:List Cell},RdD M w vs cs->∀ j (hj:j<cs.length),RdC M w (vs.getD j Go.undef) cs[j]
 | [],[],_,j,hj=>by simp at hj
 | _::_,[],h,_,_=>h.elim
 | [],_::_,h,_,_=>h.elim
 | _::_,_::_,h,0,_=>h.1
 | _::vs,_::cs,h,j+1,hj=>by simpa using RdD.whb (vs:=vs) (cs:=cs) h.2 j (by simpa using hj)
theorem xnu {L:List TypeId} {fuel:Nat} (hrec:∀(t:TypeId),t∈L->∀(cs:List Value) (x:DataW H×List MemPlace),DataW.trod enc P w 0 spare held fuel t cs=some x->bk x.1<=N->
 ∃ cells,RdD (fun _ _=>False) w cs cells/\FitT P N t cells) :
 ∀(fs:List Field) (off:Nat) (cs:List Value) (xs:List (DataW H×List MemPlace)),vu1 P off fs=true->(∀ f∈fs,f.type∈L)->cs.length=off+wa7 P fs->xs.length=fs.length->
  (∀(i:Nat) (f:Field),fs[i]? = some f->DataW.trod enc P w 0 spare held fuel f.type ((cs.drop f.offset).take (P.cellsOf f.type))=xs[i]?)->(∀ x∈xs,bk x.1<=N)->
  ∃ rows:List (List Cell),RdD (fun _ _=>False) w (cs.drop off) rows.flatten/\rows.length=fs.length/\∀(i:Nat) (f:Field) (r:List Cell),fs[i]? = some f->rows[i]? = some r->FitT P N f.type r
 | [],off,cs,xs,_,_,hlen,_,_,_=>by
  refine ⟨[],?_,rfl,fun i f r hf=>by simp at hf⟩;rw [List.drop_eq_nil_of_le (by simp [wa7] at hlen;omega)];exact trivial
 | f::fs,off,cs,xs,ht,hL,hlen,hxs,hx,hb=>by
  simp only [vu1,Bool.and_eq_true,beq_iff_eq] at ht;obtain ⟨hoff,ht⟩:=ht;simp only [wa7] at hlen
  cases xs with
  | nil=>simp at hxs
  | cons x xs=>
   have h0:=hx 0 f rfl;simp only [List.getElem?_cons_zero] at h0;obtain ⟨c0,r0,f0⟩:=hrec f.type (hL f (by simp)) _ x h0 (hb x (by simp))
   obtain ⟨rows,r1,f1,f2⟩:=xnu hrec fs (off+P.cellsOf f.type) cs xs ht (fun g hg=>hL g (by simp [hg])) (by omega) (by simpa using hxs) (fun i f' hf=>by
    have:=hx (i+1) f' (by simpa using hf)
    simpa using this) (fun y hy=>hb y (by simp [hy]))
   refine ⟨c0::rows,?_,by simp [f1],fun i f' r hf hr=>?_⟩
   . have:cs.drop off=(cs.drop f.offset).take (P.cellsOf f.type)++cs.drop (off+P.cellsOf f.type):=by
      rw [hoff,<-List.drop_drop,List.take_append_drop]
     rw [this,List.flatten_cons];exact r0.app0 r1
   . cases i with
     | zero=>simp at hf hr;subst hf hr;exact f0
     | succ i=>exact f2 i f' r (by simpa using hf) (by simpa using hr)
theorem wb8 {e:TypeId} {fuel:Nat} (hrec:∀(cs:List Value) (x:DataW H×List MemPlace),DataW.trod enc P w 0 spare held fuel e cs=some x->bk x.1<=N->
 ∃ cells,RdD (fun _ _=>False) w cs cells/\FitT P N e cells) (cs:List Value) :
 ∀(n k:Nat) (xs:List (DataW H×List MemPlace)),cs.length=(k+n)*P.cellsOf e->xs.length=k+n->
  (∀(i:Nat),k<=i->i<k+n->DataW.trod enc P w 0 spare held fuel e ((cs.drop (i*P.cellsOf e)).take (P.cellsOf e))=xs[i]?)->(∀ x∈xs,bk x.1<=N)->
  ∃ rows:List (List Cell),RdD (fun _ _=>False) w (cs.drop (k*P.cellsOf e)) rows.flatten/\rows.length=n/\∀ r∈rows,FitT P N e r
 | 0,k,xs,hlen,_,_,_=>by
  refine ⟨[],?_,rfl,fun r hr=>by cases hr⟩;rw [List.drop_eq_nil_of_le (by rw [hlen];simp)];exact trivial
 | n+1,k,xs,hlen,hxs,hx,hb=>by
  have hk:k<xs.length:=by omega
  have h0:=hx k (Nat.le_refl _) (by omega);rw [List.getElem?_eq_getElem hk] at h0;obtain ⟨c0,r0,f0⟩:=hrec _ _ h0 (hb _ (List.getElem_mem hk));obtain ⟨rows,r1,f1,f2⟩:=wb8 hrec cs n (k+1) xs (by rw [hlen];congr 1;omega) (by omega) (fun i h1 h2=>hx i (by omega) (by omega)) hb;refine ⟨c0::rows,?_,by simp [f1],fun r hr=>?_⟩
  . have:cs.drop (k*P.cellsOf e)=(cs.drop (k*P.cellsOf e)).take (P.cellsOf e)++cs.drop ((k+1)*P.cellsOf e):=by
     rw [Nat.add_mul,Nat.one_mul,<-List.drop_drop,List.take_append_drop]
    rw [this,List.flatten_cons];exact r0.app0 r1
  . cases List.mem_cons.1 hr with
    | inl h=>subst h;exact f0
    | inr h=>exact f2 r h
theorem vqd (hB:Bulk bk) {L:List TypeId} (hL:wwn P L=true):∀(fuel:Nat) (t:TypeId),t∈L->∀(cs:List Value) (x:DataW H×List MemPlace),DataW.trod enc P w 0 spare held fuel t cs=some x->bk x.1<=N->
 ∃ cells,RdD (fun _ _=>False) w cs cells/\FitT P N t cells:=by
 intro fuel
 induction fuel with
 | zero=>intro t _ cs x h;simp [DataW.trod] at h
 | succ fuel ih=>
  intro t htL cs x hx hb;have hok:=List.all_eq_true.1 hL t htL;split at hok
  . rename_i ht;obtain ⟨b,rfl,rfl⟩:=DataW.trod_bool ht hx;exact ⟨[.raw (.bool b)],⟨.raw rfl,trivial⟩,.bool ht⟩
  . rename_i k ht;obtain ⟨m,rfl,rfl,hw⟩:=DataW.trod_int ht hx;exact ⟨[.raw (.int k m)],⟨.raw rfl,trivial⟩,.int ht (by simpa [Lit.wf] using hw)⟩
  . rename_i ht;obtain ⟨s,rfl,rfl,_⟩:=DataW.trod_string ht hx;refine ⟨[.raw (.string s)],⟨.raw rfl,trivial⟩,.str ht ?_⟩;have h1:=hB.str s.data.toList;have e:s.data.toList.length=s.size:=Array.length_toList;have hb:bk (.lit (.string s.data.toList))<=N:=hb;omega
  . rename_i e ht;simp only [Bool.and_eq_true,bne_iff_ne,ne_eq] at hok;obtain ⟨⟨heL,hc0⟩,hk⟩:=hok
    have heL:e∈L:=by simpa using heL
    by_cases hint:∃ k,P.underlying e=some (.int k)
    . obtain ⟨k,he⟩:=hint;rw [he] at hk
      have hc:P.cellsOf e=1:=by simpa using hk
      rcases open_ints ht he hc hx with ⟨rfl,rfl⟩ | ⟨a,len,cap,zs,rfl,_,hlc,_,hzl,rfl,hcell,hwf⟩
      . exact ⟨[.ints k []],⟨.ints 0 0 rfl (Nat.le_refl _) (fun h=>absurd rfl h) (fun i hi=>absurd hi (Nat.not_lt_zero i)),trivial⟩,.ints ht he (Nat.zero_le _) (fun x hx=>by cases hx)⟩
      . have hle:len<=zs.length:=by rw [hzl];split<;>omega
        have htl:(zs.take len).length=len:=by simp;omega
        refine ⟨[.ints k (zs.take len)],⟨.ints a.block a.off htl.symm hlc (fun hne=>?_) (fun i hi=>⟨fun h=>h,?_⟩),trivial⟩,.ints ht he ?_ (fun x hx=>?_)⟩
        . have hpos:0<zs.length:=by
           have:=List.length_pos_iff.2 hne
           omega
          have h0:=cellAt (hcell 0 hpos)
          have h0:a.spot=none:=by simpa [Addr.add] using h0
          cases a;simp at h0;subst h0;rfl
        . have hi':i<zs.length:=by omega
          have h1:=hcell i hi'
          have hs:a.spot=none:=by
           have h0:=cellAt (hcell 0 (by omega));simpa [Addr.add] using h0
          rw [addrAt hs] at h1;rw [h1];simp [hi']
        . have:=hB.elems (lits (H:=H) k (zs.take len)) (lits k (zs.drop len))
          have e1:(lits (H:=H) k (zs.take len)).length=len:=by simp [lits];omega
          have hb:bk (.slice (lits k (zs.take len)) (lits k (zs.drop len)))<=N:=hb;omega
        . have:=hwf x (List.mem_of_mem_take hx)
          simpa [Lit.wf] using this
    . have hint:∀ k,P.underlying e≠some (.int k):=fun k hk=>hint ⟨k,hk⟩
      rcases DataW.trod_slice ht hx with ⟨rfl,rfl⟩ | ⟨a,len,cap,elems,rest,m,hm,rfl,rfl,_,hlc,_,hlen,hel,_,_⟩
      . exact ⟨[.sl (P.cellsOf e) []],⟨.sl 0 0 (fun _ _=>Go.undef) rfl (Nat.le_refl _) (fun h=>absurd rfl h) (fun r hr=>by cases hr) (fun i hi=>absurd hi (Nat.not_lt_zero i)) (fun i hi=>absurd hi (Nat.not_lt_zero i)),trivial⟩,
         .sl ht hint (Nat.zero_le _) (fun r hr=>by cases hr)⟩
      . obtain rfl:fuel=m:=by omega
        have each:∀ i,i<len->∃(vs:List Value) (row:List Cell),vs.length=P.cellsOf e/\(∀ j,j<P.cellsOf e->w.cell? ((a.add (i*P.cellsOf e)).add j)=vs[j]?)/\RdD (fun _ _=>False) w vs row/\FitT P N e row:=fun i hi=>by
         have h1:=hel i hi
         have hi':i<elems.length:=by omega
         rw [List.getElem?_eq_getElem hi'] at h1;simp only [Option.bind_eq_some_iff] at h1;obtain ⟨vs,hvs,htr⟩:=h1;obtain ⟨_,h2,h3⟩:=World.cells?_some hvs;have hbe:bk elems[i].1<=N:=Nat.le_trans (hB.elem (elems.map (·.1)) (rest.map (·.1)) elems[i].1 (List.mem_map.2 ⟨_,List.getElem_mem hi',rfl⟩)) hb;obtain ⟨row,r1,r2⟩:=ih e heL vs _ htr hbe;exact ⟨vs,row,h2,h3,r1,r2⟩
        have hlN:len<=N:=by
         have h1:=hB.elems (elems.map (·.1)) (rest.map (·.1));rw [List.length_map] at h1;have hb:bk (.slice (elems.map (·.1)) (rest.map (·.1)))<=N:=hb;omega
        have pick:∃(V:Nat->List Value) (R:Nat->List Cell),∀ i,i<len->(V i).length=P.cellsOf e/\(∀ j,j<P.cellsOf e->w.cell? ((a.add (i*P.cellsOf e)).add j)=(V i)[j]?)/\RdD (fun _ _=>False) w (V i) (R i)/\FitT P N e (R i):=by
         refine ⟨fun i=>if h:i<len then Classical.choose (each i h) else [],fun i=>if h:i<len then Classical.choose (Classical.choose_spec (each i h)) else [],fun i hi=>?_⟩;simp only [dif_pos hi];exact Classical.choose_spec (Classical.choose_spec (each i hi))
        obtain ⟨V,R,hVR⟩:=pick
        have hspot:∀ i j,i<len->j<P.cellsOf e->a.spot=none:=fun i j hi hj=>by
         have h0:0<len:=by omega
         have h2:=(hVR 0 h0).2.1 0 (by omega)
         have hl0':0<(V 0).length:=by rw [(hVR 0 h0).1];omega
         rw [List.getElem?_eq_getElem hl0'] at h2
         have:=cellAt h2
         simpa [Addr.add] using this
        have hrl:∀ i,i<len->(R i).length=P.cellsOf e:=fun i hi=>by rw [<-(hVR i hi).2.2.1.length];exact (hVR i hi).1
        refine ⟨[.sl (P.cellsOf e) ((List.range len).map R)],⟨.sl a.block a.off (fun i j=>(V i).getD j Go.undef) (by simp) hlc (fun hne=>?_) (fun r hr=>?_) (fun i hi j hj=>⟨fun h=>h,?_⟩) (fun i hi j hj=>?_),trivial⟩,.sl ht hint (by simpa using hlN) (fun r hr=>?_)⟩
        . have h0:0<len:=by
           rcases Nat.eq_zero_or_pos len with h | h
           . subst h;simp at hne
           . exact h
          have h1:=hspot 0 0 h0 (by omega)
          cases a;simp at h1;subst h1;rfl
        . obtain ⟨i,hi,rfl⟩:=List.mem_map.1 hr;exact hrl i (List.mem_range.1 hi)
        . simp at hi;have h1:=(hVR i hi).2.1 j hj
          have hjl:j<(V i).length:=by rw [(hVR i hi).1];exact hj
          rw [addrAt (hspot i j hi hj),addrAt rfl] at h1;simp only at h1;rw [h1,List.getElem?_eq_getElem hjl];simp [hjl]
        . simp at hi;simp only [List.getElem_map,List.getElem_range] at hj ⊢;exact RdD.whb (hVR i hi).2.2.1 j hj
        . obtain ⟨i,hi,rfl⟩:=List.mem_map.1 hr;exact (hVR i (List.mem_range.1 hi)).2.2.2
  . rename_i n e ht;simp only [Bool.and_eq_true,beq_iff_eq] at hok;obtain ⟨heL,hc⟩:=hok
    have heL:e∈L:=by simpa using heL
    obtain ⟨xs,m,hm,rfl,hcl,hxl,hel⟩:=DataW.trod_array ht hx
    obtain rfl:fuel=m:=by omega
    obtain ⟨rows,r1,r2,r3⟩:=wb8 (fun cs' x' h1 h2=>ih e heL cs' x' h1 h2) cs n 0 xs (by rw [hcl,hc,Nat.zero_add]) (by omega) (fun i _ h2=>hel i (by omega)) (fun y hy=>
     Nat.le_trans (hB.part (xs.map (·.1)) y.1 (List.mem_map.2 ⟨y,hy,rfl⟩)) hb)
    exact ⟨rows.flatten,by simpa using r1,.array ht r2 r3⟩
  . rename_i fs ht;simp only [Bool.and_eq_true,beq_iff_eq] at hok;obtain ⟨⟨hfL,htt⟩,hc⟩:=hok;obtain ⟨xs,m,hm,rfl,hcl,hxl,hf⟩:=DataW.trod_struct ht hx
    obtain rfl:fuel=m:=by omega
    obtain ⟨rows,r1,r2,r3⟩:=xnu (fun t' hL' cs' x' h1 h2=>ih t' hL' cs' x' h1 h2) fs.toList 0 cs xs htt (fun f hf=>by simpa using List.all_eq_true.1 hfL f hf) (by omega) (by simpa using hxl) (fun i f hf'=>hf i f (by simpa using hf')) (fun y hy=>
     Nat.le_trans (hB.part (xs.map (·.1)) y.1 (List.mem_map.2 ⟨y,hy,rfl⟩)) hb)
    exact ⟨rows.flatten,by simpa using r1,.struct ht (by simpa using r2) r3⟩
  . cases hok
end Go.Slot
