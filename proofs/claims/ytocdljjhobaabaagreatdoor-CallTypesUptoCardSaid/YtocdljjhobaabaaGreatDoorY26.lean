/- The proof, part Y26: P8, P9, Pk, 1h. -/
import Derived.Test.YtocdljjhobaabaaGreatDoorY25
namespace Go.Hp.T
open Go Go.RowKit Go.Slot Go.Hp Go.Slot.T
open Go.Proofs.Tryz (prog)
attribute [local irreducible] hide RH
set_option maxRecDepth 10000
set_option maxHeartbeats 8000000
variable {Γ:List (Nat×List Cell)}
def anL (L:List Tk) (rec:Nat->Bool->Rd):Nat->List Ex->Nat->Bool->Rds
 | 0,out,a,b=>clF L out a b
 | n+1,out,a,b=>bif isF L a b 3 tCm then anL L rec n (out++[(rec (a+1) false).1]) (rec (a+1) false).2.1 (rec (a+1) false).2.2 else clF L out a b
def anF (L:List Tk) (rec:Nat->Bool->Rd) (a:Nat):Rds:=anL L rec L.length [(rec a false).1] (rec a false).2.1 (rec a false).2.2
theorem xbx {L:List Tk} {rec:Nat->Bool->Rd} {n:Nat} {out:List Ex} {a:Nat} {b:Bool} (h:isF L a b 3 tCm=false):anL L rec n out a b=clF L out a b:=by
 cases n with
 | zero=>rfl
 | succ n=>rw [anL,h];rfl
theorem xlj {L:List Tk} {rec:Nat->Bool->Rd} {n:Nat} {out:List Ex} {a:Nat} {b:Bool} (h:isF L a b 3 tCm=true):anL L rec (n+1) out a b=anL L rec n (out++[(rec (a+1) false).1]) (rec (a+1) false).2.1 (rec (a+1) false).2.2:=by
 rw [anL,h];rfl
theorem wdd {η:List SB} {b n:Nat} {l:List (List Cell)} {q:Nat} {T:Option TypeId} (hb:gB η b=.arr (.sl 5 l) q T) (hn:n=l.length):znb η [.one (.sl b 5 0 n)]=some ([.one (.sl 5 l)],[b]):=by
 subst hn;simp [znb,argD,xvg,hb,Cell.esz,Cell.cnt,subC]
theorem ze5 (L:List Tk) (rec:Nat->Bool->Rd) (a:Nat) (hl:L.length<=1073741824) (ha:a<=L.length) (hm:∀ i,i<=(rec i false).2.1)
 (H:∀ i,a<=i->i<=L.length->xgj Γ prog 101 [rdF L i false] [.one (.ptr 0 0)] [rdF L (rec i false).2.1 (rec i false).2.2] (.agg ((exC (rec i false).1).map .dat))) :
 xgj Γ prog 153 [rdF L a false] [.one (.ptr 0 0)] [rdF L (anF L rec a).2.1 (anF L rec a).2.2] (.one (.dat (.sl 5 ((anF L rec a).1.map Ex.cells)))):=by
 generalize hR:anF L rec a=R;unfold anF at hR;have H0:=H a (Nat.le_refl _) ha;have m0:=hm a;generalize rec a false=r at *;obtain ⟨x0,a0,b0⟩:=r;simp only at H0 m0 hR;refine xgj.run [(1,[.own])] Go.Proofs.Tryz.func153 rfl rfl ?_;simp only [Go.Proofs.Tryz.f153];refine hgR ?_
 repeat' ((first | refine hfk ?_ ?_<;>intros | refine hik ?_ | with_reducible refine z7r ?_ | with_reducible refine wd2 ?_)<;>refine hgS ?_)
 refine wq6 H0 ?_;clear H0;refine hg ?_
 repeat' ((first | refine hfk ?_ ?_<;>intros | refine hik ?_)<;>refine hgS ?_)
 refine yxw [0] (fun x:List Ex×Nat×Bool=>[(3,.one (.sl 1 5 0 x.1.length))]) (fun x=>[rdF L x.2.1 x.2.2,.arr (.sl 5 (x.1.map Ex.cells)) 0 (some 25)])
  (fun x=>a<=x.2.1/\x.1.length+a<=x.2.1+1/\∃ n,L.length-x.2.1<=n/\anL L rec n x.1 x.2.1 x.2.2=R) (fun x=>L.length-x.2.1) ([x0],a0,b0) ⟨m0,by simp only [List.length_singleton];omega,L.length,by omega,hR⟩ ?_ ?_
 . refine hg ?_;exact StH.same svl rfl
 rintro ⟨out,i,b⟩ ⟨i1,i2,n,n1,hn⟩;simp only at i1 i2 n1 hn;clear hR;have sk:=vzj (Γ:=Γ) L i b 3 tCm hl;unfold skF at sk
 cases hi:isF L i b 3 tCm with
 | true=>
  obtain ⟨hlt,rfl⟩:=vgd hi;obtain ⟨n,rfl⟩:∃ k,n=k+1:=⟨n-1,by omega⟩;have H1:=H (i+1) (by omega) (by omega);have m1:=hm (i+1);rw [xlj hi] at hn;rw [hi] at sk;clear hi H hm;generalize rec (i+1) false=r at *;obtain ⟨y,i',b'⟩:=r;simp only [cond_true] at H1 m1 hn sk;refine hg ?_
  repeat' ((first | refine hfk ?_ ?_<;>intros | refine hik ?_ | with_reducible refine z7r ?_ | with_reducible refine wd2 ?_)<;>refine hgS ?_)
  refine xmn [0] sk rfl (by decide) rfl rfl rfl ?_;refine hg ?_
  repeat' ((first | refine hfk ?_ ?_<;>intros | refine hik ?_ | with_reducible refine z7r ?_ | with_reducible refine wd2 ?_)<;>refine hgS ?_)
  refine xmn [0] H1 rfl (by decide) rfl rfl rfl ?_;clear H1 sk;refine hg ?_
  repeat' ((first | refine hfk ?_ ?_<;>intros | refine hik ?_ | with_reducible refine z7r ?_ | with_reducible refine wd2 ?_)<;>refine hgS ?_)
  refine ⟨(out++[y],i',b'),⟨by dsimp only;omega,by simp only [List.length_append,List.length_singleton];omega,n,by dsimp only;omega,hn⟩,by dsimp only;omega,?_⟩;refine StH.back [0,3] 1 2 2 rfl rfl rfl rfl rfl (by kernel_rfl) ?_;simp only [List.map_append,List.map_cons,List.map_nil,Ex.wrj]
  conv=>simp (maxSteps:=2000000) (disch:=omega) only [go_sem,Nat.reduceAdd,Nat.reduceSub,Nat.reduceMul,Int.reduceToNat,Nat.reduceEqDiff,Nat.reduceBEq,Nat.reduceBneDiff,Nat.reduceLT,Int.reduceEq,Int.reduceLT,Int.reduceLE,Int.reduceNeg,Int.reduceAdd,Int.reduceSub,Int.reduceMul,List.length_append,List.length_singleton]
  exact StH.same svl rfl
 | false=>
  rw [xbx hi] at hn;rw [hi] at sk;clear H hm hi;unfold clF at hn;subst hn;have c:=vvf (Γ:=Γ) L i b tRp hl;simp only [cond_false] at sk;refine hg ?_
  repeat' ((first | refine hfk ?_ ?_<;>intros | refine hik ?_ | with_reducible refine z7r ?_ | with_reducible refine wd2 ?_)<;>refine hgS ?_)
  refine xmn [0] sk rfl (by decide) rfl rfl rfl ?_;refine hg ?_
  repeat' ((first | refine hfk ?_ ?_<;>intros | refine hik ?_ | with_reducible refine z7r ?_ | with_reducible refine wd2 ?_)<;>refine hgS ?_)
  refine xmn [0] c rfl (by decide) rfl rfl rfl ?_;refine hg ?_
  repeat' ((first | refine hfk ?_ ?_<;>intros | refine hik ?_)<;>refine hgS ?_)
  exact yvo (bs:=[1]) 1 (wdd rfl (List.length_map _).symm) (fun l h=>by cases h) rfl (by kernel_rfl) rfl
abbrev zyd:ByteArray:=⟨#[108,111,111,107]⟩
abbrev tMin:ByteArray:=⟨#[109,105,110]⟩
abbrev tMax:ByteArray:=⟨#[109,97,120]⟩
def nmA (L:List Tk) (a:Nat) (b:Bool):Nat:=bif nmOk L a b then a+1 else a
def nmB (L:List Tk) (a:Nat) (b:Bool):Bool:=bif nmOk L a b then b else true
def atP (L:List Tk) (rec:Nat->Bool->Rd) (a:Nat):Rd:=bif (sm1 L rec a false).2.2 then (zE,(sm1 L rec a false).2.1,true) else ((sm1 L rec a false).1.headD zE,(sm1 L rec a false).2.1,false)
def lkA (L:List Tk) (a:Nat):Nat:=nmA L (skF L a false 3 tLp) (!isF L a false 3 tLp)
def lkB (L:List Tk) (a:Nat):Bool:=nmB L (skF L a false 3 tLp) (!isF L a false 3 tLp)
def lkS (L:List Tk) (a:Nat):ByteArray:=nmS L (skF L a false 3 tLp) (!isF L a false 3 tLp)
def lkR (L:List Tk) (rec:Nat->Bool->Rd) (a:Nat):Rds:=sm1 L rec (skF L (lkA L a) (lkB L a) 3 tCm) (!isF L (lkA L a) (lkB L a) 3 tCm)
def mmR (L:List Tk) (rec:Nat->Bool->Rd) (a:Nat):Rds:=sm2 L rec (skF L a false 3 tLp) (!isF L a false 3 tLp)
def atN (L:List Tk) (rec:Nat->Bool->Rd) (a:Nat):Rd:=
 bif isF L (nmA L a false) (nmB L a false) 3 tLp then (.mk 3 0 ⟨#[]⟩ (nmS L a false) (anF L rec (nmA L a false+1)).1,(anF L rec (nmA L a false+1)).2)
 else (.mk 1 0 ⟨#[]⟩ (nmS L a false) [],nmA L a false,nmB L a false)
def ydv (L:List Tk) (rec:Nat->Bool->Rd) (a:Nat) (b:Bool):Rd:=
 bif b then (zE,a,true) else
 bif kdF L a false 1 then (nbE L a false,nbA L a false,false) else
 bif isF L a false 3 tLp then atP L rec (a+1) else
 bif isF L a false 0 zyd then (.mk 2 0 ⟨#[]⟩ (lkS L (a+1)) (lkR L rec (a+1)).1,(lkR L rec (a+1)).2) else
 bif isF L a false 0 tMin then (.mk 10 0 ⟨#[]⟩ ⟨#[]⟩ (mmR L rec (a+1)).1,(mmR L rec (a+1)).2) else
 bif isF L a false 0 tMax then (.mk 11 0 ⟨#[]⟩ ⟨#[]⟩ (mmR L rec (a+1)).1,(mmR L rec (a+1)).2) else
 atN L rec a
structure vp2 (Γ:List (Nat×List Cell)) (L:List Tk) (rec:Nat->Bool->Rd) (a:Nat):Prop where
 len:L.length<=1073741824
 mono:∀ i c,i<=(rec i c).2.1
 le:∀ i c,i<=L.length->(rec i c).2.1<=L.length
 run:∀ i c,a<i->i<=L.length->xgj Γ prog 101 [rdF L i c] [.one (.ptr 0 0)] [rdF L (rec i c).2.1 (rec i c).2.2] (.agg ((exC (rec i c).1).map .dat))
abbrev w3k (Γ:List (Nat×List Cell)) (L:List Tk) (a:Nat) (b:Bool) (r:Rd):Prop:=xgj Γ prog 122 [rdF L a b] [.one (.ptr 0 0)] [rdF L r.2.1 r.2.2] (.agg ((exC r.1).map .dat))
theorem wyd {L:List Tk} {a:Nat} {b:Bool} {k:Int} {t:ByteArray} (h:a<=L.length):skF L a b k t<=L.length:=by
 unfold skF
 cases hi:isF L a b k t with
 | true=>have:=(vgd hi).1;exact this
 | false=>exact h
theorem y55 {L:List Tk} {a:Nat} {b:Bool} {k:Int} {t:ByteArray}:a<=skF L a b k t:=by
 unfold skF
 cases isF L a b k t with
 | true=>exact Nat.le_succ _
 | false=>exact Nat.le_refl _
theorem wld {L:List Tk} {a:Nat} {b:Bool} (h:a<=L.length):nmA L a b<=L.length:=by
 unfold nmA nmOk
 cases hi:kdF L a b 0 with
 | true=>have:=(vej hi).1;cases isWord (L.getD a default).t<;>simp<;>omega
 | false=>exact h
theorem y13 {L:List Tk} {a:Nat} {b:Bool}:a<=nmA L a b:=by
 unfold nmA
 cases nmOk L a b with
 | true=>exact Nat.le_succ _
 | false=>exact Nat.le_refl _
theorem skT {L:List Tk} {a:Nat} {b:Bool} {k:Int} {t:ByteArray} (h:isF L a b k t=true):skF L a b k t=a+1:=by unfold skF;rw [h];rfl
theorem skN {L:List Tk} {a:Nat} {b:Bool} {k:Int} {t:ByteArray} (h:isF L a b k t=false):skF L a b k t=a:=by unfold skF;rw [h];rfl
theorem xqc (L:List Tk) (a:Nat):w3k Γ L a true (zE,a,true):=by
 refine xgj.run [] Go.Proofs.Tryz.func122 rfl rfl ?_;simp only [Go.Proofs.Tryz.f122];refine hgR ?_
 repeat' ((first | refine hfk ?_ ?_<;>intros | refine hik ?_)<;>refine hgS ?_)
 exact xsj 1 rfl (by kernel_rfl) rfl
theorem zkz (L:List Tk) (a:Nat) (hl:L.length<=1073741824) (h:kdF L a false 1=true):w3k Γ L a false (nbE L a false,nbA L a false,false):=by
 have k:=yeq (Γ:=Γ) L a false 1;have n:=wcx (Γ:=Γ) L a false hl (vej h).1;rw [h] at k;generalize nbE L a false=x at *;generalize nbA L a false=a1 at *;refine xgj.run [] Go.Proofs.Tryz.func122 rfl rfl ?_;simp only [Go.Proofs.Tryz.f122];refine hgR ?_
 repeat' ((first | refine hfk ?_ ?_<;>intros | refine hik ?_)<;>refine hgS ?_)
 refine xmn [0] k rfl (by decide) rfl rfl rfl ?_;refine hg ?_
 repeat' ((first | refine hfk ?_ ?_<;>intros | refine hik ?_)<;>refine hgS ?_)
 refine xmn [0] n rfl (by decide) rfl rfl rfl ?_;refine hg ?_
 repeat' ((first | refine hfk ?_ ?_<;>intros | refine hik ?_)<;>refine hgS ?_)
 exact StH.done 1 rfl (by kernel_rfl) rfl rfl
theorem xay (L:List Tk) (rec:Nat->Bool->Rd) (a:Nat) (h1:kdF L a false 1=false) (h2:isF L a false 3 tLp=true) (H:vp2 Γ L rec a):w3k Γ L a false (atP L rec (a+1)):=by
 have k:=yeq (Γ:=Γ) L a false 1;have s:=vzj (Γ:=Γ) L a false 3 tLp H.len;have m:=zw8 (Γ:=Γ) L rec (a+1) false H.len (fun _=>H.run (a+1) false (Nat.lt_succ_self _) (vgd h2).1);rw [h1] at k;rw [skT h2,h2] at s;unfold atP;have e:sm1 L rec (a+1) false=clF L [(rec (a+1) false).1] (rec (a+1) false).2.1 (rec (a+1) false).2.2:=rfl;rw [e] at m ⊢;clear e H h1 h2;generalize rec (a+1) false=r at *;unfold clF at *;generalize skF L r.2.1 r.2.2 3 tRp=a' at *;generalize (!isF L r.2.1 r.2.2 3 tRp)=b' at *;obtain ⟨x,a1,b1⟩:=r;simp only [List.map_cons,List.map_nil,Ex.wrj] at m
 cases b' with
 | true=>
  refine xgj.run [] Go.Proofs.Tryz.func122 rfl rfl ?_;simp only [Go.Proofs.Tryz.f122];refine hgR ?_
  repeat' ((first | refine hfk ?_ ?_<;>intros | refine hik ?_)<;>refine hgS ?_)
  refine xmn [0] k rfl (by decide) rfl rfl rfl ?_;refine hg ?_
  repeat' ((first | refine hfk ?_ ?_<;>intros | refine hik ?_)<;>refine hgS ?_)
  refine xmn [0] s rfl (by decide) rfl rfl rfl ?_;refine hg ?_
  repeat' ((first | refine hfk ?_ ?_<;>intros | refine hik ?_)<;>refine hgS ?_)
  refine xmn [0] m rfl (by decide) rfl rfl rfl ?_;refine hg ?_
  repeat' ((first | refine hfk ?_ ?_<;>intros | refine hik ?_)<;>refine hgS ?_)
  exact xsj 1 rfl (by kernel_rfl) rfl
 | false=>
  refine xgj.run [] Go.Proofs.Tryz.func122 rfl rfl ?_;simp only [Go.Proofs.Tryz.f122];refine hgR ?_
  repeat' ((first | refine hfk ?_ ?_<;>intros | refine hik ?_)<;>refine hgS ?_)
  refine xmn [0] k rfl (by decide) rfl rfl rfl ?_;refine hg ?_
  repeat' ((first | refine hfk ?_ ?_<;>intros | refine hik ?_)<;>refine hgS ?_)
  refine xmn [0] s rfl (by decide) rfl rfl rfl ?_;refine hg ?_
  repeat' ((first | refine hfk ?_ ?_<;>intros | refine hik ?_)<;>refine hgS ?_)
  refine xmn [0] m rfl (by decide) rfl rfl rfl ?_;refine hg ?_
  repeat' ((first | refine hfk ?_ ?_<;>intros | refine hik ?_)<;>refine hgS ?_)
  exact StH.done 1 rfl (by kernel_rfl) rfl rfl
theorem zzu (L:List Tk) (rec:Nat->Bool->Rd) (a:Nat) (h1:kdF L a false 1=false) (h2:isF L a false 3 tLp=false) (h3:isF L a false 0 zyd=true) (H:vp2 Γ L rec a) :
 w3k Γ L a false (.mk 2 0 ⟨#[]⟩ (lkS L (a+1)) (lkR L rec (a+1)).1,(lkR L rec (a+1)).2):=by
 have hlt:=(vgd h3).1;have k:=yeq (Γ:=Γ) L a false 1;have s:=vzj (Γ:=Γ) L a false 3 tLp H.len;have s2:=vzj (Γ:=Γ) L a false 0 zyd H.len;have g1:=vvf (Γ:=Γ) L (a+1) false tLp H.len;have nm:=zhw (Γ:=Γ) L (skF L (a+1) false 3 tLp) (!isF L (a+1) false 3 tLp) H.len;have g2:=vvf (Γ:=Γ) L (lkA L (a+1)) (lkB L (a+1)) tCm H.len;have h5:a+1<=lkA L (a+1):=Nat.le_trans (y55 (b:=false) (k:=3) (t:=tLp)) y13;have h6:lkA L (a+1)<=L.length:=wld (wyd (by omega));have m:=zw8 (Γ:=Γ) L rec (skF L (lkA L (a+1)) (lkB L (a+1)) 3 tCm) (!isF L (lkA L (a+1)) (lkB L (a+1)) 3 tCm) H.len (fun _=>H.run _ false (by have:=y55 (L:=L) (a:=lkA L (a+1)) (b:=lkB L (a+1)) (k:=3) (t:=tCm);omega) (wyd h6));change xgj _ _ _ _ _ [rdF L (lkA L (a+1)) (lkB L (a+1))] (.one (.dat (cS (lkS L (a+1))))) at nm;change xgj _ _ _ _ _ [rdF L (lkR L rec (a+1)).2.1 (lkR L rec (a+1)).2.2] (.one (.dat (.sl 5 ((lkR L rec (a+1)).1.map Ex.cells)))) at m;rw [h1] at k;rw [skN h2,h2] at s;rw [skT h3,h3] at s2;clear H h1 h2 h3 h5 h6;generalize lkR L rec (a+1)=r at *;generalize skF L (lkA L (a+1)) (lkB L (a+1)) 3 tCm=a3 at *;generalize (!isF L (lkA L (a+1)) (lkB L (a+1)) 3 tCm)=b3 at *;generalize lkA L (a+1)=a2 at *;generalize lkB L (a+1)=b2 at *;generalize lkS L (a+1)=n at *;generalize skF L (a+1) false 3 tLp=a1 at *;generalize (!isF L (a+1) false 3 tLp)=b1 at *;obtain ⟨l,a',b'⟩:=r;refine xgj.run [] Go.Proofs.Tryz.func122 rfl rfl ?_;simp only [Go.Proofs.Tryz.f122];refine hgR ?_
 repeat' ((first | refine hfk ?_ ?_<;>intros | refine hik ?_)<;>refine hgS ?_)
 refine xmn [0] k rfl (by decide) rfl rfl rfl ?_;refine hg ?_
 repeat' ((first | refine hfk ?_ ?_<;>intros | refine hik ?_)<;>refine hgS ?_)
 refine xmn [0] s rfl (by decide) rfl rfl rfl ?_;refine hg ?_
 repeat' ((first | refine hfk ?_ ?_<;>intros | refine hik ?_)<;>refine hgS ?_)
 refine xmn [0] s2 rfl (by decide) rfl rfl rfl ?_;refine hg ?_
 repeat' ((first | refine hfk ?_ ?_<;>intros | refine hik ?_)<;>refine hgS ?_)
 refine xmn [0] g1 rfl (by decide) rfl rfl rfl ?_;refine hg ?_
 repeat' ((first | refine hfk ?_ ?_<;>intros | refine hik ?_)<;>refine hgS ?_)
 refine xmn [0] nm rfl (by decide) rfl rfl rfl ?_;refine hg ?_
 repeat' ((first | refine hfk ?_ ?_<;>intros | refine hik ?_)<;>refine hgS ?_)
 refine xmn [0] g2 rfl (by decide) rfl rfl rfl ?_;refine hg ?_
 repeat' ((first | refine hfk ?_ ?_<;>intros | refine hik ?_)<;>refine hgS ?_)
 refine xmn [0] m rfl (by decide) rfl rfl rfl ?_;refine hg ?_
 repeat' ((first | refine hfk ?_ ?_<;>intros | refine hik ?_)<;>refine hgS ?_)
 exact StH.done 1 rfl (by kernel_rfl) rfl rfl
theorem vre (L:List Tk) (rec:Nat->Bool->Rd) (a:Nat) (h1:kdF L a false 1=false) (h2:isF L a false 3 tLp=false) (h3:isF L a false 0 zyd=false) (h4:isF L a false 0 tMin=true) (H:vp2 Γ L rec a) :
 w3k Γ L a false (.mk 10 0 ⟨#[]⟩ ⟨#[]⟩ (mmR L rec (a+1)).1,(mmR L rec (a+1)).2):=by
 have hlt:=(vgd h4).1;have k:=yeq (Γ:=Γ) L a false 1;have s:=vzj (Γ:=Γ) L a false 3 tLp H.len;have s2:=vzj (Γ:=Γ) L a false 0 zyd H.len;have s3:=vzj (Γ:=Γ) L a false 0 tMin H.len;have g1:=vvf (Γ:=Γ) L (a+1) false tLp H.len;have b1:a<skF L (a+1) false 3 tLp:=y55;have b2:skF L (a+1) false 3 tLp<=L.length:=wyd (by omega);have m:=xhb (Γ:=Γ) L rec (skF L (a+1) false 3 tLp) (!isF L (a+1) false 3 tLp) H.len (fun _=>H.run _ false b1 b2) (fun c _=>H.run _ c (Nat.lt_of_lt_of_le b1 (Nat.le_trans (H.mono _ _) y55)) (wyd (H.le _ _ b2)));change xgj _ _ _ _ _ [rdF L (mmR L rec (a+1)).2.1 (mmR L rec (a+1)).2.2] (.one (.dat (.sl 5 ((mmR L rec (a+1)).1.map Ex.cells)))) at m;rw [h1] at k;rw [skN h2,h2] at s;rw [skN h3,h3] at s2;rw [skT h4,h4] at s3;clear H h1 h2 h3 h4 b1 b2;generalize mmR L rec (a+1)=r at *;generalize skF L (a+1) false 3 tLp=a1 at *;generalize (!isF L (a+1) false 3 tLp)=b1 at *;obtain ⟨l,a',b'⟩:=r;refine xgj.run [] Go.Proofs.Tryz.func122 rfl rfl ?_;simp only [Go.Proofs.Tryz.f122];refine hgR ?_
 repeat' ((first | refine hfk ?_ ?_<;>intros | refine hik ?_)<;>refine hgS ?_)
 refine xmn [0] k rfl (by decide) rfl rfl rfl ?_;refine hg ?_
 repeat' ((first | refine hfk ?_ ?_<;>intros | refine hik ?_)<;>refine hgS ?_)
 refine xmn [0] s rfl (by decide) rfl rfl rfl ?_;refine hg ?_
 repeat' ((first | refine hfk ?_ ?_<;>intros | refine hik ?_)<;>refine hgS ?_)
 refine xmn [0] s2 rfl (by decide) rfl rfl rfl ?_;refine hg ?_
 repeat' ((first | refine hfk ?_ ?_<;>intros | refine hik ?_)<;>refine hgS ?_)
 refine xmn [0] s3 rfl (by decide) rfl rfl rfl ?_;refine hg ?_
 repeat' ((first | refine hfk ?_ ?_<;>intros | refine hik ?_)<;>refine hgS ?_)
 refine xmn [0] g1 rfl (by decide) rfl rfl rfl ?_;refine hg ?_
 repeat' ((first | refine hfk ?_ ?_<;>intros | refine hik ?_)<;>refine hgS ?_)
 refine xmn [0] m rfl (by decide) rfl rfl rfl ?_;refine hg ?_
 repeat' ((first | refine hfk ?_ ?_<;>intros | refine hik ?_)<;>refine hgS ?_)
 exact StH.done 1 rfl (by kernel_rfl) rfl rfl
theorem v8n (L:List Tk) (rec:Nat->Bool->Rd) (a:Nat) (h1:kdF L a false 1=false) (h2:isF L a false 3 tLp=false) (h3:isF L a false 0 zyd=false) (h4:isF L a false 0 tMin=false) (h5:isF L a false 0 tMax=true) (H:vp2 Γ L rec a) :
 w3k Γ L a false (.mk 11 0 ⟨#[]⟩ ⟨#[]⟩ (mmR L rec (a+1)).1,(mmR L rec (a+1)).2):=by
 have hlt:=(vgd h5).1;have k:=yeq (Γ:=Γ) L a false 1;have s:=vzj (Γ:=Γ) L a false 3 tLp H.len;have s2:=vzj (Γ:=Γ) L a false 0 zyd H.len;have s3:=vzj (Γ:=Γ) L a false 0 tMin H.len;have s4:=vzj (Γ:=Γ) L a false 0 tMax H.len;have g1:=vvf (Γ:=Γ) L (a+1) false tLp H.len;have b1:a<skF L (a+1) false 3 tLp:=y55;have b2:skF L (a+1) false 3 tLp<=L.length:=wyd (by omega);have m:=xhb (Γ:=Γ) L rec (skF L (a+1) false 3 tLp) (!isF L (a+1) false 3 tLp) H.len (fun _=>H.run _ false b1 b2) (fun c _=>H.run _ c (Nat.lt_of_lt_of_le b1 (Nat.le_trans (H.mono _ _) y55)) (wyd (H.le _ _ b2)));change xgj _ _ _ _ _ [rdF L (mmR L rec (a+1)).2.1 (mmR L rec (a+1)).2.2] (.one (.dat (.sl 5 ((mmR L rec (a+1)).1.map Ex.cells)))) at m;rw [h1] at k;rw [skN h2,h2] at s;rw [skN h3,h3] at s2;rw [skN h4,h4] at s3;rw [skT h5,h5] at s4;clear H h1 h2 h3 h4 h5 b1 b2;generalize mmR L rec (a+1)=r at *;generalize skF L (a+1) false 3 tLp=a1 at *;generalize (!isF L (a+1) false 3 tLp)=b1 at *;obtain ⟨l,a',b'⟩:=r;refine xgj.run [] Go.Proofs.Tryz.func122 rfl rfl ?_;simp only [Go.Proofs.Tryz.f122];refine hgR ?_
 repeat' ((first | refine hfk ?_ ?_<;>intros | refine hik ?_)<;>refine hgS ?_)
 refine xmn [0] k rfl (by decide) rfl rfl rfl ?_;refine hg ?_
 repeat' ((first | refine hfk ?_ ?_<;>intros | refine hik ?_)<;>refine hgS ?_)
 refine xmn [0] s rfl (by decide) rfl rfl rfl ?_;refine hg ?_
 repeat' ((first | refine hfk ?_ ?_<;>intros | refine hik ?_)<;>refine hgS ?_)
 refine xmn [0] s2 rfl (by decide) rfl rfl rfl ?_;refine hg ?_
 repeat' ((first | refine hfk ?_ ?_<;>intros | refine hik ?_)<;>refine hgS ?_)
 refine xmn [0] s3 rfl (by decide) rfl rfl rfl ?_;refine hg ?_
 repeat' ((first | refine hfk ?_ ?_<;>intros | refine hik ?_)<;>refine hgS ?_)
 refine xmn [0] s4 rfl (by decide) rfl rfl rfl ?_;refine hg ?_
 repeat' ((first | refine hfk ?_ ?_<;>intros | refine hik ?_)<;>refine hgS ?_)
 refine xmn [0] g1 rfl (by decide) rfl rfl rfl ?_;refine hg ?_
 repeat' ((first | refine hfk ?_ ?_<;>intros | refine hik ?_)<;>refine hgS ?_)
 refine xmn [0] m rfl (by decide) rfl rfl rfl ?_;refine hg ?_
 repeat' ((first | refine hfk ?_ ?_<;>intros | refine hik ?_)<;>refine hgS ?_)
 exact StH.done 1 rfl (by kernel_rfl) rfl rfl
theorem wlp (L:List Tk) (rec:Nat->Bool->Rd) (a:Nat) (_ha:a<=L.length) (h1:kdF L a false 1=false) (h2:isF L a false 3 tLp=false) (h3:isF L a false 0 zyd=false) (h4:isF L a false 0 tMin=false) (h5:isF L a false 0 tMax=false) (H:vp2 Γ L rec a) :
 w3k Γ L a false (atN L rec a):=by
 have k:=yeq (Γ:=Γ) L a false 1;have s:=vzj (Γ:=Γ) L a false 3 tLp H.len;have s2:=vzj (Γ:=Γ) L a false 0 zyd H.len;have s3:=vzj (Γ:=Γ) L a false 0 tMin H.len;have s4:=vzj (Γ:=Γ) L a false 0 tMax H.len;have nm:=zhw (Γ:=Γ) L a false H.len;have s5:=vzj (Γ:=Γ) L (nmA L a false) (nmB L a false) 3 tLp H.len;change xgj _ _ _ _ _ [rdF L (nmA L a false) (nmB L a false)] (.one (.dat (cS (nmS L a false)))) at nm;rw [h1] at k;rw [skN h2,h2] at s;rw [skN h3,h3] at s2;rw [skN h4,h4] at s3;rw [skN h5,h5] at s4;clear h1 h2 h3 h4 h5;unfold atN
 cases h6:isF L (nmA L a false) (nmB L a false) 3 tLp with
 | true=>
  obtain ⟨h7,h8⟩:=vgd h6;have h9:a<=nmA L a false:=y13;have m:=ze5 (Γ:=Γ) L rec (nmA L a false+1) H.len h7 (fun i=>H.mono i false) (fun i hi=>H.run i false (by omega));rw [h6,skT h6] at s5;clear H h6 h7 h9;rw [cond_true];rw [h8] at nm s5;clear h8;generalize anF L rec (nmA L a false+1)=r at *;generalize nmA L a false=a1 at *;generalize nmS L a false=n at *;obtain ⟨l,a',b'⟩:=r;refine xgj.run [] Go.Proofs.Tryz.func122 rfl rfl ?_;simp only [Go.Proofs.Tryz.f122];refine hgR ?_
  repeat' ((first | refine hfk ?_ ?_<;>intros | refine hik ?_)<;>refine hgS ?_)
  refine xmn [0] k rfl (by decide) rfl rfl rfl ?_;refine hg ?_
  repeat' ((first | refine hfk ?_ ?_<;>intros | refine hik ?_)<;>refine hgS ?_)
  refine xmn [0] s rfl (by decide) rfl rfl rfl ?_;refine hg ?_
  repeat' ((first | refine hfk ?_ ?_<;>intros | refine hik ?_)<;>refine hgS ?_)
  refine xmn [0] s2 rfl (by decide) rfl rfl rfl ?_;refine hg ?_
  repeat' ((first | refine hfk ?_ ?_<;>intros | refine hik ?_)<;>refine hgS ?_)
  refine xmn [0] s3 rfl (by decide) rfl rfl rfl ?_;refine hg ?_
  repeat' ((first | refine hfk ?_ ?_<;>intros | refine hik ?_)<;>refine hgS ?_)
  refine xmn [0] s4 rfl (by decide) rfl rfl rfl ?_;refine hg ?_
  repeat' ((first | refine hfk ?_ ?_<;>intros | refine hik ?_)<;>refine hgS ?_)
  refine xmn [0] nm rfl (by decide) rfl rfl rfl ?_;refine hg ?_
  repeat' ((first | refine hfk ?_ ?_<;>intros | refine hik ?_)<;>refine hgS ?_)
  refine xmn [0] s5 rfl (by decide) rfl rfl rfl ?_;refine hg ?_
  repeat' ((first | refine hfk ?_ ?_<;>intros | refine hik ?_)<;>refine hgS ?_)
  refine xmn [0] m rfl (by decide) rfl rfl rfl ?_;refine hg ?_
  repeat' ((first | refine hfk ?_ ?_<;>intros | refine hik ?_)<;>refine hgS ?_)
  exact StH.done 1 rfl (by kernel_rfl) rfl rfl
 | false=>
  rw [h6,skN h6] at s5;clear H h6;rw [cond_false];generalize nmA L a false=a1 at *;generalize nmB L a false=b1 at *;generalize nmS L a false=n at *;refine xgj.run [] Go.Proofs.Tryz.func122 rfl rfl ?_;simp only [Go.Proofs.Tryz.f122];refine hgR ?_
  repeat' ((first | refine hfk ?_ ?_<;>intros | refine hik ?_)<;>refine hgS ?_)
  refine xmn [0] k rfl (by decide) rfl rfl rfl ?_;refine hg ?_
  repeat' ((first | refine hfk ?_ ?_<;>intros | refine hik ?_)<;>refine hgS ?_)
  refine xmn [0] s rfl (by decide) rfl rfl rfl ?_;refine hg ?_
  repeat' ((first | refine hfk ?_ ?_<;>intros | refine hik ?_)<;>refine hgS ?_)
  refine xmn [0] s2 rfl (by decide) rfl rfl rfl ?_;refine hg ?_
  repeat' ((first | refine hfk ?_ ?_<;>intros | refine hik ?_)<;>refine hgS ?_)
  refine xmn [0] s3 rfl (by decide) rfl rfl rfl ?_;refine hg ?_
  repeat' ((first | refine hfk ?_ ?_<;>intros | refine hik ?_)<;>refine hgS ?_)
  refine xmn [0] s4 rfl (by decide) rfl rfl rfl ?_;refine hg ?_
  repeat' ((first | refine hfk ?_ ?_<;>intros | refine hik ?_)<;>refine hgS ?_)
  refine xmn [0] nm rfl (by decide) rfl rfl rfl ?_;refine hg ?_
  repeat' ((first | refine hfk ?_ ?_<;>intros | refine hik ?_)<;>refine hgS ?_)
  refine xmn [0] s5 rfl (by decide) rfl rfl rfl ?_;refine hg ?_
  repeat' ((first | refine hfk ?_ ?_<;>intros | refine hik ?_)<;>refine hgS ?_)
  exact xsj 1 rfl (by kernel_rfl) rfl
theorem xwc (L:List Tk) (rec:Nat->Bool->Rd) (a:Nat) (b:Bool) (ha:a<=L.length) (H:vp2 Γ L rec a):w3k Γ L a b (ydv L rec a b):=by
 unfold ydv
 cases b with
 | true=>exact xqc L a
 | false=>
  rw [cond_false]
  cases h1:kdF L a false 1 with
  | true=>exact zkz L a H.len h1
  | false=>
   rw [cond_false]
   cases h2:isF L a false 3 tLp with
   | true=>exact xay L rec a h1 h2 H
   | false=>
    rw [cond_false]
    cases h3:isF L a false 0 zyd with
    | true=>exact zzu L rec a h1 h2 h3 H
    | false=>
     rw [cond_false]
     cases h4:isF L a false 0 tMin with
     | true=>exact vre L rec a h1 h2 h3 h4 H
     | false=>
      rw [cond_false]
      cases h5:isF L a false 0 tMax with
      | true=>exact v8n L rec a h1 h2 h3 h4 h5 H
      | false=>exact wlp L rec a ha h1 h2 h3 h4 h5 H
theorem vfx {P:Program} (φ:List Nat) (heff:List (Nat×SB)) {f:FuncId} {η ηs ηs':List SB} {args l:List SV} {res:SV} {K:Bool->List Nat->List (Nat×SB)->SV->Prop} (h:xgj Γ P f ηs args ηs' res) (hl:args.map (x09 (atR φ η.length))=l) (hn:φ.Nodup) (hb:(φ.all fun j=>Nat.blt j η.length)=true)
 (hp:φ.map (fun j=>η[j]?)=ηs.map (fun x=>some (rnSB (atR φ η.length) x))) (hlen:Nat.ble φ.length ηs'.length=true) (he:putR φ η ηs'=appL heff η) (hk:K true (List.range η.length) heff (rnSV (atR φ η.length) res)):wmt Γ P f η l K:=by
 refine yjt heff ?_ hk;rw [<-he,<-hl];exact xgj.at φ h hn hb hp hlen
theorem pc2:((2:Nat):Int)=2:=rfl
abbrev tNot:ByteArray:=⟨#[110,111,116]⟩
abbrev tIf:ByteArray:=⟨#[105,102]⟩
abbrev yra:ByteArray:=⟨#[116,104,101,110]⟩
abbrev zrx:ByteArray:=⟨#[101,108,115,101]⟩
def ifB (L:List Tk) (rec:Nat->Bool->Rd) (p:Rd) (t:ByteArray):Rd:=ydv L rec (skF L p.2.1 p.2.2 0 t) (!isF L p.2.1 p.2.2 0 t)
def ifR (L:List Tk) (rec:Nat->Bool->Rd) (a:Nat):Rd:=
 (.mk 5 0 ⟨#[]⟩ ⟨#[]⟩ [(ydv L rec a false).1,(ifB L rec (ydv L rec a false) yra).1,(ifB L rec (ifB L rec (ydv L rec a false) yra) zrx).1],(ifB L rec (ifB L rec (ydv L rec a false) yra) zrx).2)
def opM (L:List Tk) (rec:Nat->Bool->Rd) (x:Rd):Rd:=match opNx L x.2.1 x.2.2 with
 | none=>x
 | some i=>(.mk i 0 ⟨#[]⟩ ⟨#[]⟩ [x.1,(ydv L rec (x.2.1+1) x.2.2).1],(ydv L rec (x.2.1+1) x.2.2).2)
def yi8 (L:List Tk) (rec:Nat->Bool->Rd) (a:Nat) (b:Bool):Rd:=
 bif b then (zE,a,true) else
 bif isF L a false 0 tNot then (.mk 4 0 ⟨#[]⟩ ⟨#[]⟩ [(ydv L rec (a+1) false).1],(ydv L rec (a+1) false).2) else
 bif isF L a false 0 tIf then ifR L rec (a+1) else
 opM L rec (ydv L rec a false)
abbrev zs5 (Γ:List (Nat×List Cell)) (L:List Tk) (a:Nat) (b:Bool) (r:Rd):Prop:=xgj Γ prog 101 [rdF L a b] [.one (.ptr 0 0)] [rdF L r.2.1 r.2.2] (.agg ((exC r.1).map .dat))
theorem xdh {e η η':List SB} {l:List HC} {cs:List Cell} {bs:List Nat} {σ':List SV} (m:Nat) (h:znb η [.agg l]=some ([.agg cs],bs)) (hm:Nat.ble e.length m=true) (hc:vxf m [SV.agg (cs.map .dat)] (appL (frzE η bs) η)=true) (hσ:[SV.agg (cs.map .dat)]=σ') (hη:(appL (frzE η bs) η).take m=η') :
 StH Γ e [.agg l] η σ' η':=
 StH.trans (StH.frzA h rfl (fun l h=>by cases h) (fun l h=>by cases h)) (StH.done m hm hc hσ hη)
theorem v38 {o:Int} {l:List Ex} {rows:List (List Cell)} (h:l.map Ex.cells=rows):[SV.agg [.dat (cI o),.dat (cI 0),.dat (cS ⟨#[]⟩),.dat (cS ⟨#[]⟩),.dat (.sl 5 rows)]]=[SV.agg ((exC (.mk o 0 ⟨#[]⟩ ⟨#[]⟩ l)).map .dat)]:=by
 rw [<-h];rfl
theorem wmd (L:List Tk) (a:Nat) (hl:L.length<=1073741824) (h1:isF L a false 0 tNot=true) (r:Rd) (m:w3k Γ L (a+1) false r):zs5 Γ L a false (.mk 4 0 ⟨#[]⟩ ⟨#[]⟩ [r.1],r.2):=by
 have s:=vzj (Γ:=Γ) L a false 0 tNot hl;rw [skT h1,h1] at s;obtain ⟨x,a',b'⟩:=r;unfold w3k at m;refine xgj.run [] Go.Proofs.Tryz.func101 rfl rfl ?_;simp only [Go.Proofs.Tryz.f101];refine hgR ?_
 repeat' ((first | refine hfk ?_ ?_<;>intros | refine hik ?_)<;>refine hgS ?_)
 refine xmn [0] s rfl (by decide) rfl rfl rfl ?_;refine hg ?_
 repeat' ((first | refine hfk ?_ ?_<;>intros | refine hik ?_)<;>refine hgS ?_)
 refine xmn [0] m rfl (by decide) rfl rfl rfl ?_;refine hg ?_
 repeat' ((first | refine hfk ?_ ?_<;>intros | refine hik ?_)<;>refine hgS ?_)
 exact StH.done 1 rfl (by kernel_rfl) (v38 (by simp only [List.map_cons,List.map_nil,Ex.wrj])) rfl
theorem w6w (L:List Tk) (a:Nat) (hl:L.length<=1073741824) (h1:isF L a false 0 tNot=false) (h2:isF L a false 0 tIf=true) (p q r:Rd) (m:w3k Γ L (a+1) false p)
 (m1:w3k Γ L (skF L p.2.1 p.2.2 0 yra) (!isF L p.2.1 p.2.2 0 yra) q) (m2:w3k Γ L (skF L q.2.1 q.2.2 0 zrx) (!isF L q.2.1 q.2.2 0 zrx) r):zs5 Γ L a false (.mk 5 0 ⟨#[]⟩ ⟨#[]⟩ [p.1,q.1,r.1],r.2):=by
 have s:=vzj (Γ:=Γ) L a false 0 tNot hl;have s1:=vzj (Γ:=Γ) L a false 0 tIf hl;have n1:=zho (Γ:=Γ) L p.2.1 p.2.2 0 yra hl;have n2:=zho (Γ:=Γ) L q.2.1 q.2.2 0 zrx hl;rw [skN h1,h1] at s;rw [skT h2,h2] at s1;obtain ⟨x,a1,b1⟩:=p;obtain ⟨y,a2,b2⟩:=q;obtain ⟨z,a',b'⟩:=r;unfold w3k at m m1 m2;simp only at m m1 m2 n1 n2;generalize skF L a1 b1 0 yra=i1 at *;generalize (!isF L a1 b1 0 yra)=c1 at *;generalize skF L a2 b2 0 zrx=i2 at *;generalize (!isF L a2 b2 0 zrx)=c2 at *;clear h1 h2;refine xgj.run [(6,[.own])] Go.Proofs.Tryz.func101 rfl rfl ?_;simp only [Go.Proofs.Tryz.f101];refine hgR ?_
 repeat' ((first | refine hfk ?_ ?_<;>intros | refine hik ?_ | with_reducible refine z7r ?_ | with_reducible refine wd2 ?_)<;>refine hgS ?_)
 refine xmn [0] s rfl (by decide) rfl rfl rfl ?_;refine hg3 @pc2 @decide_true @decide_false ?_
 repeat' ((first | refine hfk ?_ ?_<;>intros | refine hik ?_ | with_reducible refine z7r ?_ | with_reducible refine wd2 ?_)<;>refine hgS ?_)
 refine xmn [0] s1 rfl (by decide) rfl rfl rfl ?_;refine hg3 @pc2 @decide_true @decide_false ?_
 repeat' ((first | refine hfk ?_ ?_<;>intros | refine hik ?_ | with_reducible refine z7r ?_ | with_reducible refine wd2 ?_)<;>refine hgS ?_)
 refine xmn [0] m rfl (by decide) rfl rfl rfl ?_;refine hg3 @pc2 @decide_true @decide_false ?_
 repeat' ((first | refine hfk ?_ ?_<;>intros | refine hik ?_ | with_reducible refine z7r ?_ | with_reducible refine wd2 ?_)<;>refine hgS ?_)
 refine xmn [0] n1 rfl (by decide) rfl rfl rfl ?_;refine hg3 @pc2 @decide_true @decide_false ?_
 repeat' ((first | refine hfk ?_ ?_<;>intros | refine hik ?_ | with_reducible refine z7r ?_ | with_reducible refine wd2 ?_)<;>refine hgS ?_)
 refine vfx [0] [(0,rdF L a2 b2)] m1 rfl (by decide) rfl rfl rfl rfl ?_;refine hg3 @pc2 @decide_true @decide_false ?_
 repeat' ((first | refine hfk ?_ ?_<;>intros | refine hik ?_ | with_reducible refine z7r ?_ | with_reducible refine wd2 ?_)<;>refine hgS ?_)
 refine xmn [0] n2 rfl (by decide) rfl rfl rfl ?_;refine hg3 @pc2 @decide_true @decide_false ?_
 repeat' ((first | refine hfk ?_ ?_<;>intros | refine hik ?_ | with_reducible refine z7r ?_ | with_reducible refine wd2 ?_)<;>refine hgS ?_)
 refine vfx [0] [(0,rdF L a' b')] m2 rfl (by decide) rfl rfl rfl rfl ?_;refine hg3 @pc2 @decide_true @decide_false ?_
 repeat' ((first | refine hfk ?_ ?_<;>intros | refine hik ?_ | with_reducible refine z7r ?_ | with_reducible refine wd2 ?_)<;>refine hgS ?_)
 exact xdh (bs:=[5]) 1 rfl rfl (by kernel_rfl) (v38 (by simp only [List.map_cons,List.map_nil,Ex.wrj])) rfl
theorem yla (L:List Tk) (a:Nat) (hl:L.length<=1073741824) (h1:isF L a false 0 tNot=false) (h2:isF L a false 0 tIf=false) (x:Ex) (a1:Nat) (b1:Bool) (R:Rd) (m:w3k Γ L a false (x,a1,b1))
 (m1:∀ i,opNx L a1 b1=some i->w3k Γ L (a1+1) b1 R):zs5 Γ L a false (match opNx L a1 b1 with
   | none=>(x,a1,b1)
   | some i=>(.mk i 0 ⟨#[]⟩ ⟨#[]⟩ [x,R.1],R.2)):=by
 have s:=vzj (Γ:=Γ) L a false 0 tNot hl;have s1:=vzj (Γ:=Γ) L a false 0 tIf hl;have o:=y57 (Γ:=Γ) L a1 b1 hl;rw [skN h1,h1] at s;rw [skN h2,h2] at s1;clear h1 h2;unfold w3k at m;simp only at m
 cases hop:opNx L a1 b1 with
 | none=>
  rw [hop] at o;clear m1 hop;unfold opR at o;refine xgj.run [] Go.Proofs.Tryz.func101 rfl rfl ?_;simp only [Go.Proofs.Tryz.f101];refine hgR ?_
  repeat' ((first | refine hfk ?_ ?_<;>intros | refine hik ?_)<;>refine hgS ?_)
  refine xmn [0] s rfl (by decide) rfl rfl rfl ?_;refine hg ?_
  repeat' ((first | refine hfk ?_ ?_<;>intros | refine hik ?_)<;>refine hgS ?_)
  refine xmn [0] s1 rfl (by decide) rfl rfl rfl ?_;refine hg ?_
  repeat' ((first | refine hfk ?_ ?_<;>intros | refine hik ?_)<;>refine hgS ?_)
  refine xmn [0] m rfl (by decide) rfl rfl rfl ?_;refine hg ?_
  repeat' ((first | refine hfk ?_ ?_<;>intros | refine hik ?_)<;>refine hgS ?_)
  refine xmn [0] o rfl (by decide) rfl rfl rfl ?_;refine hg ?_
  repeat' ((first | refine hfk ?_ ?_<;>intros | refine hik ?_)<;>refine hgS ?_)
  exact StH.done 1 rfl (by kernel_rfl) rfl rfl
 | some i=>
  have m1:=m1 i hop;rw [hop] at o;clear hop;obtain ⟨y,a',b'⟩:=R;unfold w3k at m1;simp only at m1;unfold opR at o;refine xgj.run [] Go.Proofs.Tryz.func101 rfl rfl ?_;simp only [Go.Proofs.Tryz.f101];refine hgR ?_
  repeat' ((first | refine hfk ?_ ?_<;>intros | refine hik ?_)<;>refine hgS ?_)
  refine xmn [0] s rfl (by decide) rfl rfl rfl ?_;refine hg ?_
  repeat' ((first | refine hfk ?_ ?_<;>intros | refine hik ?_)<;>refine hgS ?_)
  refine xmn [0] s1 rfl (by decide) rfl rfl rfl ?_;refine hg ?_
  repeat' ((first | refine hfk ?_ ?_<;>intros | refine hik ?_)<;>refine hgS ?_)
  refine xmn [0] m rfl (by decide) rfl rfl rfl ?_;refine hg ?_
  repeat' ((first | refine hfk ?_ ?_<;>intros | refine hik ?_)<;>refine hgS ?_)
  refine xmn [0] o rfl (by decide) rfl rfl rfl ?_;refine hg ?_
  repeat' ((first | refine hfk ?_ ?_<;>intros | refine hik ?_)<;>refine hgS ?_)
  refine vfx [0] [(0,rdF L a' b')] m1 rfl (by decide) rfl rfl rfl rfl ?_;refine hg ?_
  repeat' ((first | refine hfk ?_ ?_<;>intros | refine hik ?_)<;>refine hgS ?_)
  exact StH.done 1 rfl (by kernel_rfl) (v38 (by simp only [List.map_cons,List.map_nil,Ex.wrj])) rfl
end Go.Hp.T
namespace Go.Hp
open Go Go.RowKit Go.Slot
variable {P:Program} {Γ:List (Nat×List Cell)}
theorem xzj {n b:Nat}:¬okB (List.replicate n .fresh) b:=fun ⟨x,h,hx⟩=>by
 rw [List.getElem?_replicate] at h;split at h
 . cases h;exact hx rfl
 . cases h
theorem xgj.vtx (n : Nat) {f : FuncId} {sl : List SV} {η' : List SB} {res : SV} (hs : ∀ ρ M w vs, SRL (List.replicate n .fresh) ρ M w vs sl → SRL [] ρ M w vs sl) (h : xgj Γ P f [] sl η' res) : xgj Γ P f (List.replicate n .fresh) sl η' res := by
 refine ⟨h.1,fun Mo ρ w vs hI hr=>?_⟩
 have eM:MX Mo ρ (List.replicate n .fresh)=MX Mo ρ []:=by
  funext b o
  refine propext ⟨fun h=>?_,fun h=>?_⟩
  . rcases h with h | ⟨i,x,h1,h2,_⟩
    . exact .inl h
    . rw [List.getElem?_replicate] at h1;split at h1
      . cases h1;cases h2
      . cases h1
  . rcases h with h | ⟨i,x,h1,_⟩
    . exact .inl h
    . simp at h1
 have eX:∀ k,¬Xb ρ (List.replicate n .fresh) k:=fun k ⟨i,x,h1,h2,_⟩=>by
  rw [List.getElem?_replicate] at h1;split at h1
  . cases h1;cases h2
  . cases h1
 have eX0:∀ k,¬Xb ρ [] k:=fun k ⟨i,x,h1,_⟩=>by simp at h1
 have hI0:HInv Γ Mo ρ [] w:=⟨hI.bnd,fun i x h=>by simp at h,fun i j x y h=>by simp at h,fun i x h=>by simp at h,by rw [<-eM];exact hI.glob⟩;rw [eM] at hr;refine (h.2 Mo ρ w vs hI0 (hs _ _ _ _ hr)).mono (fun e w' ⟨v,ρ',h1,h2,h3⟩=>⟨v,ρ',h1,?_,h3⟩)
 exact ⟨fun b hb=>absurd hb xzj,fun b hb=>absurd hb xzj,by rw [eM];exact h2.keep,h2.grow,h2.inv,h2.size,h2.os,h2.tape,h2.output,fun k hk _=>h2.frame k hk (eX0 k),fun k hk=>by
  rcases h2.fresh k hk with h | h
  . exact .inl h
  . exact absurd h (eX0 k)⟩
theorem wj5 (r:Nat->Nat) (cs:List Cell) (T:Option TypeId):rnSB r (.box (cs.map .dat) T)=.box (cs.map .dat) T:=by
 show SB.box ((cs.map HC.dat).map (rnHC r)) T=_;rw [List.map_map];rfl
end Go.Hp
namespace Go.Hp.T
open Go Go.RowKit Go.Slot Go.Hp Go.Slot.T
open Go.Proofs.Tryz (prog)
attribute [local irreducible] hide RH
set_option maxRecDepth 10000
set_option maxHeartbeats 8000000
variable {Γ:List (Nat×List Cell)}
abbrev cloB (cs:List Cell) (T:Option TypeId) (f:FuncId):List SB:=[.box (cs.map .dat) T,.clo f [.one (.ptr 0 0)]]
theorem zbu {cs:List Cell} {T:Option TypeId} {f:FuncId} {a:List HC} {res:Cell} (ha:∀ r,a.map (rnHC r)=a) (h:xgj Γ prog f [.box (cs.map .dat) T] [.agg a,.one (.ptr 0 0)] [.box (cs.map .dat) T] (.one (.dat res))) :
 xgj Γ prog f (cloB cs T f) [.agg a,.one (.ptr 0 0)] (cloB cs T f) (.one (.dat res)):=
 xgj.preN (ξ:=[.clo f [.one (.ptr 0 0)]]) h (fun r hr=>by
  show [rnSB r (.box (cs.map .dat) T)]=_
  rw [wj5]) (by
  show [SV.agg (a.map (rnHC _)),SV.one (.ptr (atR (List.range 1) 2 0) 0)]=_
  rw [ha];rfl) rfl
theorem yjx (cs:List Cell) (T0:Option TypeId) (g:FuncId) (l:List Fnc) (p:Fnc->Bool) (hl:l.length<=1073741824) (h:∀ y∈l,xgj Γ prog g (cloB cs T0 g) [.agg ((fncC y).map .dat),.one (.ptr 0 0)] (cloB cs T0 g) (.one (.dat (cB (p y))))) :
 xgj Γ prog 71 (cloB cs T0 g) [.one (.dat (.sl 7 (l.map Fnc.C))),.one (.fnr 1)] (cloB cs T0 g) (.one (.dat (cI (idxF p l)))):=by
 refine xgj.run [] Go.Proofs.Tryz.func71 rfl rfl ?_;simp only [Go.Proofs.Tryz.f71];refine hgR ?_;refine yxw [0,1,7] (fun i:Nat=>[(8,.one (.dat (cI i)))]) (fun _=>cloB cs T0 g) (fun i=>i<=l.length/\∀ j,j<i->p (l.getD j default)=false) (fun i=>l.length-i) 0 ⟨Nat.zero_le _,fun j hj=>by omega⟩ ?_ ?_
 . refine hg ?_;exact StH.same svl rfl
 intro i hi;obtain ⟨hi,hj⟩:=hi;refine hg ?_;refine xw4 (fun hlt _=>?_) (fun hlt _=>?_)
 . have hlt':i<l.length:=by omega
   have hb:=h _ (xdq hlt');refine hg ?_
   repeat' ((first | refine hfk ?_ ?_<;>intros | refine hik ?_)<;>refine hgS ?_)
   refine wq6 hb ?_;generalize hp:p (l.getD i default)=q at *;clear hb;refine hg ?_
   repeat' ((first | refine hfk ?_ ?_<;>intros | refine hik ?_)<;>refine hgS ?_)
   . rename_i hq;rw [(xjj hi hj).2 hlt' (by rw [hp];exact hq)];exact StH.same svl rfl
   . rename_i hq;exact ⟨i+1,⟨by omega,w9q hj (by rw [hp];simpa using hq)⟩,by omega,StH.same svl rfl⟩
 . rw [(xjj hi hj).1 (by omega)];refine hg ?_
   repeat' ((first | refine hfk ?_ ?_<;>intros | refine hik ?_)<;>refine hgS ?_)
   exact StH.same svl rfl
theorem y29 (cs:List Cell) (T0:Option TypeId) (g:FuncId) (l:List Prm) (p:Prm->Bool) (hl:l.length<=1073741824) (h:∀ y∈l,xgj Γ prog g (cloB cs T0 g) [.agg ((prmC y).map .dat),.one (.ptr 0 0)] (cloB cs T0 g) (.one (.dat (cB (p y))))) :
 xgj Γ prog 78 (cloB cs T0 g) [.one (.dat (.sl 2 (l.map Prm.C))),.one (.fnr 1)] (cloB cs T0 g) (.one (.dat (cI (idxF p l)))):=by
 refine xgj.run [] Go.Proofs.Tryz.func78 rfl rfl ?_;simp only [Go.Proofs.Tryz.f78];refine hgR ?_;refine yxw [0,1,7] (fun i:Nat=>[(8,.one (.dat (cI i)))]) (fun _=>cloB cs T0 g) (fun i=>i<=l.length/\∀ j,j<i->p (l.getD j default)=false) (fun i=>l.length-i) 0 ⟨Nat.zero_le _,fun j hj=>by omega⟩ ?_ ?_
 . refine hg ?_;exact StH.same svl rfl
 intro i hi;obtain ⟨hi,hj⟩:=hi;refine hg ?_;refine xw4 (fun hlt _=>?_) (fun hlt _=>?_)
 . have hlt':i<l.length:=by omega
   have hb:=h _ (xdq hlt');refine hg ?_
   repeat' ((first | refine hfk ?_ ?_<;>intros | refine hik ?_)<;>refine hgS ?_)
   refine wq6 hb ?_;generalize hp:p (l.getD i default)=q at *;clear hb;refine hg ?_
   repeat' ((first | refine hfk ?_ ?_<;>intros | refine hik ?_)<;>refine hgS ?_)
   . rename_i hq;rw [(xjj hi hj).2 hlt' (by rw [hp];exact hq)];exact StH.same svl rfl
   . rename_i hq;exact ⟨i+1,⟨by omega,w9q hj (by rw [hp];simpa using hq)⟩,by omega,StH.same svl rfl⟩
 . rw [(xjj hi hj).1 (by omega)];refine hg ?_
   repeat' ((first | refine hfk ?_ ?_<;>intros | refine hik ?_)<;>refine hgS ?_)
   exact StH.same svl rfl
theorem xef (cs:List Cell) (T0:Option TypeId) (g:FuncId) (l:List Prm) (p:Prm->Bool) (hl:l.length<=1073741824) (h:∀ y∈l,xgj Γ prog g (cloB cs T0 g) [.agg ((prmC y).map .dat),.one (.ptr 0 0)] (cloB cs T0 g) (.one (.dat (cB (p y))))) :
 xgj Γ prog 54 (cloB cs T0 g) [.one (.dat (.sl 2 (l.map Prm.C))),.one (.fnr 1)] (cloB cs T0 g) (.one (.dat (cB (l.any p)))):=by
 have h2:=y29 (Γ:=Γ) cs T0 g l p hl h;rw [<-z1b];generalize idxF p l=j at *;refine xgj.run [] Go.Proofs.Tryz.func54 rfl rfl ?_;simp only [Go.Proofs.Tryz.f54];refine hgR ?_
 repeat' ((first | refine hfk ?_ ?_<;>intros | refine hik ?_)<;>refine hgS ?_)
 refine wq6 h2 ?_;clear h2 h;refine hg ?_
 repeat' ((first | refine hfk ?_ ?_<;>intros | refine hik ?_)<;>refine hgS ?_)
 exact StH.same svl rfl
theorem x7q (f:Fnc) (s:ByteArray) (T:Option TypeId):xgj Γ prog 72 [.box [.dat (cS s)] T] [.agg ((fncC f).map .dat),.one (.ptr 0 0)] [.box [.dat (cS s)] T] (.one (.dat (cB (seq f.name s)))):=by
 refine xgj.run [] Go.Proofs.Tryz.func72 rfl rfl ?_;simp only [Go.Proofs.Tryz.f72];refine hgR ?_
 repeat' ((first | refine hfk ?_ ?_<;>intros | refine hik ?_)<;>refine hgS ?_)
 exact StH.done 1 rfl (by kernel_rfl) rfl rfl
theorem vzr (F:List Fnc) (s:ByteArray) (hF:F.length<=1073741824):CallsD Γ prog 43 [.one (.sl 7 (F.map Fnc.C)),.one (cS s)] (.one (cI (findF F s))):=by
 have h:=yjx (Γ:=Γ) [cS s] (some 9) 72 F (fun f=>seq f.name s) hF (fun y _=>zbu (fun r=>by rw [List.map_map];rfl) (x7q y s _));unfold findF;generalize idxF (fun f=>seq f.name s) F=j at *;refine CallsD.run [(1,[.clo])] Go.Proofs.Tryz.func43 rfl rfl rfl ?_;simp only [Go.Proofs.Tryz.f43];refine hgR ?_
 repeat' ((first | refine hfk ?_ ?_<;>intros | refine hik ?_)<;>refine hgS ?_)
 refine xmn [0,1] h rfl (by decide) rfl rfl rfl ?_;refine hg ?_
 repeat' ((first | refine hfk ?_ ?_<;>intros | refine hik ?_)<;>refine hgS ?_)
 exact RLe.ofEq rfl
theorem wia (q:Prm) (s:ByteArray) (T:Option TypeId):xgj Γ prog 79 [.box [.dat (cS s)] T] [.agg ((prmC q).map .dat),.one (.ptr 0 0)] [.box [.dat (cS s)] T] (.one (.dat (cB (seq q.name s)))):=by
 refine xgj.run [] Go.Proofs.Tryz.func79 rfl rfl ?_;simp only [Go.Proofs.Tryz.f79];refine hgR ?_
 repeat' ((first | refine hfk ?_ ?_<;>intros | refine hik ?_)<;>refine hgS ?_)
 exact StH.done 1 rfl (by kernel_rfl) rfl rfl
theorem yqi (f:Fnc) (s:ByteArray) (hf:f.Sm):CallsD Γ prog 51 [.agg (fncC f),.one (cS s)] (.one (cI (wcs f s))):=by
 have h:=y29 (Γ:=Γ) [cS s] (some 9) 79 f.params (fun q=>seq q.name s) hf.len (fun y _=>zbu (fun r=>by rw [List.map_map];rfl) (wia y s _));unfold wcs;generalize idxF (fun q=>seq q.name s) f.params=j at *;refine CallsD.run [(1,[.clo])] Go.Proofs.Tryz.func51 rfl rfl rfl ?_;simp only [Go.Proofs.Tryz.f51];refine hgR ?_
 repeat' ((first | refine hfk ?_ ?_<;>intros | refine hik ?_)<;>refine hgS ?_)
 refine xmn [1,2] h rfl (by decide) rfl rfl rfl ?_;refine hg ?_
 repeat' ((first | refine hfk ?_ ?_<;>intros | refine hik ?_)<;>refine hgS ?_)
 exact RLe.ofEq rfl
abbrev somB (cs:List Cell) (T:Option TypeId) (f:FuncId) (x:Ex):List SB:=[.box (cs.map .dat) T,.clo f [.one (.ptr 0 0)],.box ((exC x).map .dat) (some 25),.box [.fnr 1] (some 33),.clo 41 [.one (.ptr 3 0)]]
theorem vim (cs:List Cell) (T0:Option TypeId) (g:FuncId) (x:Ex) (l:List Ex) (p:Ex->Bool) (hl:l.length<=1073741824) (h:∀ y∈l,xgj Γ prog 41 (somB cs T0 g x) [.agg ((exC y).map .dat),.one (.ptr 3 0)] (somB cs T0 g x) (.one (.dat (cB (p y))))) :
 xgj Γ prog 70 (somB cs T0 g x) [.one (.dat (.sl 5 (l.map Ex.cells))),.one (.fnr 4)] (somB cs T0 g x) (.one (.dat (cI (idxF p l)))):=by
 refine xgj.run [] Go.Proofs.Tryz.func70 rfl rfl ?_;simp only [Go.Proofs.Tryz.f70];refine hgR ?_;refine yxw [0,1,7] (fun i:Nat=>[(8,.one (.dat (cI i)))]) (fun _=>somB cs T0 g x) (fun i=>i<=l.length/\∀ j,j<i->p (l.getD j default)=false) (fun i=>l.length-i) 0 ⟨Nat.zero_le _,fun j hj=>by omega⟩ ?_ ?_
 . refine hg ?_;exact StH.same svl rfl
 intro i hi;obtain ⟨hi,hj⟩:=hi;refine hg ?_;refine xw4 (fun hlt _=>?_) (fun hlt _=>?_)
 . have hlt':i<l.length:=by omega
   have hb:=h _ (xdq hlt');refine hg ?_
   repeat' ((first | refine hfk ?_ ?_<;>intros | refine hik ?_)<;>refine hgS ?_)
   refine wq6 hb ?_;generalize hp:p (l.getD i default)=q at *;clear hb;refine hg ?_
   repeat' ((first | refine hfk ?_ ?_<;>intros | refine hik ?_)<;>refine hgS ?_)
   . rename_i hq;rw [(xjj hi hj).2 hlt' (by rw [hp];exact hq)];exact StH.same svl rfl
   . rename_i hq;exact ⟨i+1,⟨by omega,w9q hj (by rw [hp];simpa using hq)⟩,by omega,StH.same svl rfl⟩
 . rw [(xjj hi hj).1 (by omega)];refine hg ?_
   repeat' ((first | refine hfk ?_ ?_<;>intros | refine hik ?_)<;>refine hgS ?_)
   exact StH.same svl rfl
theorem w7d (cs:List Cell) (T0:Option TypeId) (g:FuncId) (x:Ex) (l:List Ex) (p:Ex->Bool) (hl:l.length<=1073741824) (h:∀ y∈l,xgj Γ prog 41 (somB cs T0 g x) [.agg ((exC y).map .dat),.one (.ptr 3 0)] (somB cs T0 g x) (.one (.dat (cB (p y))))) :
 xgj Γ prog 40 (somB cs T0 g x) [.one (.dat (.sl 5 (l.map Ex.cells))),.one (.fnr 4)] (somB cs T0 g x) (.one (.dat (cB (l.any p)))):=by
 have h2:=vim (Γ:=Γ) cs T0 g x l p hl h;rw [<-z1b];generalize idxF p l=j at *;refine xgj.run [] Go.Proofs.Tryz.func40 rfl rfl ?_;simp only [Go.Proofs.Tryz.f40];refine hgR ?_
 repeat' ((first | refine hfk ?_ ?_<;>intros | refine hik ?_)<;>refine hgS ?_)
 refine wq6 h2 ?_;clear h2 h;refine hg ?_
 repeat' ((first | refine hfk ?_ ?_<;>intros | refine hik ?_)<;>refine hgS ?_)
 exact StH.same svl rfl
end Go.Hp.T
