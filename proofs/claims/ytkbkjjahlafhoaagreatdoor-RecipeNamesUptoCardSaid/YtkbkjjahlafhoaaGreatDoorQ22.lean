/- The proof, part Q22: P7, P8, P9, Pk, Pl, Pm, Nc. -/
import Derived.Test.YtkbkjjahlafhoaaGreatDoorQ17
import Derived.Test.YtkbkjjahlafhoaaGreatDoorQ21
namespace Go.Hp.T
open Go Go.RowKit Go.Slot Go.Hp Go.Slot.T
open Go.Proofs.Tryz
variable {L:List Tk} {a:Nat} {k:Int} {t:ByteArray} {e η η':List SB} {bs:List Nat} {out:List Ex} {b:Bool}
attribute [local irreducible] hide RH
set_option maxRecDepth 10000
set_option maxHeartbeats 8000000
variable {Γ:List (Nat×List Cell)}
def zE:Ex:=.mk 0 0 ⟨#[]⟩ ⟨#[]⟩ []
abbrev Rd:=Ex×Nat×Bool
variable {rec:Nat->Bool->Rd}
abbrev Rds:=List Ex×Nat×Bool
abbrev tLp:ByteArray:=⟨#[40]⟩
abbrev tRp:ByteArray:=⟨#[41]⟩
abbrev tCm:ByteArray:=⟨#[44]⟩
def clF (L:List Tk) (l:List Ex) (a:Nat) (b:Bool):Rds:=(l,skF L a b 3 tRp,!isF L a b 3 tRp)
def sm1 (L:List Tk) (rec:Nat->Bool->Rd) (a:Nat) (b:Bool):Rds:=bif b then ([],a,true) else clF L [(rec a false).1] (rec a false).2.1 (rec a false).2.2
def sm2 (L:List Tk) (rec:Nat->Bool->Rd) (a:Nat) (b:Bool):Rds:=bif b then ([],a,true) else
 bif (rec a false).2.2 then ([(rec a false).1],(rec a false).2.1,true) else
 let a1:=skF L (rec a false).2.1 false 3 tCm
 let b1:=!isF L (rec a false).2.1 false 3 tCm
 clF L [(rec a false).1,(rec a1 b1).1] (rec a1 b1).2.1 (rec a1 b1).2.2
theorem zri:isF L a true k t=false:=rfl
theorem v3o:skF L a true k t=a:=rfl
theorem x35 {x:SV} {c:Cell} (m:Nat) (h:y7w η [x]=some ([.one c],bs)) (hx:∀ l,x≠.tup l) (hm:Nat.ble e.length m=true) (hc:wd9 m [SV.one (.dat c)] (appL (frzE η bs) η)=true) (hη:(appL (frzE η bs) η).take m=η') :
 StH Γ e [x] η [.one (.dat c)] η':=
 StH.trans (StH.frzA h rfl hx (fun l h=>by cases h)) (StH.done m hm hc rfl hη)
theorem zm8 (L:List Tk) (rec:Nat->Bool->Rd) (a:Nat) (b:Bool) (hl:L.length<=1073741824)
 (H:b=false->xbh Γ prog 216 [rdF L a false] [.one (.ptr 0 0)] [rdF L (rec a false).2.1 (rec a false).2.2] (.agg ((exC (rec a false).1).map .dat))) :
 xbh Γ prog 229 [rdF L a b] [.one (.ptr 0 0),.one (.dat (cI 1))] [rdF L (sm1 L rec a b).2.1 (sm1 L rec a b).2.2] (.one (.dat (.sl 5 ((sm1 L rec a b).1.map Ex.cells)))):=by
 unfold sm1
 cases b with
 | true=>
  have c:=w9y (Γ:=Γ) L a true tRp hl;rw [v3o,zri] at c;refine hEh [] func229 f229.eq_1 ?_
  (with_reducible refine x2t ?_)<;>refine hgS ?_
  refine zue c ?_;refine hg ?_;exact StH.same (.cons (.one (.dat (.nilSl _))) .nil) rfl
 | false=>
  have H:=H rfl;generalize rec a false=r at *;obtain ⟨x,a1,b1⟩:=r;simp only at H;have c:=w9y (Γ:=Γ) L a1 b1 tRp hl;refine hEh [] func229 f229.eq_1 ?_
  (with_reducible refine x2t ?_)<;>refine hgS ?_
  refine zue H ?_;refine hg ?_
  (with_reducible refine z5g ?_)<;>refine hgS ?_
  refine hca [0] c ?_;unfold clF;simp only [List.map_cons,List.map_nil,Ex.wrs];exact x35 (bs:=[1]) 1 rfl (fun l h=>by cases h) rfl (by kernel_rfl) rfl
theorem za9 (L:List Tk) (a:Nat):xbh Γ prog 216 [rdF L a true] [.one (.ptr 0 0)] [rdF L a true] (.agg ((exC zE).map .dat)):=by
 refine hEh [] func216 f216.eq_1 ?_;exact yiq 1 rfl (by kernel_rfl) rfl
theorem zbu (L:List Tk) (rec:Nat->Bool->Rd) (a:Nat) (b:Bool) (hl:L.length<=1073741824)
 (H:b=false->xbh Γ prog 216 [rdF L a false] [.one (.ptr 0 0)] [rdF L (rec a false).2.1 (rec a false).2.2] (.agg ((exC (rec a false).1).map .dat)))
 (H2:∀ c,c = !isF L (rec a false).2.1 false 3 tCm->xbh Γ prog 216 [rdF L (skF L (rec a false).2.1 false 3 tCm) c] [.one (.ptr 0 0)] [rdF L (rec (skF L (rec a false).2.1 false 3 tCm) c).2.1 (rec (skF L (rec a false).2.1 false 3 tCm) c).2.2] (.agg ((exC (rec (skF L (rec a false).2.1 false 3 tCm) c).1).map .dat))) :
 xbh Γ prog 229 [rdF L a b] [.one (.ptr 0 0),.one (.dat (cI 2))] [rdF L (sm2 L rec a b).2.1 (sm2 L rec a b).2.2] (.one (.dat (.sl 5 ((sm2 L rec a b).1.map Ex.cells)))):=by
 unfold sm2
 cases b with
 | true=>
  have c:=w9y (Γ:=Γ) L a true tRp hl;rw [v3o,zri] at c;refine hEh [] func229 f229.eq_1 ?_
  (with_reducible refine x2t ?_)<;>refine hgS ?_
  refine zue c ?_;refine hg ?_;exact StH.same (.cons (.one (.dat (.nilSl _))) .nil) rfl
 | false=>
  have H:=H rfl;have H2:=H2 _ rfl;generalize rec a false=r at *;obtain ⟨x,a1,b1⟩:=r;simp only at H H2;rw [cond_false];simp only
  cases b1 with
  | true=>
   have c:=w9y (Γ:=Γ) L a1 true tRp hl;rw [v3o,zri] at c;rw [cond_true];clear H2;refine hEh [] func229 f229.eq_1 ?_
   (with_reducible refine x2t ?_)<;>refine hgS ?_
   refine zue H ?_;refine hg ?_
   (with_reducible refine z5g ?_)<;>refine hgS ?_
   refine hca [0] c ?_;exact x35 (bs:=[1]) 1 rfl (fun l h=>by cases h) rfl (by kernel_rfl) rfl
  | false=>
   rw [cond_false];have s:=w9y (Γ:=Γ) L a1 false tCm hl;generalize skF L a1 false 3 tCm=a2 at *;generalize (!isF L a1 false 3 tCm)=b2 at *;generalize rec a2 b2=r2 at *;obtain ⟨y,a3,b3⟩:=r2;simp only at H2;have c:=w9y (Γ:=Γ) L a3 b3 tRp hl;refine hEh [] func229 f229.eq_1 ?_
   (with_reducible refine x2t ?_)<;>refine hgS ?_
   refine zue H ?_;refine hg ?_
   (with_reducible refine z5g ?_)<;>refine hgS ?_
   refine hca [0] s ?_;refine hca [0] H2 ?_
   (with_reducible refine z5g ?_)<;>refine hgS ?_
   refine hca [0] c ?_;unfold clF;simp only [List.map_cons,List.map_nil,Ex.wrs];exact x35 (bs:=[2]) 1 rfl (fun l h=>by cases h) rfl (by kernel_rfl) rfl
def anL (L:List Tk) (rec:Nat->Bool->Rd):Nat->List Ex->Nat->Bool->Rds
 | 0,out,a,b=>clF L out a b
 | n+1,out,a,b=>bif isF L a b 3 tCm then anL L rec n (out++[(rec (a+1) false).1]) (rec (a+1) false).2.1 (rec (a+1) false).2.2 else clF L out a b
def anF (L:List Tk) (rec:Nat->Bool->Rd) (a:Nat):Rds:=anL L rec L.length [(rec a false).1] (rec a false).2.1 (rec a false).2.2
theorem x20 {n:Nat} (h:isF L a b 3 tCm=false):anL L rec n out a b=clF L out a b:=by
 cases n with
 | zero=>rfl
 | succ n=>rw [anL,h];rfl
theorem xu8 {n:Nat} (h:isF L a b 3 tCm=true):anL L rec (n+1) out a b=anL L rec n (out++[(rec (a+1) false).1]) (rec (a+1) false).2.1 (rec (a+1) false).2.2:=by
 rw [anL,h];rfl
theorem x3w {b n:Nat} {l:List (List Cell)} {q:Nat} {T:Option TypeId} (hb:gB η b=.arr (.sl 5 l) q T) (hn:n=l.length):y7w η [.one (.sl b 5 0 n)]=some ([.one (.sl 5 l)],[b]):=by
 subst hn;simp [y7w,argD,xf6,hb,Cell.esz,Cell.cnt,subC]
theorem zea (L:List Tk) (rec:Nat->Bool->Rd) (a:Nat) (hl:L.length<=1073741824) (ha:a<=L.length) (hm:∀ i,i<=(rec i false).2.1)
 (H:∀ i,a<=i->i<=L.length->xbh Γ prog 216 [rdF L i false] [.one (.ptr 0 0)] [rdF L (rec i false).2.1 (rec i false).2.2] (.agg ((exC (rec i false).1).map .dat))) :
 xbh Γ prog 232 [rdF L a false] [.one (.ptr 0 0)] [rdF L (anF L rec a).2.1 (anF L rec a).2.2] (.one (.dat (.sl 5 ((anF L rec a).1.map Ex.cells)))):=by
 generalize hR:anF L rec a=R;unfold anF at hR;have H0:=H a (Nat.le_refl _) ha;have m0:=hm a;generalize rec a false=r at *;obtain ⟨x0,a0,b0⟩:=r;simp only at H0 m0 hR;refine hEh [(1,[.own])] func232 f232.eq_1 ?_;refine zue H0 ?_;clear H0;refine hg ?_;refine wf5 [0] (fun x:List Ex×Nat×Bool=>[(3,.one (.sl 1 5 0 x.1.length))]) (fun x=>[rdF L x.2.1 x.2.2,.arr (.sl 5 (x.1.map Ex.cells)) 0 (some 127)])
  (fun x=>a<=x.2.1/\x.1.length+a<=x.2.1+1/\∃ n,L.length-x.2.1<=n/\anL L rec n x.1 x.2.1 x.2.2=R) (fun x=>L.length-x.2.1) ([x0],a0,b0) ⟨m0,by simp only [List.length_singleton];omega,L.length,by omega,hR⟩ ?_ ?_
 . refine hg ?_;exact sS
 rintro ⟨out,i,b⟩ ⟨i1,i2,n,n1,hn⟩;simp only at i1 i2 n1 hn;clear hR;have sk:=yp9 (Γ:=Γ) L i b 3 tCm hl;unfold skF at sk
 cases hi:isF L i b 3 tCm with
 | true=>
  obtain ⟨hlt,rfl⟩:=vjj hi;obtain ⟨n,rfl⟩:∃ k,n=k+1:=⟨n-1,by omega⟩;have H1:=H (i+1) (by omega) (by omega);have m1:=hm (i+1);rw [xu8 hi] at hn;rw [hi] at sk;clear hi H hm;generalize rec (i+1) false=r at *;obtain ⟨y,i',b'⟩:=r;simp only [cond_true] at H1 m1 hn sk;refine hg ?_;refine hca [0] sk ?_;refine yru [0] H1 rfl (by decide) rfl rfl rfl ?_;clear H1 sk;refine hg ?_;refine ⟨(out++[y],i',b'),⟨by dsimp only;omega,by simp only [List.length_append,List.length_singleton];omega,n,by dsimp only;omega,hn⟩,by dsimp only;omega,?_⟩;refine StH.back [0,3] 1 2 2 rfl rfl rfl rfl rfl (by kernel_rfl) ?_;simp only [List.map_append,List.map_cons,List.map_nil,Ex.wrs];refine hg2 @List.length_append.{0} @List.length_singleton.{0} ?_;exact sS
 | false=>
  rw [x20 hi] at hn;rw [hi] at sk;clear H hm hi;unfold clF at hn;subst hn;have c:=w9y (Γ:=Γ) L i b tRp hl;simp only [cond_false] at sk;refine hg ?_;refine hca [0] sk ?_;refine hca [0] c ?_;exact x35 (bs:=[1]) 1 (x3w rfl (List.length_map _).symm) (fun l h=>by cases h) rfl (by kernel_rfl) rfl
abbrev zvi:ByteArray:=⟨#[108,111,111,107]⟩
abbrev tMin:ByteArray:=⟨#[109,105,110]⟩
abbrev tMax:ByteArray:=⟨#[109,97,120]⟩
def nmA (L:List Tk) (a:Nat) (b:Bool):Nat:=bif nmOk L a b then a+1 else a
def nmB (L:List Tk) (a:Nat) (b:Bool):Bool:=bif nmOk L a b then b else true
def atP (L:List Tk) (rec:Nat->Bool->Rd) (a:Nat):Rd:=bif (sm1 L rec a false).2.2 then (zE,(sm1 L rec a false).2.1,true) else ((sm1 L rec a false).1.headD zE,(sm1 L rec a false).2.1,false)
def lkA (L:List Tk) (a:Nat):Nat:=nmA L (skF L a false 3 tLp) (!isF L a false 3 tLp)
def lkB (L:List Tk) (a:Nat):Bool:=nmB L (skF L a false 3 tLp) (!isF L a false 3 tLp)
def lkS (L:List Tk) (a:Nat):ByteArray:=nmS L (skF L a false 3 tLp) (!isF L a false 3 tLp)
def lkR (L:List Tk) (rec:Nat->Bool->Rd) (a:Nat):Rds:=sm1 L rec (skF L (lkA L a) (lkB L a) 3 tCm) (!isF L (lkA L a) (lkB L a) 3 tCm)
def mmR (L:List Tk) (rec:Nat->Bool->Rd) (a:Nat):Rds:=sm2 L rec (skF L a false 3 tLp) (!isF L a false 3 tLp)
def atN (L:List Tk) (rec:Nat->Bool->Rd) (a:Nat):Rd:=
 bif isF L (nmA L a false) (nmB L a false) 3 tLp then (.mk 3 0 ⟨#[]⟩ (nmS L a false) (anF L rec (nmA L a false+1)).1,(anF L rec (nmA L a false+1)).2)
 else (.mk 1 0 ⟨#[]⟩ (nmS L a false) [],nmA L a false,nmB L a false)
def y4l (L:List Tk) (rec:Nat->Bool->Rd) (a:Nat) (b:Bool):Rd:=
 bif b then (zE,a,true) else
 bif kdF L a false 1 then (nbE L a false,nbA L a false,false) else
 bif isF L a false 3 tLp then atP L rec (a+1) else
 bif isF L a false 0 zvi then (.mk 2 0 ⟨#[]⟩ (lkS L (a+1)) (lkR L rec (a+1)).1,(lkR L rec (a+1)).2) else
 bif isF L a false 0 tMin then (.mk 10 0 ⟨#[]⟩ ⟨#[]⟩ (mmR L rec (a+1)).1,(mmR L rec (a+1)).2) else
 bif isF L a false 0 tMax then (.mk 11 0 ⟨#[]⟩ ⟨#[]⟩ (mmR L rec (a+1)).1,(mmR L rec (a+1)).2) else
 atN L rec a
structure xje (Γ:List (Nat×List Cell)) (L:List Tk) (rec:Nat->Bool->Rd) (a:Nat):Prop where
 len:L.length<=1073741824
 mono:∀ i c,i<=(rec i c).2.1
 le:∀ i c,i<=L.length->(rec i c).2.1<=L.length
 run:∀ i c,a<i->i<=L.length->xbh Γ prog 216 [rdF L i c] [.one (.ptr 0 0)] [rdF L (rec i c).2.1 (rec i c).2.2] (.agg ((exC (rec i c).1).map .dat))
abbrev vku (Γ:List (Nat×List Cell)) (L:List Tk) (a:Nat) (b:Bool) (r:Rd):Prop:=xbh Γ prog 222 [rdF L a b] [.one (.ptr 0 0)] [rdF L r.2.1 r.2.2] (.agg ((exC r.1).map .dat))
theorem wyp (h:a<=L.length):skF L a b k t<=L.length:=by
 unfold skF
 cases hi:isF L a b k t with
 | true=>have:=(vjj hi).1;exact this
 | false=>exact h
theorem ypr:a<=skF L a b k t:=by
 unfold skF
 cases isF L a b k t with
 | true=>exact Nat.le_succ _
 | false=>exact Nat.le_refl _
theorem x3x (h:a<=L.length):nmA L a b<=L.length:=by
 unfold nmA nmOk
 cases hi:kdF L a b 0 with
 | true=>have:=(w5h hi).1;cases isWord (L.getD a default).t<;>simp<;>omega
 | false=>exact h
theorem vln:a<=nmA L a b:=by
 unfold nmA
 cases nmOk L a b with
 | true=>exact Nat.le_succ _
 | false=>exact Nat.le_refl _
theorem skT (h:isF L a b k t=true):skF L a b k t=a+1:=by unfold skF;rw [h];rfl
theorem skN (h:isF L a b k t=false):skF L a b k t=a:=by unfold skF;rw [h];rfl
theorem wyq (L:List Tk) (a:Nat):vku Γ L a true (zE,a,true):=by
 refine hEh [] func222 f222.eq_1 ?_;exact yiq 1 rfl (by kernel_rfl) rfl
theorem x47 (L:List Tk) (a:Nat) (hl:L.length<=1073741824) (h:kdF L a false 1=true):vku Γ L a false (nbE L a false,nbA L a false,false):=by
 have k:=vpf (Γ:=Γ) L a false 1;have n:=ymd (Γ:=Γ) L a false hl (w5h h).1;rw [h] at k;generalize nbE L a false=x at *;generalize nbA L a false=a1 at *;refine hEh [] func222 f222.eq_1 ?_;refine hca [0] k ?_;refine hca [0] n ?_;exact StH.done 1 rfl (by kernel_rfl) rfl rfl
theorem xsp (L:List Tk) (rec:Nat->Bool->Rd) (a:Nat) (h1:kdF L a false 1=false) (h2:isF L a false 3 tLp=true) (H:xje Γ L rec a):vku Γ L a false (atP L rec (a+1)):=by
 have k:=vpf (Γ:=Γ) L a false 1;have s:=yp9 (Γ:=Γ) L a false 3 tLp H.len;have m:=zm8 (Γ:=Γ) L rec (a+1) false H.len (fun _=>H.run (a+1) false (Nat.lt_succ_self _) (vjj h2).1);rw [h1] at k;rw [skT h2,h2] at s;unfold atP;have e:sm1 L rec (a+1) false=clF L [(rec (a+1) false).1] (rec (a+1) false).2.1 (rec (a+1) false).2.2:=rfl;rw [e] at m ⊢;clear e H h1 h2;generalize rec (a+1) false=r at *;unfold clF at *;generalize skF L r.2.1 r.2.2 3 tRp=a' at *;generalize (!isF L r.2.1 r.2.2 3 tRp)=b' at *;obtain ⟨x,a1,b1⟩:=r;simp only [List.map_cons,List.map_nil,Ex.wrs] at m
 cases b' with
 | true=>
  refine hEh [] func222 f222.eq_1 ?_;refine hca [0] k ?_;refine hca [0] s ?_;refine hca [0] m ?_;exact yiq 1 rfl (by kernel_rfl) rfl
 | false=>
  refine hEh [] func222 f222.eq_1 ?_;refine hca [0] k ?_;refine hca [0] s ?_;refine hca [0] m ?_;exact StH.done 1 rfl (by kernel_rfl) rfl rfl
theorem vc4 (L:List Tk) (rec:Nat->Bool->Rd) (a:Nat) (h1:kdF L a false 1=false) (h2:isF L a false 3 tLp=false) (h3:isF L a false 0 zvi=true) (H:xje Γ L rec a) :
 vku Γ L a false (.mk 2 0 ⟨#[]⟩ (lkS L (a+1)) (lkR L rec (a+1)).1,(lkR L rec (a+1)).2):=by
 have hlt:=(vjj h3).1;have k:=vpf (Γ:=Γ) L a false 1;have s:=yp9 (Γ:=Γ) L a false 3 tLp H.len;have s2:=yp9 (Γ:=Γ) L a false 0 zvi H.len;have g1:=w9y (Γ:=Γ) L (a+1) false tLp H.len;have nm:=z3c (Γ:=Γ) L (skF L (a+1) false 3 tLp) (!isF L (a+1) false 3 tLp) H.len;have g2:=w9y (Γ:=Γ) L (lkA L (a+1)) (lkB L (a+1)) tCm H.len;have h5:a+1<=lkA L (a+1):=Nat.le_trans (ypr (b:=false) (k:=3) (t:=tLp)) vln;have h6:lkA L (a+1)<=L.length:=x3x (wyp (by omega));have m:=zm8 (Γ:=Γ) L rec (skF L (lkA L (a+1)) (lkB L (a+1)) 3 tCm) (!isF L (lkA L (a+1)) (lkB L (a+1)) 3 tCm) H.len (fun _=>H.run _ false (by have:=ypr (L:=L) (a:=lkA L (a+1)) (b:=lkB L (a+1)) (k:=3) (t:=tCm);omega) (wyp h6));change xbh _ _ _ _ _ [rdF L (lkA L (a+1)) (lkB L (a+1))] (.one (.dat (cS (lkS L (a+1))))) at nm;change xbh _ _ _ _ _ [rdF L (lkR L rec (a+1)).2.1 (lkR L rec (a+1)).2.2] (.one (.dat (.sl 5 ((lkR L rec (a+1)).1.map Ex.cells)))) at m;rw [h1] at k;rw [skN h2,h2] at s;rw [skT h3,h3] at s2;clear H h1 h2 h3 h5 h6;generalize lkR L rec (a+1)=r at *;generalize skF L (lkA L (a+1)) (lkB L (a+1)) 3 tCm=a3 at *;generalize (!isF L (lkA L (a+1)) (lkB L (a+1)) 3 tCm)=b3 at *;generalize lkA L (a+1)=a2 at *;generalize lkB L (a+1)=b2 at *;generalize lkS L (a+1)=n at *;generalize skF L (a+1) false 3 tLp=a1 at *;generalize (!isF L (a+1) false 3 tLp)=b1 at *;obtain ⟨l,a',b'⟩:=r;refine hEh [] func222 f222.eq_1 ?_;refine hca [0] k ?_;refine hca [0] s ?_;refine hca [0] s2 ?_;refine hca [0] g1 ?_;refine hca [0] nm ?_;refine hca [0] g2 ?_;refine hca [0] m ?_;exact StH.done 1 rfl (by kernel_rfl) rfl rfl
theorem vgw (L:List Tk) (rec:Nat->Bool->Rd) (a:Nat) (h1:kdF L a false 1=false) (h2:isF L a false 3 tLp=false) (h3:isF L a false 0 zvi=false) (h4:isF L a false 0 tMin=true) (H:xje Γ L rec a) :
 vku Γ L a false (.mk 10 0 ⟨#[]⟩ ⟨#[]⟩ (mmR L rec (a+1)).1,(mmR L rec (a+1)).2):=by
 have hlt:=(vjj h4).1;have k:=vpf (Γ:=Γ) L a false 1;have s:=yp9 (Γ:=Γ) L a false 3 tLp H.len;have s2:=yp9 (Γ:=Γ) L a false 0 zvi H.len;have s3:=yp9 (Γ:=Γ) L a false 0 tMin H.len;have g1:=w9y (Γ:=Γ) L (a+1) false tLp H.len;have b1:a<skF L (a+1) false 3 tLp:=ypr;have b2:skF L (a+1) false 3 tLp<=L.length:=wyp (by omega);have m:=zbu (Γ:=Γ) L rec (skF L (a+1) false 3 tLp) (!isF L (a+1) false 3 tLp) H.len (fun _=>H.run _ false b1 b2) (fun c _=>H.run _ c (Nat.lt_of_lt_of_le b1 (Nat.le_trans (H.mono _ _) ypr)) (wyp (H.le _ _ b2)));change xbh _ _ _ _ _ [rdF L (mmR L rec (a+1)).2.1 (mmR L rec (a+1)).2.2] (.one (.dat (.sl 5 ((mmR L rec (a+1)).1.map Ex.cells)))) at m;rw [h1] at k;rw [skN h2,h2] at s;rw [skN h3,h3] at s2;rw [skT h4,h4] at s3;clear H h1 h2 h3 h4 b1 b2;generalize mmR L rec (a+1)=r at *;generalize skF L (a+1) false 3 tLp=a1 at *;generalize (!isF L (a+1) false 3 tLp)=b1 at *;obtain ⟨l,a',b'⟩:=r;refine hEh [] func222 f222.eq_1 ?_;refine hca [0] k ?_;refine hca [0] s ?_;refine hca [0] s2 ?_;refine hca [0] s3 ?_;refine hca [0] g1 ?_;refine hca [0] m ?_;exact StH.done 1 rfl (by kernel_rfl) rfl rfl
theorem zrt (L:List Tk) (rec:Nat->Bool->Rd) (a:Nat) (h1:kdF L a false 1=false) (h2:isF L a false 3 tLp=false) (h3:isF L a false 0 zvi=false) (h4:isF L a false 0 tMin=false) (h5:isF L a false 0 tMax=true) (H:xje Γ L rec a) :
 vku Γ L a false (.mk 11 0 ⟨#[]⟩ ⟨#[]⟩ (mmR L rec (a+1)).1,(mmR L rec (a+1)).2):=by
 have hlt:=(vjj h5).1;have k:=vpf (Γ:=Γ) L a false 1;have s:=yp9 (Γ:=Γ) L a false 3 tLp H.len;have s2:=yp9 (Γ:=Γ) L a false 0 zvi H.len;have s3:=yp9 (Γ:=Γ) L a false 0 tMin H.len;have s4:=yp9 (Γ:=Γ) L a false 0 tMax H.len;have g1:=w9y (Γ:=Γ) L (a+1) false tLp H.len;have b1:a<skF L (a+1) false 3 tLp:=ypr;have b2:skF L (a+1) false 3 tLp<=L.length:=wyp (by omega);have m:=zbu (Γ:=Γ) L rec (skF L (a+1) false 3 tLp) (!isF L (a+1) false 3 tLp) H.len (fun _=>H.run _ false b1 b2) (fun c _=>H.run _ c (Nat.lt_of_lt_of_le b1 (Nat.le_trans (H.mono _ _) ypr)) (wyp (H.le _ _ b2)));change xbh _ _ _ _ _ [rdF L (mmR L rec (a+1)).2.1 (mmR L rec (a+1)).2.2] (.one (.dat (.sl 5 ((mmR L rec (a+1)).1.map Ex.cells)))) at m;rw [h1] at k;rw [skN h2,h2] at s;rw [skN h3,h3] at s2;rw [skN h4,h4] at s3;rw [skT h5,h5] at s4;clear H h1 h2 h3 h4 h5 b1 b2;generalize mmR L rec (a+1)=r at *;generalize skF L (a+1) false 3 tLp=a1 at *;generalize (!isF L (a+1) false 3 tLp)=b1 at *;obtain ⟨l,a',b'⟩:=r;refine hEh [] func222 f222.eq_1 ?_;refine hca [0] k ?_;refine hca [0] s ?_;refine hca [0] s2 ?_;refine hca [0] s3 ?_;refine hca [0] s4 ?_;refine hca [0] g1 ?_;refine hca [0] m ?_;exact StH.done 1 rfl (by kernel_rfl) rfl rfl
theorem v46 (L:List Tk) (rec:Nat->Bool->Rd) (a:Nat) (_ha:a<=L.length) (h1:kdF L a false 1=false) (h2:isF L a false 3 tLp=false) (h3:isF L a false 0 zvi=false) (h4:isF L a false 0 tMin=false) (h5:isF L a false 0 tMax=false) (H:xje Γ L rec a) :
 vku Γ L a false (atN L rec a):=by
 have k:=vpf (Γ:=Γ) L a false 1;have s:=yp9 (Γ:=Γ) L a false 3 tLp H.len;have s2:=yp9 (Γ:=Γ) L a false 0 zvi H.len;have s3:=yp9 (Γ:=Γ) L a false 0 tMin H.len;have s4:=yp9 (Γ:=Γ) L a false 0 tMax H.len;have nm:=z3c (Γ:=Γ) L a false H.len;have s5:=yp9 (Γ:=Γ) L (nmA L a false) (nmB L a false) 3 tLp H.len;change xbh _ _ _ _ _ [rdF L (nmA L a false) (nmB L a false)] (.one (.dat (cS (nmS L a false)))) at nm;rw [h1] at k;rw [skN h2,h2] at s;rw [skN h3,h3] at s2;rw [skN h4,h4] at s3;rw [skN h5,h5] at s4;clear h1 h2 h3 h4 h5;unfold atN
 cases h6:isF L (nmA L a false) (nmB L a false) 3 tLp with
 | true=>
  obtain ⟨h7,h8⟩:=vjj h6;have h9:a<=nmA L a false:=vln;have m:=zea (Γ:=Γ) L rec (nmA L a false+1) H.len h7 (fun i=>H.mono i false) (fun i hi=>H.run i false (by omega));rw [h6,skT h6] at s5;clear H h6 h7 h9;rw [cond_true];rw [h8] at nm s5;clear h8;generalize anF L rec (nmA L a false+1)=r at *;generalize nmA L a false=a1 at *;generalize nmS L a false=n at *;obtain ⟨l,a',b'⟩:=r;refine hEh [] func222 f222.eq_1 ?_;refine hca [0] k ?_;refine hca [0] s ?_;refine hca [0] s2 ?_;refine hca [0] s3 ?_;refine hca [0] s4 ?_;refine hca [0] nm ?_;refine hca [0] s5 ?_;refine hca [0] m ?_;exact StH.done 1 rfl (by kernel_rfl) rfl rfl
 | false=>
  rw [h6,skN h6] at s5;clear H h6;rw [cond_false];generalize nmA L a false=a1 at *;generalize nmB L a false=b1 at *;generalize nmS L a false=n at *;refine hEh [] func222 f222.eq_1 ?_;refine hca [0] k ?_;refine hca [0] s ?_;refine hca [0] s2 ?_;refine hca [0] s3 ?_;refine hca [0] s4 ?_;refine hca [0] nm ?_;refine hca [0] s5 ?_;exact yiq 1 rfl (by kernel_rfl) rfl
theorem zto (L:List Tk) (rec:Nat->Bool->Rd) (a:Nat) (b:Bool) (ha:a<=L.length) (H:xje Γ L rec a):vku Γ L a b (y4l L rec a b):=by
 unfold y4l
 cases b with
 | true=>exact wyq L a
 | false=>
  rw [cond_false]
  cases h1:kdF L a false 1 with
  | true=>exact x47 L a H.len h1
  | false=>
   rw [cond_false]
   cases h2:isF L a false 3 tLp with
   | true=>exact xsp L rec a h1 h2 H
   | false=>
    rw [cond_false]
    cases h3:isF L a false 0 zvi with
    | true=>exact vc4 L rec a h1 h2 h3 H
    | false=>
     rw [cond_false]
     cases h4:isF L a false 0 tMin with
     | true=>exact vgw L rec a h1 h2 h3 h4 H
     | false=>
      rw [cond_false]
      cases h5:isF L a false 0 tMax with
      | true=>exact zrt L rec a h1 h2 h3 h4 h5 H
      | false=>exact v46 L rec a ha h1 h2 h3 h4 h5 H
theorem wlt {P:Program} (φ:List Nat) (heff:List (Nat×SB)) {f:FuncId} {ηs ηs':List SB} {args l:List SV} {res:SV} {K:Bool->List Nat->List (Nat×SB)->SV->Prop} (h:xbh Γ P f ηs args ηs' res) (hl:args.map (xbb (atR φ η.length))=l) (hn:φ.Nodup) (hb:(φ.all fun j=>Nat.blt j η.length)=true)
 (hp:φ.map (fun j=>η[j]?)=ηs.map (fun x=>some (rnSB (atR φ η.length) x))) (hlen:Nat.ble φ.length ηs'.length=true) (he:putR φ η ηs'=appL heff η) (hk:K true (List.range η.length) heff (rnSV (atR φ η.length) res)):zgz Γ P f η l K:=by
 refine vbv heff ?_ hk;rw [<-he,<-hl];exact xbh.at φ h hn hb hp hlen
theorem pc2:((2:Nat):Int)=2:=rfl
abbrev tNot:ByteArray:=⟨#[110,111,116]⟩
abbrev tIf:ByteArray:=⟨#[105,102]⟩
abbrev yse:ByteArray:=⟨#[116,104,101,110]⟩
abbrev y4s:ByteArray:=⟨#[101,108,115,101]⟩
def ifB (L:List Tk) (rec:Nat->Bool->Rd) (p:Rd) (t:ByteArray):Rd:=y4l L rec (skF L p.2.1 p.2.2 0 t) (!isF L p.2.1 p.2.2 0 t)
def ifR (L:List Tk) (rec:Nat->Bool->Rd) (a:Nat):Rd:=
 (.mk 5 0 ⟨#[]⟩ ⟨#[]⟩ [(y4l L rec a false).1,(ifB L rec (y4l L rec a false) yse).1,(ifB L rec (ifB L rec (y4l L rec a false) yse) y4s).1],(ifB L rec (ifB L rec (y4l L rec a false) yse) y4s).2)
def opM (L:List Tk) (rec:Nat->Bool->Rd) (x:Rd):Rd:=match opNx L x.2.1 x.2.2 with
 | none=>x
 | some i=>(.mk i 0 ⟨#[]⟩ ⟨#[]⟩ [x.1,(y4l L rec (x.2.1+1) x.2.2).1],(y4l L rec (x.2.1+1) x.2.2).2)
def ytz (L:List Tk) (rec:Nat->Bool->Rd) (a:Nat) (b:Bool):Rd:=
 bif b then (zE,a,true) else
 bif isF L a false 0 tNot then (.mk 4 0 ⟨#[]⟩ ⟨#[]⟩ [(y4l L rec (a+1) false).1],(y4l L rec (a+1) false).2) else
 bif isF L a false 0 tIf then ifR L rec (a+1) else
 opM L rec (y4l L rec a false)
abbrev y41 (Γ:List (Nat×List Cell)) (L:List Tk) (a:Nat) (b:Bool) (r:Rd):Prop:=xbh Γ prog 216 [rdF L a b] [.one (.ptr 0 0)] [rdF L r.2.1 r.2.2] (.agg ((exC r.1).map .dat))
theorem vo3 {l:List HC} {cs:List Cell} {J':List SV} (m:Nat) (h:y7w η [.agg l]=some ([.agg cs],bs)) (hm:Nat.ble e.length m=true) (hc:wd9 m [SV.agg (cs.map .dat)] (appL (frzE η bs) η)=true) (hσ:[SV.agg (cs.map .dat)]=J') (hη:(appL (frzE η bs) η).take m=η') :
 StH Γ e [.agg l] η J' η':=
 StH.trans (StH.frzA h rfl (fun l h=>by cases h) (fun l h=>by cases h)) (StH.done m hm hc hσ hη)
theorem w2k {o:Int} {l:List Ex} {rows:List (List Cell)} (h:l.map Ex.cells=rows):[SV.agg [.dat (cI o),.dat (cI 0),.dat (cS ⟨#[]⟩),.dat (cS ⟨#[]⟩),.dat (.sl 5 rows)]]=[SV.agg ((exC (.mk o 0 ⟨#[]⟩ ⟨#[]⟩ l)).map .dat)]:=by
 rw [<-h];rfl
theorem wlu (L:List Tk) (a:Nat) (hl:L.length<=1073741824) (h1:isF L a false 0 tNot=true) (r:Rd) (m:vku Γ L (a+1) false r):y41 Γ L a false (.mk 4 0 ⟨#[]⟩ ⟨#[]⟩ [r.1],r.2):=by
 have s:=yp9 (Γ:=Γ) L a false 0 tNot hl;rw [skT h1,h1] at s;obtain ⟨x,a',b'⟩:=r;unfold vku at m;refine hEh [] func216 f216.eq_1 ?_;refine hca [0] s ?_;refine hca [0] m ?_;exact StH.done 1 rfl (by kernel_rfl) (w2k (by simp only [List.map_cons,List.map_nil,Ex.wrs])) rfl
theorem xdm (L:List Tk) (a:Nat) (hl:L.length<=1073741824) (h1:isF L a false 0 tNot=false) (h2:isF L a false 0 tIf=true) (p q r:Rd) (m:vku Γ L (a+1) false p)
 (m1:vku Γ L (skF L p.2.1 p.2.2 0 yse) (!isF L p.2.1 p.2.2 0 yse) q) (m2:vku Γ L (skF L q.2.1 q.2.2 0 y4s) (!isF L q.2.1 q.2.2 0 y4s) r):y41 Γ L a false (.mk 5 0 ⟨#[]⟩ ⟨#[]⟩ [p.1,q.1,r.1],r.2):=by
 have s:=yp9 (Γ:=Γ) L a false 0 tNot hl;have s1:=yp9 (Γ:=Γ) L a false 0 tIf hl;have n1:=zdt (Γ:=Γ) L p.2.1 p.2.2 0 yse hl;have n2:=zdt (Γ:=Γ) L q.2.1 q.2.2 0 y4s hl;rw [skN h1,h1] at s;rw [skT h2,h2] at s1;obtain ⟨x,a1,b1⟩:=p;obtain ⟨y,a2,b2⟩:=q;obtain ⟨z,a',b'⟩:=r;unfold vku at m m1 m2;simp only at m m1 m2 n1 n2;generalize skF L a1 b1 0 yse=i1 at *;generalize (!isF L a1 b1 0 yse)=c1 at *;generalize skF L a2 b2 0 y4s=i2 at *;generalize (!isF L a2 b2 0 y4s)=c2 at *;clear h1 h2;refine hEh [(6,[.own])] func216 f216.eq_1 ?_;refine yru [0] s rfl (by decide) rfl rfl rfl ?_;refine hg3 @pc2 @decide_true @decide_false ?_;refine yru [0] s1 rfl (by decide) rfl rfl rfl ?_;refine hg3 @pc2 @decide_true @decide_false ?_;refine yru [0] m rfl (by decide) rfl rfl rfl ?_;refine hg3 @pc2 @decide_true @decide_false ?_
 (with_reducible refine x2t ?_)<;>refine hgS ?_
 refine yru [0] n1 rfl (by decide) rfl rfl rfl ?_;refine hg3 @pc2 @decide_true @decide_false ?_;refine wlt [0] [(0,rdF L a2 b2)] m1 rfl (by decide) rfl rfl rfl rfl ?_;refine hg3 @pc2 @decide_true @decide_false ?_
 repeat' first|refine hI ?_|(with_reducible refine z5g ?_)<;>refine hgS ?_
 refine yru [0] n2 rfl (by decide) rfl rfl rfl ?_;refine hg3 @pc2 @decide_true @decide_false ?_;refine wlt [0] [(0,rdF L a' b')] m2 rfl (by decide) rfl rfl rfl rfl ?_;refine hg3 @pc2 @decide_true @decide_false ?_
 repeat' first|refine hI ?_|(with_reducible refine z5g ?_)<;>refine hgS ?_
 exact vo3 (bs:=[5]) 1 rfl rfl (by kernel_rfl) (w2k (by simp only [List.map_cons,List.map_nil,Ex.wrs])) rfl
theorem zhv (L:List Tk) (a:Nat) (hl:L.length<=1073741824) (h1:isF L a false 0 tNot=false) (h2:isF L a false 0 tIf=false) (x:Ex) (a1:Nat) (b1:Bool) (R:Rd) (m:vku Γ L a false (x,a1,b1))
 (m1:∀ i,opNx L a1 b1=some i->vku Γ L (a1+1) b1 R):y41 Γ L a false (match opNx L a1 b1 with
   | none=>(x,a1,b1)
   | some i=>(.mk i 0 ⟨#[]⟩ ⟨#[]⟩ [x,R.1],R.2)):=by
 have s:=yp9 (Γ:=Γ) L a false 0 tNot hl;have s1:=yp9 (Γ:=Γ) L a false 0 tIf hl;have o:=wg7 (Γ:=Γ) L a1 b1 hl;rw [skN h1,h1] at s;rw [skN h2,h2] at s1;clear h1 h2;unfold vku at m;simp only at m
 cases hop:opNx L a1 b1 with
 | none=>
  rw [hop] at o;clear m1 hop;unfold opR at o;refine hEh [] func216 f216.eq_1 ?_;refine hca [0] s ?_;refine hca [0] s1 ?_;refine hca [0] m ?_;refine hca [0] o ?_;exact StH.done 1 rfl (by kernel_rfl) rfl rfl
 | some i=>
  have m1:=m1 i hop;rw [hop] at o;clear hop;obtain ⟨y,a',b'⟩:=R;unfold vku at m1;simp only at m1;unfold opR at o;refine hEh [] func216 f216.eq_1 ?_;refine hca [0] s ?_;refine hca [0] s1 ?_;refine hca [0] m ?_;refine hca [0] o ?_;refine wlt [0] [(0,rdF L a' b')] m1 rfl (by decide) rfl rfl rfl rfl ?_;refine hg ?_;refine hI ?_;exact StH.done 1 rfl (by kernel_rfl) (w2k (by simp only [List.map_cons,List.map_nil,Ex.wrs])) rfl
end Go.Hp.T
namespace Go.Hp.T
open Go Go.RowKit Go.Slot Go.Hp Go.Slot.T
open Go.Proofs.Tryz (prog)
set_option maxRecDepth 10000
set_option maxHeartbeats 8000000
variable {Γ:List (Nat×List Cell)}
variable {L:List Tk} {rec:Nat->Bool->Rd} {a i:Nat}
structure Mo (L:List Tk) (rec:Nat->Bool->Rd):Prop where
 mono:∀ i c,i<=(rec i c).2.1
 le:∀ i c,i<=L.length->(rec i c).2.1<=L.length
theorem yx0 (H:Mo L rec) (a:Nat) (b:Bool):a<=(sm1 L rec a b).2.1/\(a<=L.length->(sm1 L rec a b).2.1<=L.length):=by
 unfold sm1
 cases b with
 | true=>exact ⟨Nat.le_refl _,fun h=>h⟩
 | false=>exact ⟨Nat.le_trans (H.mono a false) ypr,fun h=>wyp (H.le a false h)⟩
theorem zz8 (H:Mo L rec) (a:Nat) (b:Bool):a<=(sm2 L rec a b).2.1/\(a<=L.length->(sm2 L rec a b).2.1<=L.length):=by
 unfold sm2
 cases b with
 | true=>exact ⟨Nat.le_refl _,fun h=>h⟩
 | false=>
  rw [cond_false]
  cases (rec a false).2.2 with
  | true=>exact ⟨H.mono a false,fun h=>H.le a false h⟩
  | false=>exact ⟨Nat.le_trans (H.mono a false) (Nat.le_trans ypr (Nat.le_trans (H.mono _ _) ypr)),fun h=>wyp (H.le _ _ (wyp (H.le a false h)))⟩
theorem xzi {L:List Tk} {rec:Nat->Bool->Rd} (H:Mo L rec):∀(n:Nat) (out:List Ex) (a:Nat) (b:Bool),a<=(anL L rec n out a b).2.1/\(a<=L.length->(anL L rec n out a b).2.1<=L.length)
 | 0,out,a,b=>⟨ypr,fun h=>wyp h⟩
 | n+1,out,a,b=>by
  rw [anL]
  cases hi:isF L a b 3 tCm with
  | true=>
   have h1:=(vjj hi).1;have h2:=xzi H n (out++[(rec (a+1) false).1]) (rec (a+1) false).2.1 (rec (a+1) false).2.2;have h3:=H.mono (a+1) false;exact ⟨by rw [cond_true];omega,fun _=>h2.2 (H.le _ _ h1)⟩
  | false=>exact ⟨ypr,fun h=>wyp h⟩
theorem y1e (H:Mo L rec) (a:Nat):a<=(anF L rec a).2.1/\(a<=L.length->(anF L rec a).2.1<=L.length):=by
 have h:=xzi H L.length [(rec a false).1] (rec a false).2.1 (rec a false).2.2;exact ⟨Nat.le_trans (H.mono a false) h.1,fun h1=>h.2 (H.le _ _ h1)⟩
theorem yts (H:Mo L rec) (a:Nat) (b:Bool):a<=(y4l L rec a b).2.1/\(a<=L.length->(y4l L rec a b).2.1<=L.length):=by
 unfold y4l
 cases b with
 | true=>exact ⟨Nat.le_refl _,fun h=>h⟩
 | false=>
  rw [cond_false]
  cases h1:kdF L a false 1 with
  | true=>
   have hlt:=(w5h h1).1;rw [cond_true];dsimp only;unfold nbA
   cases h2:kdF L (a+1) false 2 with
   | true=>have:=(w5h h2).1;exact ⟨by rw [cond_true];omega,fun _=>by rw [cond_true];omega⟩
   | false=>exact ⟨Nat.le_succ _,fun _=>hlt⟩
  | false=>
   rw [cond_false]
   cases h2:isF L a false 3 tLp with
   | true=>
    have hlt:=(vjj h2).1;have hs:=yx0 H (a+1) false;rw [cond_true];unfold atP
    cases (sm1 L rec (a+1) false).2.2 with
    | true=>exact ⟨by rw [cond_true];dsimp only;omega,fun _=>hs.2 hlt⟩
    | false=>exact ⟨by rw [cond_false];dsimp only;omega,fun _=>hs.2 hlt⟩
   | false=>
    rw [cond_false]
    cases h3:isF L a false 0 zvi with
    | true=>
     have hlt:=(vjj h3).1;have h5:a+1<=lkA L (a+1):=Nat.le_trans (ypr (b:=false) (k:=3) (t:=tLp)) vln;have h6:lkA L (a+1)<=L.length:=x3x (wyp (by omega));have hs:=yx0 H (skF L (lkA L (a+1)) (lkB L (a+1)) 3 tCm) (!isF L (lkA L (a+1)) (lkB L (a+1)) 3 tCm);have h7:lkA L (a+1)<=skF L (lkA L (a+1)) (lkB L (a+1)) 3 tCm:=ypr;rw [cond_true];unfold lkR;exact ⟨by dsimp only;omega,fun _=>hs.2 (wyp h6)⟩
    | false=>
     rw [cond_false]
     have hmm:a<L.length->a<=(mmR L rec (a+1)).2.1/\(a<=L.length->(mmR L rec (a+1)).2.1<=L.length):=fun hlt=>by
      have hs:=zz8 H (skF L (a+1) false 3 tLp) (!isF L (a+1) false 3 tLp);have h7:a+1<=skF L (a+1) false 3 tLp:=ypr;unfold mmR;exact ⟨by omega,fun _=>hs.2 (wyp hlt)⟩
     cases h4:isF L a false 0 tMin with
     | true=>exact hmm (vjj h4).1
     | false=>
      rw [cond_false]
      cases h5:isF L a false 0 tMax with
      | true=>exact hmm (vjj h5).1
      | false=>
       rw [cond_false];unfold atN
       cases h6:isF L (nmA L a false) (nmB L a false) 3 tLp with
       | true=>
        have hlt:=(vjj h6).1;have hs:=y1e H (nmA L a false+1);have h7:a<=nmA L a false:=vln;exact ⟨by rw [cond_true];dsimp only;omega,fun _=>hs.2 hlt⟩
       | false=>exact ⟨vln,fun h=>x3x h⟩
theorem yeb {b:Bool} (h:opNx L a b=some i):a<L.length:=by
 have h1:=List.find?_some h;unfold opIs at h1;rw [Bool.and_eq_true] at h1;exact (vjj h1.2).1
theorem ywd (H:Mo L rec) (a:Nat) (b:Bool):a<=(ytz L rec a b).2.1/\(a<=L.length->(ytz L rec a b).2.1<=L.length):=by
 unfold ytz
 cases b with
 | true=>exact ⟨Nat.le_refl _,fun h=>h⟩
 | false=>
  rw [cond_false]
  cases h1:isF L a false 0 tNot with
  | true=>
   have hlt:=(vjj h1).1;have hs:=yts H (a+1) false;exact ⟨by rw [cond_true];dsimp only;omega,fun _=>hs.2 hlt⟩
  | false=>
   rw [cond_false]
   cases h2:isF L a false 0 tIf with
   | true=>
    have hlt:=(vjj h2).1;have hs:=yts H (a+1) false
    have hb:∀(p:Rd) (t:ByteArray),p.2.1<=(ifB L rec p t).2.1/\(p.2.1<=L.length->(ifB L rec p t).2.1<=L.length):=fun p t=>by
     have:=yts H (skF L p.2.1 p.2.2 0 t) (!isF L p.2.1 p.2.2 0 t)
     exact ⟨Nat.le_trans ypr this.1,fun h=>this.2 (wyp h)⟩
    have hb1:=hb (y4l L rec (a+1) false) yse;have hb2:=hb (ifB L rec (y4l L rec (a+1) false) yse) y4s;rw [cond_true];unfold ifR;exact ⟨by dsimp only;omega,fun _=>hb2.2 (hb1.2 (hs.2 hlt))⟩
   | false=>
    rw [cond_false];have hs:=yts H a false;generalize y4l L rec a false=x at *;unfold opM
    cases ho:opNx L x.2.1 x.2.2 with
    | none=>exact hs
    | some i=>
     have hlt:=yeb ho;have ht:=yts H (x.2.1+1) x.2.2;exact ⟨by dsimp only;omega,fun _=>ht.2 hlt⟩
def exF (L:List Tk):Nat->Nat->Bool->Rd
 | 0,a,_=>(zE,a,true)
 | n+1,a,b=>ytz L (exF L n) a b
theorem xuw (L:List Tk):∀ n,Mo L (exF L n)
 | 0=>⟨fun _ _=>Nat.le_refl _,fun _ _ h=>h⟩
 | n+1=>⟨fun i c=>(ywd (xuw L n) i c).1,fun i c=>(ywd (xuw L n) i c).2⟩
theorem xje.mo (H:xje Γ L rec a):Mo L rec:=⟨H.mono,H.le⟩
theorem xje.up (H:xje Γ L rec a) (h:a<=i):xje Γ L rec i:=⟨H.len,H.mono,H.le,fun j c hj=>H.run j c (by omega)⟩
theorem wgj (L:List Tk) (rec:Nat->Bool->Rd) (a:Nat) (b:Bool) (ha:a<=L.length) (H:xje Γ L rec a):y41 Γ L a b (ytz L rec a b):=by
 unfold ytz
 cases b with
 | true=>exact za9 L a
 | false=>
  rw [cond_false]
  cases h1:isF L a false 0 tNot with
  | true=>exact wlu L a H.len h1 _ (zto L rec (a+1) false (vjj h1).1 (H.up (Nat.le_succ _)))
  | false=>
   rw [cond_false]
   cases h2:isF L a false 0 tIf with
   | true=>
    have hlt:=(vjj h2).1;have hs:=yts H.mo (a+1) false;have ht:=yts H.mo (skF L (y4l L rec (a+1) false).2.1 (y4l L rec (a+1) false).2.2 0 yse) (!isF L (y4l L rec (a+1) false).2.1 (y4l L rec (a+1) false).2.2 0 yse);have l1:(y4l L rec (a+1) false).2.1<=skF L (y4l L rec (a+1) false).2.1 (y4l L rec (a+1) false).2.2 0 yse:=ypr;have l2:(ifB L rec (y4l L rec (a+1) false) yse).2.1<=skF L (ifB L rec (y4l L rec (a+1) false) yse).2.1 (ifB L rec (y4l L rec (a+1) false) yse).2.2 0 y4s:=ypr;have u1:=hs.2 hlt;have u2:=ht.2 (wyp u1);exact xdm L a H.len h1 h2 _ _ _ (zto L rec (a+1) false hlt (H.up (Nat.le_succ _)))
     (zto L rec _ _ (wyp u1) (H.up (by omega))) (zto L rec _ _ (wyp u2) (H.up (by unfold ifB at l2 ⊢;omega)))
   | false=>
    rw [cond_false];have hs:=yts H.mo a false;have m:=zto (Γ:=Γ) L rec a false ha H;generalize y4l L rec a false=x at *;obtain ⟨x,a1,b1⟩:=x;exact zhv L a H.len h1 h2 x a1 b1 _ m (fun i hi=>zto L rec (a1+1) b1 (yeb hi) (H.up (by have:=hs.1;dsimp only at this;omega)))
theorem yh6 (L:List Tk) (hl:L.length<=1073741824):∀(n a:Nat) (b:Bool),a<=L.length->L.length-a<n->y41 Γ L a b (exF L n a b)
 | 0,a,b,_,h=>absurd h (Nat.not_lt_zero _)
 | n+1,a,b,ha,h=>wgj L (exF L n) a b ha ⟨hl,(xuw L n).mono,(xuw L n).le,fun i c hi hi'=>yh6 L hl n i c hi' (by omega)⟩
end Go.Hp.T
namespace Go.Hp.T
open Go Go.RowKit Go.Slot Go.Hp Go.Slot.T
open Go.Proofs.Tryz
variable {L:List Tk} {rec:Nat->Bool->Rd}
attribute [local irreducible] hide RH
set_option maxRecDepth 10000
set_option maxHeartbeats 8000000
variable {Γ:List (Nat×List Cell)}
theorem zx5:zE.Sm:=.mk _ (by decide) (by decide) (by decide) (fun y h=>by cases h)
theorem xq3 {o n:Int} {u s:ByteArray} {l:List Ex} (hl:l.length<=1073741824) (hu:u.size<=1073741824) (hs:s.size<=1073741824) (h:∀ y∈l,y.Sm):(Ex.mk o n u s l).Sm:=.mk _ hl hu hs h
structure SmR (L:List Tk) (rec:Nat->Bool->Rd):Prop where
 len:L.length<=1048576
 tok:∀ a,(L.getD a default).t.size<=1048576
 mo:Mo L rec
 sm:∀ i c,(rec i c).1.Sm
theorem v5a (H:SmR L rec) (a:Nat) (b:Bool):(sm1 L rec a b).1.length<=1073741824/\∀ y∈(sm1 L rec a b).1,y.Sm:=by
 unfold sm1
 cases b with
 | true=>exact ⟨Nat.zero_le _,fun y h=>by cases h⟩
 | false=>exact ⟨by unfold clF;simp,fun y h=>by unfold clF at h;simp at h;rw [h];exact H.sm _ _⟩
theorem vko (H:SmR L rec) (a:Nat) (b:Bool):(sm2 L rec a b).1.length<=1073741824/\∀ y∈(sm2 L rec a b).1,y.Sm:=by
 unfold sm2
 cases b with
 | true=>exact ⟨Nat.zero_le _,fun y h=>by cases h⟩
 | false=>
  rw [cond_false]
  cases (rec a false).2.2 with
  | true=>exact ⟨by simp,fun y h=>by simp at h;rw [h];exact H.sm _ _⟩
  | false=>exact ⟨by unfold clF;simp,fun y h=>by unfold clF at h;simp at h;rcases h with h | h<;>rw [h]<;>exact H.sm _ _⟩
theorem x6n {L : List Tk} {rec : Nat → Bool → Rd} (H : SmR L rec) : ∀ (n : Nat) (out : List Ex) (a : Nat) (b : Bool), (∀ y ∈ out, y.Sm) → (anL L rec n out a b).1.length ≤ out.length + n ∧ ∀ y ∈ (anL L rec n out a b).1, y.Sm
 | 0,out,a,b,h=>⟨Nat.le_refl _,h⟩
 | n + 1, out, a, b, h => by
  rw [anL]
  cases isF L a b 3 tCm with
  | true=>
   have h2:=x6n H n (out++[(rec (a+1) false).1]) (rec (a+1) false).2.1 (rec (a+1) false).2.2 (fun y hy=>by
    rcases List.mem_append.1 hy with hy | hy
    . exact h y hy
    . simp at hy;rw [hy];exact H.sm _ _)
   rw [List.length_append,List.length_singleton] at h2;exact ⟨by rw [cond_true];omega,h2.2⟩
  | false=>exact ⟨Nat.le_add_right _ _,h⟩
theorem ysu (H:SmR L rec) (a:Nat):(anF L rec a).1.length<=1073741824/\∀ y∈(anF L rec a).1,y.Sm:=by
 have h:=x6n H L.length [(rec a false).1] (rec a false).2.1 (rec a false).2.2 (fun y hy=>by simp at hy;rw [hy];exact H.sm _ _)
 have:=H.len
 exact ⟨Nat.le_trans h.1 (by simp;omega),h.2⟩
theorem v35 (H:SmR L rec) (a:Nat) (b:Bool):(nmS L a b).size<=1073741824:=by
 unfold nmS
 have:=H.tok a
 cases nmOk L a b with
 | true=>rw [cond_true];omega
 | false=>rw [cond_false];decide
theorem z6e (H:SmR L rec) (a:Nat) (b:Bool):(y4l L rec a b).1.Sm:=by
 have e0:(⟨#[]⟩:ByteArray).size<=1073741824:=by decide
 unfold y4l
 cases b with
 | true=>exact zx5
 | false=>
  rw [cond_false]
  cases kdF L a false 1 with
  | true=>
   rw [cond_true];unfold nbE;refine xq3 (Nat.zero_le _) ?_ e0 (fun y h=>by cases h)
   have:=H.tok (a+1)
   cases kdF L (a+1) false 2 with
   | true=>rw [cond_true];omega
   | false=>rw [cond_false];exact e0
  | false=>
   rw [cond_false]
   cases isF L a false 3 tLp with
   | true=>
    have hs:=v5a H (a+1) false;rw [cond_true];unfold atP
    cases (sm1 L rec (a+1) false).2.2 with
    | true=>exact zx5
    | false=>
     rw [cond_false];dsimp only
     cases hl:(sm1 L rec (a+1) false).1 with
     | nil=>exact zx5
     | cons y l=>exact hs.2 y (by rw [hl];exact List.mem_cons_self)
   | false=>
    rw [cond_false]
    cases isF L a false 0 zvi with
    | true=>
     have hs:=v5a H (skF L (lkA L (a+1)) (lkB L (a+1)) 3 tCm) (!isF L (lkA L (a+1)) (lkB L (a+1)) 3 tCm);exact xq3 hs.1 e0 (v35 H _ _) hs.2
    | false=>
     rw [cond_false];have hs:=vko H (skF L (a+1) false 3 tLp) (!isF L (a+1) false 3 tLp)
     cases isF L a false 0 tMin with
     | true=>exact xq3 hs.1 e0 e0 hs.2
     | false=>
      rw [cond_false]
      cases isF L a false 0 tMax with
      | true=>exact xq3 hs.1 e0 e0 hs.2
      | false=>
       rw [cond_false];unfold atN
       cases isF L (nmA L a false) (nmB L a false) 3 tLp with
       | true=>
        have hs:=ysu H (nmA L a false+1);exact xq3 hs.1 e0 (v35 H _ _) hs.2
       | false=>exact xq3 (Nat.zero_le _) e0 (v35 H _ _) (fun y h=>by cases h)
theorem zdf (H:SmR L rec) (a:Nat) (b:Bool):(ytz L rec a b).1.Sm:=by
 have e0:(⟨#[]⟩:ByteArray).size<=1073741824:=by decide
 unfold ytz
 cases b with
 | true=>exact zx5
 | false=>
  rw [cond_false]
  cases isF L a false 0 tNot with
  | true=>exact xq3 (by simp) e0 e0 (fun y h=>by simp at h;rw [h];exact z6e H _ _)
  | false=>
   rw [cond_false]
   cases isF L a false 0 tIf with
   | true=>exact xq3 (by simp) e0 e0 (fun y h=>by simp at h;rcases h with h | h | h<;>rw [h]<;>exact z6e H _ _)
   | false=>
    rw [cond_false];have hx:=z6e H a false;generalize y4l L rec a false=x at *;unfold opM
    cases opNx L x.2.1 x.2.2 with
    | none=>exact hx
    | some i=>exact xq3 (by simp) e0 e0 (fun y h=>by simp at h;rcases h with h | h<;>rw [h];exact hx;exact z6e H _ _)
theorem z0d {L:List Tk} (hl:L.length<=1048576) (ht:∀ a,(L.getD a default).t.size<=1048576):∀(n a:Nat) (b:Bool),(exF L n a b).1.Sm
 | 0,_a,_b=>zx5
 | n+1,a,b=>zdf ⟨hl,ht,xuw L n,z0d hl ht n⟩ a b
def vux (L:List Tk) (a:Nat):Ex×Nat×Int:=
 bif (exF L (L.length+1) a false).2.2 then (zE,(exF L (L.length+1) a false).2.1,12) else
 bif xnq (exF L (L.length+1) a false).1 then ((exF L (L.length+1) a false).1,(exF L (L.length+1) a false).2.1,0) else (zE,(exF L (L.length+1) a false).2.1,6)
theorem vk9 (p q:AV):RLe (.tup [.agg [cI 0,cI 0,cS ⟨#[]⟩,cS ⟨#[]⟩,.zc],p,q]) (.tup [.agg (exC zE),p,q]):=.tup (.cons (.agg (.cons (.refl _) (.cons (.refl _) (.cons (.refl _) (.cons (.refl _) (.cons (.zcSl _) .nil)))))) (.cons (.refl _) (.cons (.refl _) .nil)))
theorem wwp (L:List Tk) (a:Nat) (hl:L.length<=1048576) (ht:∀ a,(L.getD a default).t.size<=1048576) (ha:a<=L.length):CallsD Γ prog 210 [.one (.sl 4 (L.map Tk.C)),.one (cI a)] (.tup [.agg (exC (vux L a).1),.one (cI (vux L a).2.1),.one (cI (vux L a).2.2)]):=by
 have c:=yh6 (Γ:=Γ) L (by omega) (L.length+1) a false ha (by omega);have hs:=z0d hl ht (L.length+1) a false;unfold vux;generalize exF L (L.length+1) a false=r at *;obtain ⟨x,a1,b1⟩:=r;have cr:=ydl (Γ:=Γ) x hs;unfold y41 at c;simp only at c;clear hs ht
 cases b1 with
 | true=>
  refine hE [] func210 f210.eq_1 ?_
  repeat' (refine hF ?_ ?_<;>intros)
  all_goals try (exfalso;omega)
  refine hca [1] c ?_;refine hI ?_;exact vk9 _ _
 | false=>
  cases h:xnq x with
  | true=>
   rw [h] at cr;refine hE [] func210 f210.eq_1 ?_
   repeat' (refine hF ?_ ?_<;>intros)
   all_goals try (exfalso;omega)
   refine hca [1] c ?_
   repeat' first|refine hI ?_|(with_reducible refine wdy cr ?_)<;>refine hgS ?_
   exact RLe.ofEq rfl
  | false=>
   rw [h] at cr;refine hE [] func210 f210.eq_1 ?_
   repeat' (refine hF ?_ ?_<;>intros)
   all_goals try (exfalso;omega)
   refine hca [1] c ?_
   repeat' first|refine hI ?_|(with_reducible refine wdy cr ?_)<;>refine hgS ?_
   exact vk9 _ _
end Go.Hp.T
namespace Go.Hp.T
open Go Go.RowKit Go.Slot Go.Hp Go.Slot.T
open Go.Proofs.Tryz
attribute [local irreducible] hide RH
set_option maxRecDepth 10000
set_option maxHeartbeats 4000000
variable {Γ:List (Nat×List Cell)}
theorem y0e (x:Dm):CallsD Γ prog 176 [.agg (dmC x)] (.one (cB (vss x))):=by
 refine hE [] func176 f176.eq_1 ?_
 repeat' first|refine hF ?_ ?_<;>intros|(with_reducible first|refine x2t ?_|refine z5g ?_)<;>refine hgS ?_
 all_goals refine lf2 @vss.eq_def @bad9.eq_def ?_;first | exact trivial | rfl
end Go.Hp.T
