/- The proof, part Z21: P6, P7, P8, P9, Pk. -/
import Derived.Test.YtkbkjjahlafhoaaGreatDoorZ15
import Derived.Test.YtkbkjjahlafhoaaGreatDoorZ20
namespace Go.Hp.T
open Go Go.RowKit Go.Slot Go.Hp Go.Slot.T
open Go.Proofs.Tryz
attribute [local irreducible] hide RH
set_option maxRecDepth 10000
set_option maxHeartbeats 8000000
variable {Γ:List (Nat×List Cell)}
theorem ww9 {e η η':List SB} {o n:Int} {u s:ByteArray} (m:Nat) (hm:Nat.ble e.length m=true) (h:z6m m [SV.agg [.dat (cI o),.dat (cI n),.dat (cS u),.dat (cS s),.dat .zc]] η=true) (hη:η.take m=η') :
 StH Γ e [SV.agg [.dat (cI o),.dat (cI n),.dat (cS u),.dat (cS s),.dat .zc]] η [SV.agg ((exC (.mk o n u s [])).map .dat)] η':=
 StH.trans (StH.done m hm h rfl hη) (StH.agg1 (.agg (.cons (.refl _) (.cons (.refl _) (.cons (.refl _) (.cons (.refl _) (.cons (.dat (.zcSl _)) .nil)))))))
def nbE (L:List Tk) (a:Nat) (b:Bool):Ex:=.mk 0 (L.getD a default).n (bif kdF L (a+1) b 2 then (L.getD (a+1) default).t else ⟨#[]⟩) ⟨#[]⟩ []
def nbA (L:List Tk) (a:Nat) (b:Bool):Nat:=bif kdF L (a+1) b 2 then a+2 else a+1
theorem v87 (L:List Tk) (a:Nat) (b:Bool) (hl:L.length<=1073741824) (h:a<L.length):z00 Γ prog 228 [rdF L a b] [.one (.ptr 0 0)] [rdF L (nbA L a b) b] (.agg ((exC (nbE L a b)).map .dat)):=by
 have t1:=wvj (Γ:=Γ) L a b hl h;have k1:=y4j (Γ:=Γ) L (a+1) b 2;unfold nbA nbE
 cases hk:kdF L (a+1) b 2 with
 | false=>
  rw [hk] at k1;refine hEh [] func228 f228.eq_1 ?_
  repeat' first | refine hF ?_ ?_<;>intros | refine hI ?_
  refine hca [0] t1 ?_
  repeat' first | refine hF ?_ ?_<;>intros | refine hI ?_
  refine hca [0] k1 ?_
  repeat' first | refine hF ?_ ?_<;>intros | refine hI ?_
  exact ww9 1 rfl (by kernel_rfl) rfl
 | true=>
  obtain ⟨hlt,rfl⟩:=vth hk;have t2:=wvj (Γ:=Γ) L (a+1) false hl hlt;rw [hk] at k1;refine hEh [] func228 f228.eq_1 ?_
  repeat' first | refine hF ?_ ?_<;>intros | refine hI ?_
  refine hca [0] t1 ?_
  repeat' first | refine hF ?_ ?_<;>intros | refine hI ?_
  refine hca [0] k1 ?_
  repeat' first | refine hF ?_ ?_<;>intros | refine hI ?_
  refine hca [0] t2 ?_
  repeat' first | refine hF ?_ ?_<;>intros | refine hI ?_
  exact ww9 1 rfl (by kernel_rfl) rfl
def opKd (o:Int):Int:=bif decide (o=14)||decide (o=15) then 0 else 3
def opIs (L:List Tk) (a:Nat) (b:Bool) (o:Int):Bool:=isOp o&&isF L a b (opKd o) (vjo o)
def opNx (L:List Tk) (a:Nat) (b:Bool):Option Nat:=(List.range 16).find? fun i=>opIs L a b i
theorem ya2 {p:Nat->Bool} {n i:Nat} (hi:i<n) (h:p i=true) (hj:∀ j,j<i->p j=false):(List.range n).find? p=some i:=by
 rw [List.find?_range_eq_some];exact ⟨h,List.mem_range.2 hi,fun j hji=>by rw [hj j hji];rfl⟩
theorem ycd {p:Nat->Bool} {n:Nat} (hj:∀ j,j<n->p j=false):(List.range n).find? p=none:=by
 rw [List.find?_eq_none];intro x hx;rw [hj x (List.mem_range.1 hx)];decide
def opR:Option Nat->SV
 | none=>.tup [.one (.dat (cI 0)),.one (.dat (cB false))]
 | some i=>.tup [.one (.dat (cI i)),.one (.dat (cB true))]
theorem x7v (L:List Tk) (a:Nat) (b:Bool) (hl:L.length<=1073741824):z00 Γ prog 224 [rdF L a b] [.one (.ptr 0 0)] [rdF L (bif (opNx L a b).isSome then a+1 else a) b] (opR (opNx L a b)):=by
 generalize hR:opNx L a b=R;refine hEh [] func224 f224.eq_1 ?_
 repeat' first | refine hF ?_ ?_<;>intros | refine hI ?_
 refine vi3 [0] (fun i:Nat=>[(8,.one (.dat (cI i)))]) (fun _=>[rdF L a b]) (fun i=>i<=16/\∀ j,j<i->opIs L a b j=false) (fun i=>16-i) 0 ⟨Nat.zero_le _,fun j hj=>by omega⟩ ?_ ?_
 . refine hg ?_;exact sS
 rintro i ⟨h1,h2⟩;refine hg ?_;refine vdi (fun hlt _=>?_) (fun hlt _=>?_)
 . have hi:i<16:=by omega
   have co:=vbt (Γ:=Γ) (i:Int)
   have hyes:=fun h=>ya2 (p:=fun i:Nat=>opIs L a b i) hi h h2
   have hno:opIs L a b i=false->∀ j,j<i+1->opIs L a b (j:Nat)=false:=fun h j hj=>by
    rcases Nat.lt_or_eq_of_le (Nat.le_of_lt_succ hj) with h3 | h3
    . exact h2 j h3
    . rw [h3];exact h
   clear h2
   have hk:opKd (i:Int)=bif decide ((i:Int)=14)||decide ((i:Int)=15) then 0 else 3:=rfl
   have hkd:∃ p q,decide ((i:Int)=14)=p/\decide ((i:Int)=15)=q:=⟨_,_,rfl,rfl⟩;obtain ⟨p,q,d14,d15⟩:=hkd;rw [d14,d15] at hk
   cases ho:isOp (i:Int) with
   | false=>
    have hno:=hno (by unfold opIs;rw [ho];rfl);rw [ho] at co;clear hyes hR hk
    cases p<;>cases q
    all_goals
     refine hg ?_
     repeat' first | refine hF ?_ ?_<;>intros | refine hI ?_ | (with_reducible first | refine w5a (co) ?_ | refine xqd (co) ?_)<;>refine hgS ?_
     exact ⟨i+1,⟨by omega,hno⟩,by omega,sS⟩
   | true=>
    rw [ho] at co;have sk:=x5i (Γ:=Γ) L a b (opKd i) (vjo i) hl;unfold skF at sk
    cases hs:isF L a b (opKd i) (vjo i) with
    | true=>
     have hy:R=some i:=by rw [<-hR];exact hyes (by unfold opIs;rw [ho,hs];rfl)
     subst hy;rw [hs,cond_true,hk] at sk;clear hyes hno hR hs hk ho
     cases p<;>cases q
     all_goals
      simp only [Bool.or_false,Bool.or_true,cond_true,cond_false] at sk;refine hg ?_
      repeat' first | refine hF ?_ ?_<;>intros | refine hI ?_ | (with_reducible first | refine w5a (co) ?_ | refine xqd (co) ?_)<;>refine hgS ?_
      refine xmm sk ?_;refine hg ?_
      repeat' first | refine hF ?_ ?_<;>intros | refine hI ?_
      exact sS
    | false=>
     have hno:=hno (by unfold opIs;rw [ho,hs];rfl);rw [hs,cond_false,hk] at sk;clear hyes hR hs hk ho
     cases p<;>cases q
     all_goals
      simp only [Bool.or_false,Bool.or_true,cond_true,cond_false] at sk;refine hg ?_
      repeat' first | refine hF ?_ ?_<;>intros | refine hI ?_ | (with_reducible first | refine w5a (co) ?_ | refine xqd (co) ?_)<;>refine hgS ?_
      refine xmm sk ?_;refine hg ?_
      repeat' first | refine hF ?_ ?_<;>intros | refine hI ?_
      exact ⟨i+1,⟨by omega,hno⟩,by omega,sS⟩
 . have e:=ycd (p:=fun i:Nat=>opIs L a b i) (n:=16) (fun j hj=>h2 j (by omega))
   have hy:R=none:=by rw [<-hR];exact e
   subst hy;clear hR e h2;refine hg ?_
   repeat' first | refine hF ?_ ?_<;>intros | refine hI ?_
   exact sS
def zE:Ex:=.mk 0 0 ⟨#[]⟩ ⟨#[]⟩ []
abbrev Rd:=Ex×Nat×Bool
abbrev Rds:=List Ex×Nat×Bool
abbrev tLp:ByteArray:=⟨#[40]⟩
abbrev tRp:ByteArray:=⟨#[41]⟩
abbrev tCm:ByteArray:=⟨#[44]⟩
def clF (L:List Tk) (l:List Ex) (a:Nat) (b:Bool):Rds:=(l,skF L a b 3 tRp,!isF L a b 3 tRp)
def sm1 (L:List Tk) (rec:Nat->Bool->Rd) (a:Nat) (b:Bool):Rds:=bif b then ([],a,true) else clF L [(rec a false).1] (rec a false).2.1 (rec a false).2.2
def sm2 (L:List Tk) (rec:Nat->Bool->Rd) (a:Nat) (b:Bool):Rds:=bif b then ([],a,true) else
 bif (rec a false).2.2 then ([(rec a false).1],(rec a false).2.1,true) else
 let a1:=skF L (rec a false).2.1 false 3 tCm
 let b1:=!isF L (rec a false).2.1 false 3 tCm
 clF L [(rec a false).1,(rec a1 b1).1] (rec a1 b1).2.1 (rec a1 b1).2.2
theorem xdm {L:List Tk} {a:Nat} {k:Int} {t:ByteArray}:isF L a true k t=false:=rfl
theorem y6f {L:List Tk} {a:Nat} {k:Int} {t:ByteArray}:skF L a true k t=a:=rfl
theorem zou {e η η':List SB} {x:SV} {c:Cell} {bs:List Nat} (m:Nat) (h:wrt η [x]=some ([.one c],bs)) (hx:∀ l,x≠.tup l) (hm:Nat.ble e.length m=true) (hc:z6m m [SV.one (.dat c)] (appL (frzE η bs) η)=true) (hη:(appL (frzE η bs) η).take m=η') :
 StH Γ e [x] η [.one (.dat c)] η':=
 StH.trans (StH.frzA h rfl hx (fun l h=>by cases h)) (StH.done m hm hc rfl hη)
theorem x4u (L:List Tk) (rec:Nat->Bool->Rd) (a:Nat) (b:Bool) (hl:L.length<=1073741824)
 (H:b=false->z00 Γ prog 216 [rdF L a false] [.one (.ptr 0 0)] [rdF L (rec a false).2.1 (rec a false).2.2] (.agg ((exC (rec a false).1).map .dat))) :
 z00 Γ prog 229 [rdF L a b] [.one (.ptr 0 0),.one (.dat (cI 1))] [rdF L (sm1 L rec a b).2.1 (sm1 L rec a b).2.2] (.one (.dat (.sl 5 ((sm1 L rec a b).1.map Ex.cells)))):=by
 unfold sm1
 cases b with
 | true=>
  have c:=zz8 (Γ:=Γ) L a true tRp hl;rw [y6f,xdm] at c;refine hEh [] func229 f229.eq_1 ?_
  repeat' first | refine hF ?_ ?_<;>intros | refine hI ?_ | (first | with_reducible refine xwl ?_ | with_reducible refine yxz ?_)<;>refine hgS ?_
  refine xmm c ?_;refine hg ?_
  repeat' first | refine hF ?_ ?_<;>intros | refine hI ?_
  exact StH.same (.cons (.one (.dat (.nilSl _))) .nil) rfl
 | false=>
  have H:=H rfl;generalize rec a false=r at *;obtain ⟨x,a1,b1⟩:=r;simp only at H;have c:=zz8 (Γ:=Γ) L a1 b1 tRp hl;refine hEh [] func229 f229.eq_1 ?_
  repeat' first | refine hF ?_ ?_<;>intros | refine hI ?_ | (first | with_reducible refine xwl ?_ | with_reducible refine yxz ?_)<;>refine hgS ?_
  refine xmm H ?_;refine hg ?_
  repeat' first | refine hF ?_ ?_<;>intros | refine hI ?_ | (first | with_reducible refine xwl ?_ | with_reducible refine yxz ?_)<;>refine hgS ?_
  refine hca [0] c ?_
  repeat' first | refine hF ?_ ?_<;>intros | refine hI ?_
  unfold clF;simp only [List.map_cons,List.map_nil,Ex.xa4];exact zou (bs:=[1]) 1 rfl (fun l h=>by cases h) rfl (by kernel_rfl) rfl
theorem zsf (L:List Tk) (a:Nat):z00 Γ prog 216 [rdF L a true] [.one (.ptr 0 0)] [rdF L a true] (.agg ((exC zE).map .dat)):=by
 refine hEh [] func216 f216.eq_1 ?_
 repeat' first | refine hF ?_ ?_<;>intros | refine hI ?_
 exact ww9 1 rfl (by kernel_rfl) rfl
theorem vx9 (L:List Tk) (rec:Nat->Bool->Rd) (a:Nat) (b:Bool) (hl:L.length<=1073741824)
 (H:b=false->z00 Γ prog 216 [rdF L a false] [.one (.ptr 0 0)] [rdF L (rec a false).2.1 (rec a false).2.2] (.agg ((exC (rec a false).1).map .dat)))
 (H2:∀ c,c = !isF L (rec a false).2.1 false 3 tCm->z00 Γ prog 216 [rdF L (skF L (rec a false).2.1 false 3 tCm) c] [.one (.ptr 0 0)] [rdF L (rec (skF L (rec a false).2.1 false 3 tCm) c).2.1 (rec (skF L (rec a false).2.1 false 3 tCm) c).2.2] (.agg ((exC (rec (skF L (rec a false).2.1 false 3 tCm) c).1).map .dat))) :
 z00 Γ prog 229 [rdF L a b] [.one (.ptr 0 0),.one (.dat (cI 2))] [rdF L (sm2 L rec a b).2.1 (sm2 L rec a b).2.2] (.one (.dat (.sl 5 ((sm2 L rec a b).1.map Ex.cells)))):=by
 unfold sm2
 cases b with
 | true=>
  have c:=zz8 (Γ:=Γ) L a true tRp hl;rw [y6f,xdm] at c;refine hEh [] func229 f229.eq_1 ?_
  repeat' first | refine hF ?_ ?_<;>intros | refine hI ?_ | (first | with_reducible refine xwl ?_ | with_reducible refine yxz ?_)<;>refine hgS ?_
  refine xmm c ?_;refine hg ?_
  repeat' first | refine hF ?_ ?_<;>intros | refine hI ?_
  exact StH.same (.cons (.one (.dat (.nilSl _))) .nil) rfl
 | false=>
  have H:=H rfl;have H2:=H2 _ rfl;generalize rec a false=r at *;obtain ⟨x,a1,b1⟩:=r;simp only at H H2;rw [cond_false];simp only
  cases b1 with
  | true=>
   have c:=zz8 (Γ:=Γ) L a1 true tRp hl;rw [y6f,xdm] at c;rw [cond_true];clear H2;refine hEh [] func229 f229.eq_1 ?_
   repeat' first | refine hF ?_ ?_<;>intros | refine hI ?_ | (first | with_reducible refine xwl ?_ | with_reducible refine yxz ?_)<;>refine hgS ?_
   refine xmm H ?_;refine hg ?_
   repeat' first | refine hF ?_ ?_<;>intros | refine hI ?_ | (first | with_reducible refine xwl ?_ | with_reducible refine yxz ?_)<;>refine hgS ?_
   refine hca [0] c ?_
   repeat' first | refine hF ?_ ?_<;>intros | refine hI ?_
   exact zou (bs:=[1]) 1 rfl (fun l h=>by cases h) rfl (by kernel_rfl) rfl
  | false=>
   rw [cond_false];have s:=zz8 (Γ:=Γ) L a1 false tCm hl;generalize skF L a1 false 3 tCm=a2 at *;generalize (!isF L a1 false 3 tCm)=b2 at *;generalize rec a2 b2=r2 at *;obtain ⟨y,a3,b3⟩:=r2;simp only at H2;have c:=zz8 (Γ:=Γ) L a3 b3 tRp hl;refine hEh [] func229 f229.eq_1 ?_
   repeat' first | refine hF ?_ ?_<;>intros | refine hI ?_ | (first | with_reducible refine xwl ?_ | with_reducible refine yxz ?_)<;>refine hgS ?_
   refine xmm H ?_;refine hg ?_
   repeat' first | refine hF ?_ ?_<;>intros | refine hI ?_ | (first | with_reducible refine xwl ?_ | with_reducible refine yxz ?_)<;>refine hgS ?_
   refine hca [0] s ?_
   repeat' first | refine hF ?_ ?_<;>intros | refine hI ?_ | (first | with_reducible refine xwl ?_ | with_reducible refine yxz ?_)<;>refine hgS ?_
   refine hca [0] H2 ?_
   repeat' first | refine hF ?_ ?_<;>intros | refine hI ?_ | (first | with_reducible refine xwl ?_ | with_reducible refine yxz ?_)<;>refine hgS ?_
   refine hca [0] c ?_
   repeat' first | refine hF ?_ ?_<;>intros | refine hI ?_
   unfold clF;simp only [List.map_cons,List.map_nil,Ex.xa4];exact zou (bs:=[2]) 1 rfl (fun l h=>by cases h) rfl (by kernel_rfl) rfl
def anL (L:List Tk) (rec:Nat->Bool->Rd):Nat->List Ex->Nat->Bool->Rds
 | 0,out,a,b=>clF L out a b
 | n+1,out,a,b=>bif isF L a b 3 tCm then anL L rec n (out++[(rec (a+1) false).1]) (rec (a+1) false).2.1 (rec (a+1) false).2.2 else clF L out a b
def anF (L:List Tk) (rec:Nat->Bool->Rd) (a:Nat):Rds:=anL L rec L.length [(rec a false).1] (rec a false).2.1 (rec a false).2.2
theorem ya8 {L:List Tk} {rec:Nat->Bool->Rd} {n:Nat} {out:List Ex} {a:Nat} {b:Bool} (h:isF L a b 3 tCm=false):anL L rec n out a b=clF L out a b:=by
 cases n with
 | zero=>rfl
 | succ n=>rw [anL,h];rfl
theorem zun {L:List Tk} {rec:Nat->Bool->Rd} {n:Nat} {out:List Ex} {a:Nat} {b:Bool} (h:isF L a b 3 tCm=true):anL L rec (n+1) out a b=anL L rec n (out++[(rec (a+1) false).1]) (rec (a+1) false).2.1 (rec (a+1) false).2.2:=by
 rw [anL,h];rfl
theorem xxq {η:List SB} {b n:Nat} {l:List (List Cell)} {q:Nat} {T:Option TypeId} (hb:gB η b=.arr (.sl 5 l) q T) (hn:n=l.length):wrt η [.one (.sl b 5 0 n)]=some ([.one (.sl 5 l)],[b]):=by
 subst hn;simp [wrt,argD,yo0,hb,Cell.esz,Cell.cnt,subC]
theorem znk (L:List Tk) (rec:Nat->Bool->Rd) (a:Nat) (hl:L.length<=1073741824) (ha:a<=L.length) (hm:∀ i,i<=(rec i false).2.1)
 (H:∀ i,a<=i->i<=L.length->z00 Γ prog 216 [rdF L i false] [.one (.ptr 0 0)] [rdF L (rec i false).2.1 (rec i false).2.2] (.agg ((exC (rec i false).1).map .dat))) :
 z00 Γ prog 232 [rdF L a false] [.one (.ptr 0 0)] [rdF L (anF L rec a).2.1 (anF L rec a).2.2] (.one (.dat (.sl 5 ((anF L rec a).1.map Ex.cells)))):=by
 generalize hR:anF L rec a=R;unfold anF at hR;have H0:=H a (Nat.le_refl _) ha;have m0:=hm a;generalize rec a false=r at *;obtain ⟨x0,a0,b0⟩:=r;simp only at H0 m0 hR;refine hEh [(1,[.own])] func232 f232.eq_1 ?_
 repeat' first | refine hF ?_ ?_<;>intros | refine hI ?_ | (first | with_reducible refine xwl ?_ | with_reducible refine yxz ?_)<;>refine hgS ?_
 refine xmm H0 ?_;clear H0;refine hg ?_
 repeat' first | refine hF ?_ ?_<;>intros | refine hI ?_
 refine vi3 [0] (fun x:List Ex×Nat×Bool=>[(3,.one (.sl 1 5 0 x.1.length))]) (fun x=>[rdF L x.2.1 x.2.2,.arr (.sl 5 (x.1.map Ex.cells)) 0 (some 127)])
  (fun x=>a<=x.2.1/\x.1.length+a<=x.2.1+1/\∃ n,L.length-x.2.1<=n/\anL L rec n x.1 x.2.1 x.2.2=R) (fun x=>L.length-x.2.1) ([x0],a0,b0) ⟨m0,by simp only [List.length_singleton];omega,L.length,by omega,hR⟩ ?_ ?_
 . refine hg ?_;exact sS
 rintro ⟨out,i,b⟩ ⟨i1,i2,n,n1,hn⟩;simp only at i1 i2 n1 hn;clear hR;have sk:=x5i (Γ:=Γ) L i b 3 tCm hl;unfold skF at sk
 cases hi:isF L i b 3 tCm with
 | true=>
  obtain ⟨hlt,rfl⟩:=vib hi;obtain ⟨n,rfl⟩:∃ k,n=k+1:=⟨n-1,by omega⟩;have H1:=H (i+1) (by omega) (by omega);have m1:=hm (i+1);rw [zun hi] at hn;rw [hi] at sk;clear hi H hm;generalize rec (i+1) false=r at *;obtain ⟨y,i',b'⟩:=r;simp only [cond_true] at H1 m1 hn sk;refine hg ?_
  repeat' first | refine hF ?_ ?_<;>intros | refine hI ?_ | (first | with_reducible refine xwl ?_ | with_reducible refine yxz ?_)<;>refine hgS ?_
  refine hca [0] sk ?_
  repeat' first | refine hF ?_ ?_<;>intros | refine hI ?_ | (first | with_reducible refine xwl ?_ | with_reducible refine yxz ?_)<;>refine hgS ?_
  refine xdg [0] H1 rfl (by decide) rfl rfl rfl ?_;clear H1 sk;refine hg ?_
  repeat' first | refine hF ?_ ?_<;>intros | refine hI ?_ | (first | with_reducible refine xwl ?_ | with_reducible refine yxz ?_)<;>refine hgS ?_
  refine ⟨(out++[y],i',b'),⟨by dsimp only;omega,by simp only [List.length_append,List.length_singleton];omega,n,by dsimp only;omega,hn⟩,by dsimp only;omega,?_⟩;refine StH.back [0,3] 1 2 2 rfl rfl rfl rfl rfl (by kernel_rfl) ?_;simp only [List.map_append,List.map_cons,List.map_nil,Ex.xa4];refine hg2 @List.length_append.{0} @List.length_singleton.{0} ?_;exact sS
 | false=>
  rw [ya8 hi] at hn;rw [hi] at sk;clear H hm hi;unfold clF at hn;subst hn;have c:=zz8 (Γ:=Γ) L i b tRp hl;simp only [cond_false] at sk;refine hg ?_
  repeat' first | refine hF ?_ ?_<;>intros | refine hI ?_ | (first | with_reducible refine xwl ?_ | with_reducible refine yxz ?_)<;>refine hgS ?_
  refine hca [0] sk ?_
  repeat' first | refine hF ?_ ?_<;>intros | refine hI ?_ | (first | with_reducible refine xwl ?_ | with_reducible refine yxz ?_)<;>refine hgS ?_
  refine hca [0] c ?_
  repeat' first | refine hF ?_ ?_<;>intros | refine hI ?_
  exact zou (bs:=[1]) 1 (xxq rfl (List.length_map _).symm) (fun l h=>by cases h) rfl (by kernel_rfl) rfl
abbrev vsr:ByteArray:=⟨#[108,111,111,107]⟩
abbrev tMin:ByteArray:=⟨#[109,105,110]⟩
abbrev tMax:ByteArray:=⟨#[109,97,120]⟩
def nmA (L:List Tk) (a:Nat) (b:Bool):Nat:=bif nmOk L a b then a+1 else a
def nmB (L:List Tk) (a:Nat) (b:Bool):Bool:=bif nmOk L a b then b else true
def atP (L:List Tk) (rec:Nat->Bool->Rd) (a:Nat):Rd:=bif (sm1 L rec a false).2.2 then (zE,(sm1 L rec a false).2.1,true) else ((sm1 L rec a false).1.headD zE,(sm1 L rec a false).2.1,false)
def lkA (L:List Tk) (a:Nat):Nat:=nmA L (skF L a false 3 tLp) (!isF L a false 3 tLp)
def lkB (L:List Tk) (a:Nat):Bool:=nmB L (skF L a false 3 tLp) (!isF L a false 3 tLp)
def lkS (L:List Tk) (a:Nat):ByteArray:=nmS L (skF L a false 3 tLp) (!isF L a false 3 tLp)
def lkR (L:List Tk) (rec:Nat->Bool->Rd) (a:Nat):Rds:=sm1 L rec (skF L (lkA L a) (lkB L a) 3 tCm) (!isF L (lkA L a) (lkB L a) 3 tCm)
def mmR (L:List Tk) (rec:Nat->Bool->Rd) (a:Nat):Rds:=sm2 L rec (skF L a false 3 tLp) (!isF L a false 3 tLp)
def atN (L:List Tk) (rec:Nat->Bool->Rd) (a:Nat):Rd:=
 bif isF L (nmA L a false) (nmB L a false) 3 tLp then (.mk 3 0 ⟨#[]⟩ (nmS L a false) (anF L rec (nmA L a false+1)).1,(anF L rec (nmA L a false+1)).2)
 else (.mk 1 0 ⟨#[]⟩ (nmS L a false) [],nmA L a false,nmB L a false)
def v86 (L:List Tk) (rec:Nat->Bool->Rd) (a:Nat) (b:Bool):Rd:=
 bif b then (zE,a,true) else
 bif kdF L a false 1 then (nbE L a false,nbA L a false,false) else
 bif isF L a false 3 tLp then atP L rec (a+1) else
 bif isF L a false 0 vsr then (.mk 2 0 ⟨#[]⟩ (lkS L (a+1)) (lkR L rec (a+1)).1,(lkR L rec (a+1)).2) else
 bif isF L a false 0 tMin then (.mk 10 0 ⟨#[]⟩ ⟨#[]⟩ (mmR L rec (a+1)).1,(mmR L rec (a+1)).2) else
 bif isF L a false 0 tMax then (.mk 11 0 ⟨#[]⟩ ⟨#[]⟩ (mmR L rec (a+1)).1,(mmR L rec (a+1)).2) else
 atN L rec a
structure wof (Γ:List (Nat×List Cell)) (L:List Tk) (rec:Nat->Bool->Rd) (a:Nat):Prop where
 len:L.length<=1073741824
 mono:∀ i c,i<=(rec i c).2.1
 le:∀ i c,i<=L.length->(rec i c).2.1<=L.length
 run:∀ i c,a<i->i<=L.length->z00 Γ prog 216 [rdF L i c] [.one (.ptr 0 0)] [rdF L (rec i c).2.1 (rec i c).2.2] (.agg ((exC (rec i c).1).map .dat))
abbrev ymn (Γ:List (Nat×List Cell)) (L:List Tk) (a:Nat) (b:Bool) (r:Rd):Prop:=z00 Γ prog 222 [rdF L a b] [.one (.ptr 0 0)] [rdF L r.2.1 r.2.2] (.agg ((exC r.1).map .dat))
theorem w3a {L:List Tk} {a:Nat} {b:Bool} {k:Int} {t:ByteArray} (h:a<=L.length):skF L a b k t<=L.length:=by
 unfold skF
 cases hi:isF L a b k t with
 | true=>have:=(vib hi).1;exact this
 | false=>exact h
theorem vjg {L:List Tk} {a:Nat} {b:Bool} {k:Int} {t:ByteArray}:a<=skF L a b k t:=by
 unfold skF
 cases isF L a b k t with
 | true=>exact Nat.le_succ _
 | false=>exact Nat.le_refl _
theorem v1c {L:List Tk} {a:Nat} {b:Bool} (h:a<=L.length):nmA L a b<=L.length:=by
 unfold nmA nmOk
 cases hi:kdF L a b 0 with
 | true=>have:=(vth hi).1;cases isWord (L.getD a default).t<;>simp<;>omega
 | false=>exact h
theorem x2k {L:List Tk} {a:Nat} {b:Bool}:a<=nmA L a b:=by
 unfold nmA
 cases nmOk L a b with
 | true=>exact Nat.le_succ _
 | false=>exact Nat.le_refl _
theorem skT {L:List Tk} {a:Nat} {b:Bool} {k:Int} {t:ByteArray} (h:isF L a b k t=true):skF L a b k t=a+1:=by unfold skF;rw [h];rfl
theorem skN {L:List Tk} {a:Nat} {b:Bool} {k:Int} {t:ByteArray} (h:isF L a b k t=false):skF L a b k t=a:=by unfold skF;rw [h];rfl
theorem z3n (L:List Tk) (a:Nat):ymn Γ L a true (zE,a,true):=by
 refine hEh [] func222 f222.eq_1 ?_
 repeat' first | refine hF ?_ ?_<;>intros | refine hI ?_
 exact ww9 1 rfl (by kernel_rfl) rfl
theorem w5n (L:List Tk) (a:Nat) (hl:L.length<=1073741824) (h:kdF L a false 1=true):ymn Γ L a false (nbE L a false,nbA L a false,false):=by
 have k:=y4j (Γ:=Γ) L a false 1;have n:=v87 (Γ:=Γ) L a false hl (vth h).1;rw [h] at k;generalize nbE L a false=x at *;generalize nbA L a false=a1 at *;refine hEh [] func222 f222.eq_1 ?_
 repeat' first | refine hF ?_ ?_<;>intros | refine hI ?_
 refine hca [0] k ?_
 repeat' first | refine hF ?_ ?_<;>intros | refine hI ?_
 refine hca [0] n ?_
 repeat' first | refine hF ?_ ?_<;>intros | refine hI ?_
 exact StH.done 1 rfl (by kernel_rfl) rfl rfl
theorem zke (L:List Tk) (rec:Nat->Bool->Rd) (a:Nat) (h1:kdF L a false 1=false) (h2:isF L a false 3 tLp=true) (H:wof Γ L rec a):ymn Γ L a false (atP L rec (a+1)):=by
 have k:=y4j (Γ:=Γ) L a false 1;have s:=x5i (Γ:=Γ) L a false 3 tLp H.len;have m:=x4u (Γ:=Γ) L rec (a+1) false H.len (fun _=>H.run (a+1) false (Nat.lt_succ_self _) (vib h2).1);rw [h1] at k;rw [skT h2,h2] at s;unfold atP;have e:sm1 L rec (a+1) false=clF L [(rec (a+1) false).1] (rec (a+1) false).2.1 (rec (a+1) false).2.2:=rfl;rw [e] at m ⊢;clear e H h1 h2;generalize rec (a+1) false=r at *;unfold clF at *;generalize skF L r.2.1 r.2.2 3 tRp=a' at *;generalize (!isF L r.2.1 r.2.2 3 tRp)=b' at *;obtain ⟨x,a1,b1⟩:=r;simp only [List.map_cons,List.map_nil,Ex.xa4] at m
 cases b' with
 | true=>
  refine hEh [] func222 f222.eq_1 ?_
  repeat' first | refine hF ?_ ?_<;>intros | refine hI ?_
  refine hca [0] k ?_
  repeat' first | refine hF ?_ ?_<;>intros | refine hI ?_
  refine hca [0] s ?_
  repeat' first | refine hF ?_ ?_<;>intros | refine hI ?_
  refine hca [0] m ?_
  repeat' first | refine hF ?_ ?_<;>intros | refine hI ?_
  exact ww9 1 rfl (by kernel_rfl) rfl
 | false=>
  refine hEh [] func222 f222.eq_1 ?_
  repeat' first | refine hF ?_ ?_<;>intros | refine hI ?_
  refine hca [0] k ?_
  repeat' first | refine hF ?_ ?_<;>intros | refine hI ?_
  refine hca [0] s ?_
  repeat' first | refine hF ?_ ?_<;>intros | refine hI ?_
  refine hca [0] m ?_
  repeat' first | refine hF ?_ ?_<;>intros | refine hI ?_
  exact StH.done 1 rfl (by kernel_rfl) rfl rfl
theorem zhj (L:List Tk) (rec:Nat->Bool->Rd) (a:Nat) (h1:kdF L a false 1=false) (h2:isF L a false 3 tLp=false) (h3:isF L a false 0 vsr=true) (H:wof Γ L rec a) :
 ymn Γ L a false (.mk 2 0 ⟨#[]⟩ (lkS L (a+1)) (lkR L rec (a+1)).1,(lkR L rec (a+1)).2):=by
 have hlt:=(vib h3).1;have k:=y4j (Γ:=Γ) L a false 1;have s:=x5i (Γ:=Γ) L a false 3 tLp H.len;have s2:=x5i (Γ:=Γ) L a false 0 vsr H.len;have g1:=zz8 (Γ:=Γ) L (a+1) false tLp H.len;have nm:=vxc (Γ:=Γ) L (skF L (a+1) false 3 tLp) (!isF L (a+1) false 3 tLp) H.len;have g2:=zz8 (Γ:=Γ) L (lkA L (a+1)) (lkB L (a+1)) tCm H.len;have h5:a+1<=lkA L (a+1):=Nat.le_trans (vjg (b:=false) (k:=3) (t:=tLp)) x2k;have h6:lkA L (a+1)<=L.length:=v1c (w3a (by omega));have m:=x4u (Γ:=Γ) L rec (skF L (lkA L (a+1)) (lkB L (a+1)) 3 tCm) (!isF L (lkA L (a+1)) (lkB L (a+1)) 3 tCm) H.len (fun _=>H.run _ false (by have:=vjg (L:=L) (a:=lkA L (a+1)) (b:=lkB L (a+1)) (k:=3) (t:=tCm);omega) (w3a h6));change z00 _ _ _ _ _ [rdF L (lkA L (a+1)) (lkB L (a+1))] (.one (.dat (cS (lkS L (a+1))))) at nm;change z00 _ _ _ _ _ [rdF L (lkR L rec (a+1)).2.1 (lkR L rec (a+1)).2.2] (.one (.dat (.sl 5 ((lkR L rec (a+1)).1.map Ex.cells)))) at m;rw [h1] at k;rw [skN h2,h2] at s;rw [skT h3,h3] at s2;clear H h1 h2 h3 h5 h6;generalize lkR L rec (a+1)=r at *;generalize skF L (lkA L (a+1)) (lkB L (a+1)) 3 tCm=a3 at *;generalize (!isF L (lkA L (a+1)) (lkB L (a+1)) 3 tCm)=b3 at *;generalize lkA L (a+1)=a2 at *;generalize lkB L (a+1)=b2 at *;generalize lkS L (a+1)=n at *;generalize skF L (a+1) false 3 tLp=a1 at *;generalize (!isF L (a+1) false 3 tLp)=b1 at *;obtain ⟨l,a',b'⟩:=r;refine hEh [] func222 f222.eq_1 ?_
 repeat' first | refine hF ?_ ?_<;>intros | refine hI ?_
 refine hca [0] k ?_
 repeat' first | refine hF ?_ ?_<;>intros | refine hI ?_
 refine hca [0] s ?_
 repeat' first | refine hF ?_ ?_<;>intros | refine hI ?_
 refine hca [0] s2 ?_
 repeat' first | refine hF ?_ ?_<;>intros | refine hI ?_
 refine hca [0] g1 ?_
 repeat' first | refine hF ?_ ?_<;>intros | refine hI ?_
 refine hca [0] nm ?_
 repeat' first | refine hF ?_ ?_<;>intros | refine hI ?_
 refine hca [0] g2 ?_
 repeat' first | refine hF ?_ ?_<;>intros | refine hI ?_
 refine hca [0] m ?_
 repeat' first | refine hF ?_ ?_<;>intros | refine hI ?_
 exact StH.done 1 rfl (by kernel_rfl) rfl rfl
theorem y3k (L:List Tk) (rec:Nat->Bool->Rd) (a:Nat) (h1:kdF L a false 1=false) (h2:isF L a false 3 tLp=false) (h3:isF L a false 0 vsr=false) (h4:isF L a false 0 tMin=true) (H:wof Γ L rec a) :
 ymn Γ L a false (.mk 10 0 ⟨#[]⟩ ⟨#[]⟩ (mmR L rec (a+1)).1,(mmR L rec (a+1)).2):=by
 have hlt:=(vib h4).1;have k:=y4j (Γ:=Γ) L a false 1;have s:=x5i (Γ:=Γ) L a false 3 tLp H.len;have s2:=x5i (Γ:=Γ) L a false 0 vsr H.len;have s3:=x5i (Γ:=Γ) L a false 0 tMin H.len;have g1:=zz8 (Γ:=Γ) L (a+1) false tLp H.len;have b1:a<skF L (a+1) false 3 tLp:=vjg;have b2:skF L (a+1) false 3 tLp<=L.length:=w3a (by omega);have m:=vx9 (Γ:=Γ) L rec (skF L (a+1) false 3 tLp) (!isF L (a+1) false 3 tLp) H.len (fun _=>H.run _ false b1 b2) (fun c _=>H.run _ c (Nat.lt_of_lt_of_le b1 (Nat.le_trans (H.mono _ _) vjg)) (w3a (H.le _ _ b2)));change z00 _ _ _ _ _ [rdF L (mmR L rec (a+1)).2.1 (mmR L rec (a+1)).2.2] (.one (.dat (.sl 5 ((mmR L rec (a+1)).1.map Ex.cells)))) at m;rw [h1] at k;rw [skN h2,h2] at s;rw [skN h3,h3] at s2;rw [skT h4,h4] at s3;clear H h1 h2 h3 h4 b1 b2;generalize mmR L rec (a+1)=r at *;generalize skF L (a+1) false 3 tLp=a1 at *;generalize (!isF L (a+1) false 3 tLp)=b1 at *;obtain ⟨l,a',b'⟩:=r;refine hEh [] func222 f222.eq_1 ?_
 repeat' first | refine hF ?_ ?_<;>intros | refine hI ?_
 refine hca [0] k ?_
 repeat' first | refine hF ?_ ?_<;>intros | refine hI ?_
 refine hca [0] s ?_
 repeat' first | refine hF ?_ ?_<;>intros | refine hI ?_
 refine hca [0] s2 ?_
 repeat' first | refine hF ?_ ?_<;>intros | refine hI ?_
 refine hca [0] s3 ?_
 repeat' first | refine hF ?_ ?_<;>intros | refine hI ?_
 refine hca [0] g1 ?_
 repeat' first | refine hF ?_ ?_<;>intros | refine hI ?_
 refine hca [0] m ?_
 repeat' first | refine hF ?_ ?_<;>intros | refine hI ?_
 exact StH.done 1 rfl (by kernel_rfl) rfl rfl
theorem ym7 (L:List Tk) (rec:Nat->Bool->Rd) (a:Nat) (h1:kdF L a false 1=false) (h2:isF L a false 3 tLp=false) (h3:isF L a false 0 vsr=false) (h4:isF L a false 0 tMin=false) (h5:isF L a false 0 tMax=true) (H:wof Γ L rec a) :
 ymn Γ L a false (.mk 11 0 ⟨#[]⟩ ⟨#[]⟩ (mmR L rec (a+1)).1,(mmR L rec (a+1)).2):=by
 have hlt:=(vib h5).1;have k:=y4j (Γ:=Γ) L a false 1;have s:=x5i (Γ:=Γ) L a false 3 tLp H.len;have s2:=x5i (Γ:=Γ) L a false 0 vsr H.len;have s3:=x5i (Γ:=Γ) L a false 0 tMin H.len;have s4:=x5i (Γ:=Γ) L a false 0 tMax H.len;have g1:=zz8 (Γ:=Γ) L (a+1) false tLp H.len;have b1:a<skF L (a+1) false 3 tLp:=vjg;have b2:skF L (a+1) false 3 tLp<=L.length:=w3a (by omega);have m:=vx9 (Γ:=Γ) L rec (skF L (a+1) false 3 tLp) (!isF L (a+1) false 3 tLp) H.len (fun _=>H.run _ false b1 b2) (fun c _=>H.run _ c (Nat.lt_of_lt_of_le b1 (Nat.le_trans (H.mono _ _) vjg)) (w3a (H.le _ _ b2)));change z00 _ _ _ _ _ [rdF L (mmR L rec (a+1)).2.1 (mmR L rec (a+1)).2.2] (.one (.dat (.sl 5 ((mmR L rec (a+1)).1.map Ex.cells)))) at m;rw [h1] at k;rw [skN h2,h2] at s;rw [skN h3,h3] at s2;rw [skN h4,h4] at s3;rw [skT h5,h5] at s4;clear H h1 h2 h3 h4 h5 b1 b2;generalize mmR L rec (a+1)=r at *;generalize skF L (a+1) false 3 tLp=a1 at *;generalize (!isF L (a+1) false 3 tLp)=b1 at *;obtain ⟨l,a',b'⟩:=r;refine hEh [] func222 f222.eq_1 ?_
 repeat' first | refine hF ?_ ?_<;>intros | refine hI ?_
 refine hca [0] k ?_
 repeat' first | refine hF ?_ ?_<;>intros | refine hI ?_
 refine hca [0] s ?_
 repeat' first | refine hF ?_ ?_<;>intros | refine hI ?_
 refine hca [0] s2 ?_
 repeat' first | refine hF ?_ ?_<;>intros | refine hI ?_
 refine hca [0] s3 ?_
 repeat' first | refine hF ?_ ?_<;>intros | refine hI ?_
 refine hca [0] s4 ?_
 repeat' first | refine hF ?_ ?_<;>intros | refine hI ?_
 refine hca [0] g1 ?_
 repeat' first | refine hF ?_ ?_<;>intros | refine hI ?_
 refine hca [0] m ?_
 repeat' first | refine hF ?_ ?_<;>intros | refine hI ?_
 exact StH.done 1 rfl (by kernel_rfl) rfl rfl
theorem vjb (L:List Tk) (rec:Nat->Bool->Rd) (a:Nat) (_ha:a<=L.length) (h1:kdF L a false 1=false) (h2:isF L a false 3 tLp=false) (h3:isF L a false 0 vsr=false) (h4:isF L a false 0 tMin=false) (h5:isF L a false 0 tMax=false) (H:wof Γ L rec a) :
 ymn Γ L a false (atN L rec a):=by
 have k:=y4j (Γ:=Γ) L a false 1;have s:=x5i (Γ:=Γ) L a false 3 tLp H.len;have s2:=x5i (Γ:=Γ) L a false 0 vsr H.len;have s3:=x5i (Γ:=Γ) L a false 0 tMin H.len;have s4:=x5i (Γ:=Γ) L a false 0 tMax H.len;have nm:=vxc (Γ:=Γ) L a false H.len;have s5:=x5i (Γ:=Γ) L (nmA L a false) (nmB L a false) 3 tLp H.len;change z00 _ _ _ _ _ [rdF L (nmA L a false) (nmB L a false)] (.one (.dat (cS (nmS L a false)))) at nm;rw [h1] at k;rw [skN h2,h2] at s;rw [skN h3,h3] at s2;rw [skN h4,h4] at s3;rw [skN h5,h5] at s4;clear h1 h2 h3 h4 h5;unfold atN
 cases h6:isF L (nmA L a false) (nmB L a false) 3 tLp with
 | true=>
  obtain ⟨h7,h8⟩:=vib h6;have h9:a<=nmA L a false:=x2k;have m:=znk (Γ:=Γ) L rec (nmA L a false+1) H.len h7 (fun i=>H.mono i false) (fun i hi=>H.run i false (by omega));rw [h6,skT h6] at s5;clear H h6 h7 h9;rw [cond_true];rw [h8] at nm s5;clear h8;generalize anF L rec (nmA L a false+1)=r at *;generalize nmA L a false=a1 at *;generalize nmS L a false=n at *;obtain ⟨l,a',b'⟩:=r;refine hEh [] func222 f222.eq_1 ?_
  repeat' first | refine hF ?_ ?_<;>intros | refine hI ?_
  refine hca [0] k ?_
  repeat' first | refine hF ?_ ?_<;>intros | refine hI ?_
  refine hca [0] s ?_
  repeat' first | refine hF ?_ ?_<;>intros | refine hI ?_
  refine hca [0] s2 ?_
  repeat' first | refine hF ?_ ?_<;>intros | refine hI ?_
  refine hca [0] s3 ?_
  repeat' first | refine hF ?_ ?_<;>intros | refine hI ?_
  refine hca [0] s4 ?_
  repeat' first | refine hF ?_ ?_<;>intros | refine hI ?_
  refine hca [0] nm ?_
  repeat' first | refine hF ?_ ?_<;>intros | refine hI ?_
  refine hca [0] s5 ?_
  repeat' first | refine hF ?_ ?_<;>intros | refine hI ?_
  refine hca [0] m ?_
  repeat' first | refine hF ?_ ?_<;>intros | refine hI ?_
  exact StH.done 1 rfl (by kernel_rfl) rfl rfl
 | false=>
  rw [h6,skN h6] at s5;clear H h6;rw [cond_false];generalize nmA L a false=a1 at *;generalize nmB L a false=b1 at *;generalize nmS L a false=n at *;refine hEh [] func222 f222.eq_1 ?_
  repeat' first | refine hF ?_ ?_<;>intros | refine hI ?_
  refine hca [0] k ?_
  repeat' first | refine hF ?_ ?_<;>intros | refine hI ?_
  refine hca [0] s ?_
  repeat' first | refine hF ?_ ?_<;>intros | refine hI ?_
  refine hca [0] s2 ?_
  repeat' first | refine hF ?_ ?_<;>intros | refine hI ?_
  refine hca [0] s3 ?_
  repeat' first | refine hF ?_ ?_<;>intros | refine hI ?_
  refine hca [0] s4 ?_
  repeat' first | refine hF ?_ ?_<;>intros | refine hI ?_
  refine hca [0] nm ?_
  repeat' first | refine hF ?_ ?_<;>intros | refine hI ?_
  refine hca [0] s5 ?_
  repeat' first | refine hF ?_ ?_<;>intros | refine hI ?_
  exact ww9 1 rfl (by kernel_rfl) rfl
theorem yyw (L:List Tk) (rec:Nat->Bool->Rd) (a:Nat) (b:Bool) (ha:a<=L.length) (H:wof Γ L rec a):ymn Γ L a b (v86 L rec a b):=by
 unfold v86
 cases b with
 | true=>exact z3n L a
 | false=>
  rw [cond_false]
  cases h1:kdF L a false 1 with
  | true=>exact w5n L a H.len h1
  | false=>
   rw [cond_false]
   cases h2:isF L a false 3 tLp with
   | true=>exact zke L rec a h1 h2 H
   | false=>
    rw [cond_false]
    cases h3:isF L a false 0 vsr with
    | true=>exact zhj L rec a h1 h2 h3 H
    | false=>
     rw [cond_false]
     cases h4:isF L a false 0 tMin with
     | true=>exact y3k L rec a h1 h2 h3 h4 H
     | false=>
      rw [cond_false]
      cases h5:isF L a false 0 tMax with
      | true=>exact ym7 L rec a h1 h2 h3 h4 h5 H
      | false=>exact vjb L rec a ha h1 h2 h3 h4 h5 H
theorem yqt {P:Program} (φ:List Nat) (heff:List (Nat×SB)) {f:FuncId} {η ηs ηs':List SB} {args l:List SV} {res:SV} {K:Bool->List Nat->List (Nat×SB)->SV->Prop} (h:z00 Γ P f ηs args ηs' res) (hl:args.map (wi2 (atR φ η.length))=l) (hn:φ.Nodup) (hb:(φ.all fun j=>Nat.blt j η.length)=true)
 (hp:φ.map (fun j=>η[j]?)=ηs.map (fun x=>some (rnSB (atR φ η.length) x))) (hlen:Nat.ble φ.length ηs'.length=true) (he:putR φ η ηs'=appL heff η) (hk:K true (List.range η.length) heff (rnSV (atR φ η.length) res)):wj1 Γ P f η l K:=by
 refine vsg heff ?_ hk;rw [<-he,<-hl];exact z00.at φ h hn hb hp hlen
theorem pc2:((2:Nat):Int)=2:=rfl
abbrev tNot:ByteArray:=⟨#[110,111,116]⟩
abbrev tIf:ByteArray:=⟨#[105,102]⟩
abbrev y59:ByteArray:=⟨#[116,104,101,110]⟩
abbrev vui:ByteArray:=⟨#[101,108,115,101]⟩
def ifB (L:List Tk) (rec:Nat->Bool->Rd) (p:Rd) (t:ByteArray):Rd:=v86 L rec (skF L p.2.1 p.2.2 0 t) (!isF L p.2.1 p.2.2 0 t)
def ifR (L:List Tk) (rec:Nat->Bool->Rd) (a:Nat):Rd:=
 (.mk 5 0 ⟨#[]⟩ ⟨#[]⟩ [(v86 L rec a false).1,(ifB L rec (v86 L rec a false) y59).1,(ifB L rec (ifB L rec (v86 L rec a false) y59) vui).1],(ifB L rec (ifB L rec (v86 L rec a false) y59) vui).2)
def opM (L:List Tk) (rec:Nat->Bool->Rd) (x:Rd):Rd:=match opNx L x.2.1 x.2.2 with
 | none=>x
 | some i=>(.mk i 0 ⟨#[]⟩ ⟨#[]⟩ [x.1,(v86 L rec (x.2.1+1) x.2.2).1],(v86 L rec (x.2.1+1) x.2.2).2)
def xbk (L:List Tk) (rec:Nat->Bool->Rd) (a:Nat) (b:Bool):Rd:=
 bif b then (zE,a,true) else
 bif isF L a false 0 tNot then (.mk 4 0 ⟨#[]⟩ ⟨#[]⟩ [(v86 L rec (a+1) false).1],(v86 L rec (a+1) false).2) else
 bif isF L a false 0 tIf then ifR L rec (a+1) else
 opM L rec (v86 L rec a false)
abbrev yl8 (Γ:List (Nat×List Cell)) (L:List Tk) (a:Nat) (b:Bool) (r:Rd):Prop:=z00 Γ prog 216 [rdF L a b] [.one (.ptr 0 0)] [rdF L r.2.1 r.2.2] (.agg ((exC r.1).map .dat))
theorem x5h {e η η':List SB} {l:List HC} {cs:List Cell} {bs:List Nat} {J':List SV} (m:Nat) (h:wrt η [.agg l]=some ([.agg cs],bs)) (hm:Nat.ble e.length m=true) (hc:z6m m [SV.agg (cs.map .dat)] (appL (frzE η bs) η)=true) (hσ:[SV.agg (cs.map .dat)]=J') (hη:(appL (frzE η bs) η).take m=η') :
 StH Γ e [.agg l] η J' η':=
 StH.trans (StH.frzA h rfl (fun l h=>by cases h) (fun l h=>by cases h)) (StH.done m hm hc hσ hη)
theorem v6y {o:Int} {l:List Ex} {rows:List (List Cell)} (h:l.map Ex.cells=rows):[SV.agg [.dat (cI o),.dat (cI 0),.dat (cS ⟨#[]⟩),.dat (cS ⟨#[]⟩),.dat (.sl 5 rows)]]=[SV.agg ((exC (.mk o 0 ⟨#[]⟩ ⟨#[]⟩ l)).map .dat)]:=by
 rw [<-h];rfl
theorem x1y (L:List Tk) (a:Nat) (hl:L.length<=1073741824) (h1:isF L a false 0 tNot=true) (r:Rd) (m:ymn Γ L (a+1) false r):yl8 Γ L a false (.mk 4 0 ⟨#[]⟩ ⟨#[]⟩ [r.1],r.2):=by
 have s:=x5i (Γ:=Γ) L a false 0 tNot hl;rw [skT h1,h1] at s;obtain ⟨x,a',b'⟩:=r;unfold ymn at m;refine hEh [] func216 f216.eq_1 ?_
 repeat' first | refine hF ?_ ?_<;>intros | refine hI ?_
 refine hca [0] s ?_
 repeat' first | refine hF ?_ ?_<;>intros | refine hI ?_
 refine hca [0] m ?_
 repeat' first | refine hF ?_ ?_<;>intros | refine hI ?_
 exact StH.done 1 rfl (by kernel_rfl) (v6y (by simp only [List.map_cons,List.map_nil,Ex.xa4])) rfl
theorem vqe (L:List Tk) (a:Nat) (hl:L.length<=1073741824) (h1:isF L a false 0 tNot=false) (h2:isF L a false 0 tIf=true) (p q r:Rd) (m:ymn Γ L (a+1) false p)
 (m1:ymn Γ L (skF L p.2.1 p.2.2 0 y59) (!isF L p.2.1 p.2.2 0 y59) q) (m2:ymn Γ L (skF L q.2.1 q.2.2 0 vui) (!isF L q.2.1 q.2.2 0 vui) r):yl8 Γ L a false (.mk 5 0 ⟨#[]⟩ ⟨#[]⟩ [p.1,q.1,r.1],r.2):=by
 have s:=x5i (Γ:=Γ) L a false 0 tNot hl;have s1:=x5i (Γ:=Γ) L a false 0 tIf hl;have n1:=vy4 (Γ:=Γ) L p.2.1 p.2.2 0 y59 hl;have n2:=vy4 (Γ:=Γ) L q.2.1 q.2.2 0 vui hl;rw [skN h1,h1] at s;rw [skT h2,h2] at s1;obtain ⟨x,a1,b1⟩:=p;obtain ⟨y,a2,b2⟩:=q;obtain ⟨z,a',b'⟩:=r;unfold ymn at m m1 m2;simp only at m m1 m2 n1 n2;generalize skF L a1 b1 0 y59=i1 at *;generalize (!isF L a1 b1 0 y59)=c1 at *;generalize skF L a2 b2 0 vui=i2 at *;generalize (!isF L a2 b2 0 vui)=c2 at *;clear h1 h2;refine hEh [(6,[.own])] func216 f216.eq_1 ?_
 repeat' first | refine hF ?_ ?_<;>intros | refine hI ?_ | (first | with_reducible refine xwl ?_ | with_reducible refine yxz ?_)<;>refine hgS ?_
 refine xdg [0] s rfl (by decide) rfl rfl rfl ?_;refine hg3 @pc2 @decide_true @decide_false ?_
 repeat' first | refine hF ?_ ?_<;>intros | refine hI ?_ | (first | with_reducible refine xwl ?_ | with_reducible refine yxz ?_)<;>refine hgS ?_
 refine xdg [0] s1 rfl (by decide) rfl rfl rfl ?_;refine hg3 @pc2 @decide_true @decide_false ?_
 repeat' first | refine hF ?_ ?_<;>intros | refine hI ?_ | (first | with_reducible refine xwl ?_ | with_reducible refine yxz ?_)<;>refine hgS ?_
 refine xdg [0] m rfl (by decide) rfl rfl rfl ?_;refine hg3 @pc2 @decide_true @decide_false ?_
 repeat' first | refine hF ?_ ?_<;>intros | refine hI ?_ | (first | with_reducible refine xwl ?_ | with_reducible refine yxz ?_)<;>refine hgS ?_
 refine xdg [0] n1 rfl (by decide) rfl rfl rfl ?_;refine hg3 @pc2 @decide_true @decide_false ?_
 repeat' first | refine hF ?_ ?_<;>intros | refine hI ?_ | (first | with_reducible refine xwl ?_ | with_reducible refine yxz ?_)<;>refine hgS ?_
 refine yqt [0] [(0,rdF L a2 b2)] m1 rfl (by decide) rfl rfl rfl rfl ?_;refine hg3 @pc2 @decide_true @decide_false ?_
 repeat' first | refine hF ?_ ?_<;>intros | refine hI ?_ | (first | with_reducible refine xwl ?_ | with_reducible refine yxz ?_)<;>refine hgS ?_
 refine xdg [0] n2 rfl (by decide) rfl rfl rfl ?_;refine hg3 @pc2 @decide_true @decide_false ?_
 repeat' first | refine hF ?_ ?_<;>intros | refine hI ?_ | (first | with_reducible refine xwl ?_ | with_reducible refine yxz ?_)<;>refine hgS ?_
 refine yqt [0] [(0,rdF L a' b')] m2 rfl (by decide) rfl rfl rfl rfl ?_;refine hg3 @pc2 @decide_true @decide_false ?_
 repeat' first | refine hF ?_ ?_<;>intros | refine hI ?_ | (first | with_reducible refine xwl ?_ | with_reducible refine yxz ?_)<;>refine hgS ?_
 exact x5h (bs:=[5]) 1 rfl rfl (by kernel_rfl) (v6y (by simp only [List.map_cons,List.map_nil,Ex.xa4])) rfl
theorem x4b (L:List Tk) (a:Nat) (hl:L.length<=1073741824) (h1:isF L a false 0 tNot=false) (h2:isF L a false 0 tIf=false) (x:Ex) (a1:Nat) (b1:Bool) (R:Rd) (m:ymn Γ L a false (x,a1,b1))
 (m1:∀ i,opNx L a1 b1=some i->ymn Γ L (a1+1) b1 R):yl8 Γ L a false (match opNx L a1 b1 with
   | none=>(x,a1,b1)
   | some i=>(.mk i 0 ⟨#[]⟩ ⟨#[]⟩ [x,R.1],R.2)):=by
 have s:=x5i (Γ:=Γ) L a false 0 tNot hl;have s1:=x5i (Γ:=Γ) L a false 0 tIf hl;have o:=x7v (Γ:=Γ) L a1 b1 hl;rw [skN h1,h1] at s;rw [skN h2,h2] at s1;clear h1 h2;unfold ymn at m;simp only at m
 cases hop:opNx L a1 b1 with
 | none=>
  rw [hop] at o;clear m1 hop;unfold opR at o;refine hEh [] func216 f216.eq_1 ?_
  repeat' first | refine hF ?_ ?_<;>intros | refine hI ?_
  refine hca [0] s ?_
  repeat' first | refine hF ?_ ?_<;>intros | refine hI ?_
  refine hca [0] s1 ?_
  repeat' first | refine hF ?_ ?_<;>intros | refine hI ?_
  refine hca [0] m ?_
  repeat' first | refine hF ?_ ?_<;>intros | refine hI ?_
  refine hca [0] o ?_
  repeat' first | refine hF ?_ ?_<;>intros | refine hI ?_
  exact StH.done 1 rfl (by kernel_rfl) rfl rfl
 | some i=>
  have m1:=m1 i hop;rw [hop] at o;clear hop;obtain ⟨y,a',b'⟩:=R;unfold ymn at m1;simp only at m1;unfold opR at o;refine hEh [] func216 f216.eq_1 ?_
  repeat' first | refine hF ?_ ?_<;>intros | refine hI ?_
  refine hca [0] s ?_
  repeat' first | refine hF ?_ ?_<;>intros | refine hI ?_
  refine hca [0] s1 ?_
  repeat' first | refine hF ?_ ?_<;>intros | refine hI ?_
  refine hca [0] m ?_
  repeat' first | refine hF ?_ ?_<;>intros | refine hI ?_
  refine hca [0] o ?_
  repeat' first | refine hF ?_ ?_<;>intros | refine hI ?_
  refine yqt [0] [(0,rdF L a' b')] m1 rfl (by decide) rfl rfl rfl rfl ?_;refine hg ?_
  repeat' first | refine hF ?_ ?_<;>intros | refine hI ?_
  exact StH.done 1 rfl (by kernel_rfl) (v6y (by simp only [List.map_cons,List.map_nil,Ex.xa4])) rfl
end Go.Hp.T
