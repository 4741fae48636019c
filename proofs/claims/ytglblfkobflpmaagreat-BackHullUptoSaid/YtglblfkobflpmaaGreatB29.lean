/- The proof, part B29: Ga, Nb, Ne, Gb, Nf, Gc, Gn. -/
import Derived.Test.YtglblfkobflpmaaGreatB28
import Derived.Test.YtglblfkobflpmaaGreatB27
import Derived.Test.YtglblfkobflpmaaGreatB24
namespace Go.Hp.T
open Go Go.RowKit Go.Slot Go.Hp Go.Slot.T
open Go.Proofs.Tryz (prog)
attribute [local irreducible] hide RH
set_option maxRecDepth 10000
set_option maxHeartbeats 4000000
variable {Γ:List (Nat×List Cell)}
def qF:Option Rat->Fc
 | none=>Fc.zero
 | some q=>Fc.of q
abbrev qC (v:Option Rat):List Cell:=[.raw (.int .i64 (qF v).s),.ints .i64 (qF v).L,.raw (.int .i64 (qF v).t),.ints .i64 (qF v).M]
abbrev qz (v:Option Rat):Nat:=(qF v).sz
theorem vvl {v:Option Rat}:(qF v).ok↔v.isSome=true:=by
 cases v with
 | none=>exact ⟨fun h=>absurd h Fc.x8i,fun h=>by cases h⟩
 | some q=>exact ⟨fun _=>rfl,fun _=>Fc.xd3 q⟩
theorem wcn {a b:Option Rat} (h:qF a=qF b):a=b:=by
 cases a with
 | none=>cases b with
  | none=>rfl
  | some y=>exact absurd (show Fc.zero.ok by rw [show Fc.zero=Fc.of y from h];exact Fc.xd3 y) Fc.x8i
 | some x=>cases b with
  | none=>exact absurd (show Fc.zero.ok by rw [show Fc.zero=Fc.of x from h.symm];exact Fc.xd3 x) Fc.x8i
  | some y=>rw [Fc.wlk h]
theorem zr1 {f:Fc} (h:f.ok):∃ q,f=qF (some q):=Fc.vy4 h
def op2O (g:Rat->Rat->Rat) (a b:Option Rat):Option Rat:=match a,b with
 | some x,some y=>some (g x y)
 | _,_=>none
def erO (a b:Option Rat):Int:=bif a.isSome&&b.isSome then 0 else 1
def cmpO (a b:Option Rat):Int:=match a,b with
 | some x,some y=>Fc.ordQ x y
 | _,_=>0
def divO (a b:Option Rat):Option Rat:=match a,b with
 | some x,some y=>bif decide (y=0) then none else some (x / y)
 | _,_=>none
def divE (a b:Option Rat):Int:=match a,b with
 | some _,some y=>bif decide (y=0) then 15 else 0
 | _,_=>1
abbrev addO:=op2O (· + ·)
abbrev subO:=op2O (· - ·)
abbrev mulO:=op2O (· * ·)
abbrev minO:=op2O (fun x y=>min x y)
abbrev maxO:=op2O (fun x y=>max x y)
theorem ykr (g:Rat->Rat->Rat) (a b:Option Rat):Fc.op2 g (qF a) (qF b)=qF (op2O g a b):=by
 cases a with
 | none=>exact Fc.zod (fun h=>Fc.x8i h.1)
 | some x=>cases b with
  | none=>exact Fc.zod (fun h=>Fc.x8i h.2)
  | some y=>exact Fc.vu1 g x y
theorem vke (a b:Option Rat):Fc.er ((qF a).ok/\(qF b).ok)=erO a b:=by
 cases a with
 | none=>exact Fc.w7p (fun h=>Fc.x8i h.1)
 | some x=>cases b with
  | none=>exact Fc.w7p (fun h=>Fc.x8i h.2)
  | some y=>exact Fc.wop ⟨Fc.xd3 x,Fc.xd3 y⟩
theorem yvp (a b:Option Rat):Fc.cmp (qF a) (qF b)=cmpO a b:=by
 cases a with
 | none=>exact if_neg (fun h=>Fc.x8i h.1)
 | some x=>cases b with
  | none=>exact if_neg (fun h=>Fc.x8i h.2)
  | some y=>exact Fc.w7n x y
theorem yt8 (a b:Option Rat):-1<=cmpO a b/\cmpO a b<=1:=by rw [<-yvp];exact Fc.wa3 _ _
abbrev qR (v:Option Rat) (e:Int):AV:=.tup [.agg (qC v),.one (cI e)]
theorem oMul (a b:Option Rat) (ha:qz a<=67108864) (hb:qz b<=67108864):CallsD Γ prog 38 [.agg (qC a),.agg (qC b)] (qR (mulO a b) (erO a b)):=by
 have h:=toD (Γ:=Γ) (zu5 (qF a) (qF b) ha hb);rw [show Fc.mul (qF a) (qF b)=_ from ykr _ a b,vke] at h;exact h
theorem oCmp (a b:Option Rat) (ha:qz a<=67108864) (hb:qz b<=67108864):CallsD Γ prog 36 [.agg (qC a),.agg (qC b)] (.one (cI (cmpO a b))):=by
 have h:=toD (Γ:=Γ) (vwg (qF a) (qF b) ha hb);rw [yvp] at h;exact h
theorem w7o (v:Option Rat) (h:qz v<=268435456):CallsD Γ prog 44 [.agg (qC v)] (.one (cB v.isSome)):=by
 have h:=toD (Γ:=Γ) (yg0 (qF v) h)
 rw [show decide (qF v).ok=v.isSome by cases hv:v.isSome with
  | true=>exact decide_eq_true (vvl.2 hv)
  | false=>exact decide_eq_false (fun h=>by rw [vvl.1 h] at hv;cases hv)] at h
 exact h
theorem oInt (n:Int) (hn:inI n):CallsD Γ prog 37 [.one (cI n)] (.agg (qC (some (n:Rat)))):=toD (wma n hn)
theorem x7m {y:Rat}:sg y.num=0↔y=0:=by
 constructor
 . intro h
   have:=vvv y.num
   exact Rat.num_eq_zero.1 (by omega)
 . rintro rfl;rfl
theorem zcz {e:Int}:RLe (.tup [.agg [cI 0,.zc,cI 0,.zc],.one (cI e)]) (qR none e):=.tup (.cons vtk (.cons (.refl _) .nil))
theorem oDiv (a b:Option Rat) (ha:qz a<=67108864) (hb:qz b<=67108864):CallsD Γ prog 106 [.agg (qC a),.agg (qC b)] (qR (divO a b) (divE a b)):=by
 cases a with
 | none=>
  have r1:CallsD Γ prog 44 [.agg (qC none)] (.one (cB false)):=w7o none (by omega);refine CallsD.run [] Go.Proofs.Tryz.func106 rfl rfl rfl ?_;simp only [Go.Proofs.Tryz.f106];refine hgR ?_
  repeat' ((first | refine hfk ?_ ?_<;>intros | refine hik ?_ | with_reducible first | refine wml (r1) ?_ | refine ysi (r1) ?_)<;>refine hgS ?_)
  exact zcz
 | some x=>
  have r1:CallsD Γ prog 44 [.agg (qC (some x))] (.one (cB true)):=w7o (some x) (by omega)
  cases b with
  | none=>
   have r2:CallsD Γ prog 44 [.agg (qC none)] (.one (cB false)):=w7o none (by omega);refine CallsD.run [] Go.Proofs.Tryz.func106 rfl rfl rfl ?_;simp only [Go.Proofs.Tryz.f106];refine hgR ?_
   repeat' ((first | refine hfk ?_ ?_<;>intros | refine hik ?_ | with_reducible first | refine wml (r1) ?_ | refine ysi (r1) ?_ | refine wml (r2) ?_ | refine ysi (r2) ?_)<;>refine hgS ?_)
   exact zcz
  | some y=>
   have r2:CallsD Γ prog 44 [.agg (qC (some y))] (.one (cB true)):=w7o (some y) (by omega);by_cases hy:y=0
   . subst hy;have hs:(qF (some (0:Rat))).s=0:=rfl;have r2:CallsD Γ prog 44 [.agg [.raw (.int .i64 0),.ints .i64 (qF (some (0:Rat))).L,.raw (.int .i64 (qF (some (0:Rat))).t),.ints .i64 (qF (some (0:Rat))).M]] (.one (cB true)):=r2;refine CallsD.run [] Go.Proofs.Tryz.func106 rfl rfl rfl ?_;simp only [Go.Proofs.Tryz.f106];refine hgR ?_
     repeat' ((first | refine hfk ?_ ?_<;>intros | refine hik ?_ | with_reducible first | refine wml (r1) ?_ | refine ysi (r1) ?_ | refine wml (r2) ?_ | refine ysi (r2) ?_)<;>refine hgS ?_)
     exact zcz
   . have h:=qDiv (Γ:=Γ) x y hy ha hb;rw [show divO (some x) (some y)=some (x / y) by simp only [divO,hy,decide_false,cond_false],show divE (some x) (some y)=0 by simp only [divE,hy,decide_false,cond_false]];exact h
theorem vnl {g:Rat->Rat->Rat} {n:Nat} (h:∀ x y,qs (g x y)<=qs x+qs y+n) (a b:Option Rat):qz (op2O g a b)<=qz a+qz b+n:=by
 cases a with
 | none=>exact Nat.zero_le _
 | some x=>cases b with
  | none=>exact Nat.zero_le _
  | some y=>exact h x y
theorem yde (a b:Option Rat):qz (subO a b)<=qz a+qz b+1:=vnl (fun x y=>by
 have:=Fc.v2c x (-y)
 rw [Fc.v83,<-Rat.sub_eq_add_neg] at this
 exact this) a b
theorem zcu (a b:Option Rat):qz (mulO a b)<=qz a+qz b:=vnl (n:=0) Fc.yob a b
theorem x11 {n:Int} (h:inI n):qz (some (n:Rat))<=4:=by
 have:=y6j (n:=n.natAbs) (by unfold inI at h;omega)
 have h1:=y6j (n:=1) (by omega);show max (dig ((n:Rat).num.natAbs)).length (dig (n:Rat).den).length<=4;rw [Rat.num_intCast,Rat.den_intCast];omega
theorem yko (s:ByteArray):CallsD Γ prog 56 [.one (cS s)] (.one (cB (isWord s))):=by
 refine CallsD.run [] Go.Proofs.Tryz.func56 rfl rfl rfl ?_;simp only [Go.Proofs.Tryz.f56];refine hgR ?_
 repeat' ((first | refine hfk ?_ ?_<;>intros | refine hik ?_)<;>refine hgS ?_)
 all_goals refine lf1 @isWord.eq_def ?_;first | exact trivial | rfl
theorem wqp (s:ByteArray) (hs:s.size<=1099511627776):CallsD Γ prog 134 [.one (cS s)] (.one (cB (isNamed s))):=by
 refine CallsD.run [] Go.Proofs.Tryz.func134 rfl rfl rfl ?_;simp only [Go.Proofs.Tryz.f134];refine hgR ?_
 repeat' ((first | refine hfk ?_ ?_<;>intros | refine hik ?_ | with_reducible first | refine wml (vfk s hs) ?_ | refine ysi (vfk s hs) ?_ | refine wml (yko s) ?_ | refine ysi (yko s) ?_)<;>refine hgS ?_)
 all_goals refine lf1 @isNamed.eq_def ?_;first | exact trivial | rfl
theorem yed (o:Int):CallsD Γ prog 135 [.one (cI o)] (.tup [.one (cS (y1g o)),.one (cB (isOp o))]):=by
 refine CallsD.run [] Go.Proofs.Tryz.func135 rfl rfl rfl ?_;simp only [Go.Proofs.Tryz.f135];refine hgR ?_
 repeat' ((first | refine hfk ?_ ?_<;>intros | refine hik ?_)<;>refine hgS ?_)
 all_goals refine lf2 @isOp.eq_def @y1g.eq_def ?_;first | exact trivial | rfl
theorem xp0 (x:Ex) (hx:x.Sm):CallsD Γ prog 93 [.agg (exC x)] (.one (cB (xes x))):=by
 have hu:=hx.u;have hs:=hx.s;have hl:=hx.len;obtain ⟨q,hq⟩:∃ q,CallsD Γ prog 133 [.one (cS x.unit)] (.tup [.one (cS q),.one (cB (yn7 x.unit))]):=yk6 x.unit (by omega);refine CallsD.run [] Go.Proofs.Tryz.func93 rfl rfl rfl ?_;simp only [Go.Proofs.Tryz.f93];refine hgR ?_
 repeat' ((first | refine hfk ?_ ?_<;>intros | refine hik ?_ | with_reducible first | refine wml (hq) ?_ | refine ysi (hq) ?_ | refine wml (wqp x.name (by omega)) ?_ | refine ysi (wqp x.name (by omega)) ?_ | refine wml (yed _) ?_ | refine ysi (yed _) ?_)<;>refine hgS ?_)
 all_goals refine lf1 @xes.eq_def ?_;first | exact trivial | rfl
theorem v69 (l:List Ex) (f:FuncId) (p:Ex->Bool) (hl:l.length<=1073741824) (h:∀ y∈l,CallsD Γ prog f [.agg (exC y)] (.one (cB (p y)))) :
 CallsD Γ prog 94 [.one (.sl 5 (l.map Ex.cells)),fN f] (.one (cI (idxF p l))):=by
 refine CallsD.run [] Go.Proofs.Tryz.func94 rfl rfl rfl ?_;simp only [Go.Proofs.Tryz.f94];refine hgR ?_;refine x20 [0,1,7] (fun i:Nat=>[(8,.one (.dat (cI i)))]) (fun _=>[]) (fun i=>i<=l.length/\∀ j,j<i->p (l.getD j default)=false) (fun i=>l.length-i) 0 ⟨Nat.zero_le _,fun j hj=>by omega⟩ ?_ ?_
 . refine hg ?_;exact StH.same svl rfl
 intro i hi;obtain ⟨hi,hj⟩:=hi;refine hg ?_
 repeat' ((first | refine hfk ?_ ?_<;>intros | refine hik ?_ | with_reducible first | refine wml (h _ (y7p (show i<l.length by omega))) ?_ | refine ysi (h _ (y7p (show i<l.length by omega))) ?_)<;>refine hgS ?_)
 . rename_i hp;rw [(w7a hi hj).2 (by omega) hp];exact RLe.ofEq rfl
 . rename_i hp;refine ⟨i+1,⟨by omega,fun j hj'=>?_⟩,by omega,StH.same svl rfl⟩
   rcases Nat.lt_or_eq_of_le (Nat.le_of_lt_succ hj') with h2 | h2
   . exact hj j h2
   . rw [h2];exact hp
 . rw [(w7a hi hj).1 (by omega)];exact RLe.ofEq rfl
theorem vps (l:List Ex) (f:FuncId) (p:Ex->Bool) (hl:l.length<=1073741824) (h:∀ y∈l,CallsD Γ prog f [.agg (exC y)] (.one (cB (p y)))) :
 CallsD Γ prog 54 [.one (.sl 5 (l.map Ex.cells)),fN f] (.one (cB (l.any p))):=by
 refine CallsD.run [] Go.Proofs.Tryz.func54 rfl rfl rfl ?_;simp only [Go.Proofs.Tryz.f54];refine hgR ?_
 repeat' ((first | refine hfk ?_ ?_<;>intros | refine hik ?_ | with_reducible first | refine wml (v69 l f p hl h) ?_ | refine ysi (v69 l f p hl h) ?_)<;>refine hgS ?_)
 exact RLe.ofEq (by rw [<-z9z])
theorem znk:∀ x:Ex,x.Sm->CallsD Γ prog 53 [.agg (exC x)] (.one (cB x.shaped)):=by
 refine Ex.ind (fun x ih hx=>?_);have hl:=hx.len
 have hw:∀ y∈x.args,CallsD Γ prog 92 [.agg (exC y)] (.one (cB (!y.shaped))):=fun y hy=>by
  refine CallsD.run [] Go.Proofs.Tryz.func92 rfl rfl rfl ?_;simp only [Go.Proofs.Tryz.f92];refine hgR ?_
  repeat' ((first | refine hfk ?_ ?_<;>intros | refine hik ?_ | with_reducible first | refine wml (ih y hy (hx.arg y hy)) ?_ | refine ysi (ih y hy (hx.arg y hy)) ?_)<;>refine hgS ?_)
  exact RLe.ofEq rfl
 refine CallsD.run [] Go.Proofs.Tryz.func53 rfl rfl rfl ?_;simp only [Go.Proofs.Tryz.f53];refine hgR ?_
 repeat' ((first | refine hfk ?_ ?_<;>intros | refine hik ?_ | with_reducible first | refine wml (xp0 x hx) ?_ | refine ysi (xp0 x hx) ?_ | refine wml (vps x.args _ _ hl hw) ?_ | refine ysi (vps x.args _ _ hl hw) ?_)<;>refine hgS ?_)
 all_goals refine RLe.ofEq ?_
 . rename_i h;rw [Ex.ypb,h];simp [List.all_eq_not_any_not]
 . rename_i h;rw [Ex.ypb,h];rfl
abbrev nB (n:Int) (T:Option TypeId):SB:=.box [.dat (cI n)] T
theorem yas:∀ x:Ex,x.Sm->∀(n lv:Int) (T:Option TypeId),0<=n->n<=1000->0<=lv->lv<=1000->
 xpp Γ prog 52 [nB n T] [.agg ((exC x).map .dat),.one (.ptr 0 0),.one (.dat (cI lv))] [nB (x.cnt n lv).2 T] (.one (.dat (cB (x.cnt n lv).1))):=by
 refine Ex.ind (fun x ih hx n lv T h0 h1 h2 h3=>?_);have hl:=hx.len
 have fin:∀(b:Bool) (k:Int),x.cnt n lv=(b,k)->StH Γ [nB n T] [SV.one (.dat (cB b))] [nB k T,.box ((exC x).map .dat) (some 24)] [SV.one (.dat (cB (x.cnt n lv).1))] [nB (x.cnt n lv).2 T]:=fun b k h=>by
  rw [h];exact StH.done 1 rfl (by kernel_rfl) rfl rfl
 refine xpp.run [] Go.Proofs.Tryz.func52 rfl rfl ?_;simp only [Go.Proofs.Tryz.f52];refine hgR ?_
 repeat' ((first | refine hfk ?_ ?_<;>intros | refine hik ?_)<;>refine hgS ?_)
 . exact fin _ _ (by rw [Ex.yn2];simp only [*];rfl)
 . have e0:x.cnt n lv=Ex.cntL x.args (n+1) (lv+1):=by rw [Ex.yn2];simp only [*];rfl
   refine x20 [1,2,23,24] (fun p:Nat×Int=>[(25,.one (.dat (cI p.1)))]) (fun p=>[nB p.2 T,.box ((exC x).map .dat) (some 24)]) (fun p=>p.1<=x.args.length/\0<=p.2/\p.2<=200/\Ex.cntL (x.args.drop p.1) p.2 (lv+1)=Ex.cntL x.args (n+1) (lv+1)) (fun p=>x.args.length-p.1) (0,n+1) ⟨Nat.zero_le _,by simp only;omega,by simp only;omega,rfl⟩ ?_ ?_
   . refine hg ?_;exact StH.same svl rfl
   rintro ⟨i,m⟩ ⟨hi,hm0,hm1,hc⟩;simp only at hi hm0 hm1 hc;refine hg ?_;refine vt2 (fun hlt hd=>?_) (fun hlt _=>?_)
   . have hlt':i<x.args.length:=by omega
     have hy:=y7p hlt';rw [xfc hlt'] at hc;refine hg ?_;refine vvn [0] (ih _ hy (hx.arg _ hy) m (lv+1) T (by omega) (by omega) (by omega) (by omega)) rfl (by decide) rfl rfl rfl ?_;have hstep:=hc;rw [Ex.cntL] at hstep;generalize hr:(x.args.getD i default).cnt m (lv+1)=r at hstep ⊢;obtain ⟨b,k⟩:=r;refine hg ?_
     cases b with
     | true=>
      have hk:=Ex.xh3 _ _ _ _ hr;refine hg ?_;exact ⟨(i+1,k),⟨by simp only;omega,by simp only;omega,hk.2,hstep⟩,by simp only;omega,StH.back [1,2,23,24,25] 2 2 2 rfl rfl rfl rfl rfl (by kernel_rfl) (StH.same svl rfl)⟩
     | false=>
      refine hg ?_;rw [e0,<-hstep];exact StH.done 1 rfl (by kernel_rfl) rfl rfl
   . refine hg ?_;rw [e0,<-hc,List.drop_eq_nil_of_le (by omega),Ex.cntL];exact StH.done 1 rfl (by kernel_rfl) rfl rfl
 . exact fin _ _ (by rw [Ex.yn2];simp only [*];rfl)
theorem zfy (x:Ex) (hx:x.Sm):CallsD Γ prog 26 [.agg (exC x)] (.one (cB (zqs x))):=by
 refine CallsD.run [] Go.Proofs.Tryz.func26 rfl rfl rfl ?_;simp only [Go.Proofs.Tryz.f26];refine hgR ?_;refine vvn [1] (yas x hx 0 1 _ (by decide) (by decide) (by decide) (by decide)) rfl (by decide) rfl rfl rfl ?_;refine hg ?_
 repeat' ((first | refine hfk ?_ ?_<;>intros | refine hik ?_ | with_reducible first | refine wml (znk x hx) ?_ | refine ysi (znk x hx) ?_)<;>refine hgS ?_)
 all_goals refine lf1 @zqs.eq_def ?_;first | exact trivial | rfl
theorem cTIn (n:Int):CallsD Γ prog 99 [.one (cI n)] (.one (cB (inT n))):=by
 refine CallsD.run [] Go.Proofs.Tryz.func99 rfl rfl rfl ?_;simp only [Go.Proofs.Tryz.f99];refine hgR ?_
 repeat' ((first | refine hfk ?_ ?_<;>intros | refine hik ?_)<;>refine hgS ?_)
 all_goals refine lf1 @inT.eq_def ?_;first | exact trivial | rfl
theorem xmw (s:ByteArray) (hs:s.size<=1073741824):CallsD Γ prog 98 [.one (cS s)] (.tup [.agg (unX (xx7 s).1),.one (cI (xx7 s).2)]):=by
 have:=zh1 (Γ:=Γ) s hs
 rw [zwu] at this;exact this
theorem w8d (t:Tb) (h1:t.name.size<=1073741824) (h2:t.unit.size<=1073741824) (h3:t.rows.length<=1073741824):CallsD Γ prog 58 [.agg (tbC t)] (.one (cB (vgr (fun s=>(xx7 s).2) t))):=by
 refine CallsD.run [] Go.Proofs.Tryz.func58 rfl rfl rfl ?_;simp only [Go.Proofs.Tryz.f58];refine hgR ?_
 repeat' ((first | refine hfk ?_ ?_<;>intros | refine hik ?_ | with_reducible first | refine wml (xmw t.unit h2) ?_ | refine ysi (xmw t.unit h2) ?_ | refine wml (vfk t.name (by omega)) ?_ | refine ysi (vfk t.name (by omega)) ?_)<;>refine hgS ?_)
 . refine lf1 @vgr.eq_def ?_;first | exact trivial | rfl
 . refine x20 [1,28,29] (fun i:Nat=>[(30,.one (.dat (cI i)))]) (fun _=>[.box ((tbC t).map .dat) (some 40),.box ((unX (xx7 t.unit).1).map .dat) (some 142)]) (fun i=>i<=t.rows.length/\∀ j,j<i->rowAt t.rows j=true) (fun i=>t.rows.length-i) 0 ⟨Nat.zero_le _,fun j hj=>by omega⟩ ?_ ?_
   . refine hg ?_;exact StH.same svl rfl
   rintro i ⟨hi,hj⟩
   have hbad:rowAt t.rows i=false->i<t.rows.length->vgr (fun s=>(xx7 s).2) t=false:=fun h h'=>by
    unfold vgr wzj;rw [v76 h' h,Bool.and_false]
   refine hg ?_
   repeat' ((first | refine hfk ?_ ?_<;>intros | refine hik ?_ | with_reducible first | refine wml (cTIn _) ?_ | refine ysi (cTIn _) ?_)<;>refine hgS ?_)
   all_goals first
    | (rw [hbad (by (refine bs1 @rowAt.eq_def ?_;try exact trivial)) (by omega)];exact RLe.ofEq rfl)
    | (refine ⟨i+1,⟨by omega,xm4 hj (by (refine bs1 @rowAt.eq_def ?_;try exact trivial))⟩,by omega,StH.back [1,28,29,30] 2 2 2 rfl rfl rfl rfl rfl (by kernel_rfl) (StH.same svl rfl)⟩)
    | (refine RLe.ofEq ?_;rw [show vgr (fun s=>(xx7 s).2) t=true from by unfold vgr wzj;rw [y45 (fun j hj'=>hj j (by omega))];(refine bsE ?_;try exact trivial)])
 . refine lf1 @vgr.eq_def ?_;first | exact trivial | rfl
 . refine lf1 @vgr.eq_def ?_;first | exact trivial | rfl
theorem yx5:∀(l:List It) (u v:Un),xx0 l u=some v->(∀ x∈l,x.ok)->qs v.f<=qs u.f+100*l.length
 | [],u,v,h,_=>by rw [xx0] at h;cases h;omega
 | x::l,u,v,h,hx=>by
  rw [xx0] at h;split at h
  . cases h
  . rename_i w hw;have h1:=yx5 l _ _ h (fun y hy=>hx y (by simp [hy]));obtain ⟨_,h2,_⟩:=xid hw;obtain ⟨_,_,h3,h4⟩:=hx x (by simp)
    have hq:qs (vhc u.f w.f x.e)<=qs u.f+9*(qs w.f+1):=by
     have:=zcx u.f w.f x.e x.e.natAbs
     rw [<-zvw] at this;have h9:x.e.natAbs*(qs w.f+1)<=9*(qs w.f+1):=Nat.mul_le_mul_right _ (by omega);omega
    simp only at h1;rw [List.length_cons];omega
theorem ver (s:ByteArray):(∃ u,xx7 s=(some u,0)/\qs u.f<=4200)\/(∃ e,e≠0/\xx7 s=(none,e)):=by
 unfold xx7
 split
 . exact .inr ⟨12,by decide,rfl⟩
 . rename_i l hl
   split
   . exact .inr ⟨11,by decide,rfl⟩
   . rename_i u hu
     cases hd:ytl u.d with
     | false=>exact .inr ⟨3,by decide,rfl⟩
     | true=>
      refine .inl ⟨u,rfl,?_⟩;have h1:=v7b hl;have h2:=yx5 _ _ _ hu h1.2
      have:=vvm
      simp only at h2;omega
def facO (s:ByteArray):Option Rat:=(xx7 s).1.map (·.f)
theorem xne (s:ByteArray):qz (facO s)<=4200:=by
 unfold facO
 rcases ver s with ⟨u,h,hq⟩ | ⟨e,_,h⟩
 . rw [h];exact hq
 . rw [h];exact Nat.zero_le _
def aft (q:Rat):List Rw->Nat
 | []=>0
 | r::l=>bif decide ((r.k:Rat)<=q) then aft q l+1 else 0
theorem y5e {q:Rat}:∀{l:List Rw} {i:Nat},i<=l.length->(∀ j,j<i->(((l.getD j default).k:Rat)<=q))->(i<l.length->¬(((l.getD i default).k:Rat)<=q))->aft q l=i
 | [],i,hi,_,_=>by simp at hi;subst hi;rfl
 | x::l,0,_,_,h=>by
  have h':¬(x.k:Rat)<=q:=h (by simp);unfold aft;rw [decide_eq_false h'];rfl
 | x::l,i+1,hi,hj,h=>by
  have h0:(x.k:Rat)<=q:=hj 0 (by omega)
  have:=y5e (l:=l) (i:=i) (by simpa using hi) (fun j hj'=>by simpa using hj (j+1) (by omega)) (fun h'=>by simpa using h (by simpa using h'))
  unfold aft;rw [decide_eq_true h0,this];rfl
theorem wrt (q:Rat):∀ l:List Rw,aft q l<=l.length
 | []=>Nat.le_refl _
 | x::l=>by
  have:=wrt q l
  unfold aft
  cases decide ((x.k:Rat)<=q) with
  | true=>rw [cond_true,List.length_cons];omega
  | false=>rw [cond_false];omega
def Rows (l:List Rw):Prop:=∀ i,i<l.length->inT (l.getD i default).k=true/\inT (l.getD i default).v=true/\(0<i->(l.getD (i-1) default).k<(l.getD i default).k)
theorem zr8 {n:Int} (h:inT n=true):-1099511627776<=n/\n<=1099511627776:=by
 unfold inT at h;simpa using h
theorem w8x {l:List Rw} (h:wzj l=true):Rows l:=fun i hi=>by
 have:=List.all_eq_true.1 h i (List.mem_range.2 hi)
 unfold rowAt at this;simp only [Bool.and_eq_true,Bool.not_eq_true',Bool.and_eq_false_iff,decide_eq_false_iff_not] at this;exact ⟨this.1.1,this.1.2,fun h0=>by rcases this.2 with h | h<;>omega⟩
theorem Rows.mono {l:List Rw} (h:Rows l):∀{i j:Nat},i<=j->j<l.length->(l.getD i default).k<=(l.getD j default).k:=by
 intro i j hij
 induction j with
 | zero => intro _; have : i = 0 := by omega
           subst this;exact Int.le_refl _
 | succ j ih=>
  intro hj
  rcases Nat.lt_or_eq_of_le hij with h1 | h1
  . have h2:=ih (by omega) (by omega);have h3:=(h (j+1) hj).2.2 (by omega);rw [Nat.add_sub_cancel] at h3;omega
  . subst h1;exact Int.le_refl _
theorem z8y {a b:Int} (h:a<=b):(a:Rat)<=(b:Rat):=Rat.intCast_le_intCast.2 h
theorem yg5 {t:Tb} (h:vgr (fun s=>(xx7 s).2) t=true):(∃ u,xx7 t.unit=(some u,0)/\qs u.f<=4200)/\isName t.name=true/\t.rows.length<=100/\Rows t.rows:=by
 unfold vgr at h;simp only [Bool.and_eq_true,Bool.not_eq_true',decide_eq_false_iff_not,Classical.not_not] at h;obtain ⟨⟨⟨h1,h2⟩,h3⟩,h4⟩:=h;refine ⟨?_,h2,by omega,w8x h4⟩
 rcases ver t.unit with h | ⟨e,he,h⟩
 . exact h
 . rw [h] at h1;exact absurd h1 he
theorem xhd {k:Int} {q:Rat}:decide (cmpO (some (k:Rat)) (some q)<=0)=decide ((k:Rat)<=q):=by
 apply decide_eq_decide.2;show Fc.ordQ _ _<=0↔_
 rcases Fc.yyw (k:Rat) q with ⟨h,e⟩ | ⟨h,e⟩ | ⟨h,e⟩<;>rw [e]
 . exact ⟨fun _=>Rat.le_of_lt h,fun _=>by decide⟩
 . rw [h];exact ⟨fun _=>Rat.le_refl,fun _=>by decide⟩
 . exact ⟨fun h'=>absurd h' (by decide),fun h'=>absurd h' (Rat.not_le.2 h)⟩
theorem zpx (r:Rw) (q:Rat) (hr:inT r.k=true) (hq:qs q<=67108864):CallsD Γ prog 177 [.agg (rwC r),.agg (qC (some q))] (.one (cI (bif decide ((r.k:Rat)<=q) then -1 else 1))):=by
 have hk:=zr8 hr
 have hin:inI r.k:=by unfold inI;omega
 have h1:=oInt (Γ:=Γ) r.k hin;have hz:=x11 hin;have h2:=oCmp (Γ:=Γ) (some (r.k:Rat)) (some q) (by omega) hq;rw [<-xhd];have hcr:=yt8 (some (r.k:Rat)) (some q);generalize cmpO (some (r.k:Rat)) (some q)=c at *;refine CallsD.run [] Go.Proofs.Tryz.func177 rfl rfl rfl ?_;simp only [Go.Proofs.Tryz.f177];refine hgR ?_
 repeat' ((first | refine hfk ?_ ?_<;>intros | refine hik ?_ | with_reducible first | refine wml (h1) ?_ | refine ysi (h1) ?_ | refine wml (h2) ?_ | refine ysi (h2) ?_)<;>refine hgS ?_)
 all_goals refine lfE ?_;first | exact trivial | rfl
theorem ykx {i j:Nat} (h:i+j<=4611686018427387904):IntKind.i64.wrap (ishr .u64 ((i:Int)+j) 1)=(((i+j) / 2:Nat):Int):=by
 have e:ishr .u64 ((i:Int)+j) 1=((i:Int)+j) / 2:=by
  unfold ishr;rw [show (min (1:Int).toNat IntKind.u64.bits)=1 by decide];rw [Int.fdiv_eq_ediv_of_nonneg _ (by decide)];rfl
 rw [e,w64 (by omega)];omega
abbrev unQ (u:Un):List Cell:=[cI u.d.a,cI u.d.b,cI u.d.c,cI u.d.d,cI u.d.e,cI u.d.f,.raw (.int .i64 (qF (some u.f)).s),.ints .i64 (qF (some u.f)).L,.raw (.int .i64 (qF (some u.f)).t),.ints .i64 (qF (some u.f)).M]
theorem xyv {s:ByteArray} {u:Un} (hs:s.size<=1073741824) (h:xx7 s=(some u,0)):CallsD Γ prog 98 [.one (cS s)] (.tup [.agg (unQ u),.one (cI 0)]):=by
 have hr:=xmw (Γ:=Γ) s hs;rw [h] at hr;exact hr
theorem cBin (l:List Rw) (q:Rat) (f:FuncId) (hl:l.length<=1073741824) (hs:Rows l)
 (h:∀ r∈l,CallsD Γ prog f [.agg (rwC r),.agg (qC (some q))] (.one (cI (bif decide ((r.k:Rat)<=q) then -1 else 1)))) :
 CallsD Γ prog 176 [.one (.sl 2 (l.map Rw.C)),.agg (qC (some q)),fN f] (.tup [.one (cI (aft q l)),.one (cB false)]):=by
 generalize hR:aft q l=R;refine CallsD.run [] Go.Proofs.Tryz.func176 rfl rfl rfl ?_;simp only [Go.Proofs.Tryz.f176];refine hgR ?_;refine x20 [0,2,4,8] (fun p:Nat×Nat=>[(9,.one (.dat (cI p.1))),(10,.one (.dat (cI p.2)))]) (fun _=>[.box ((qC (some q)).map .dat) (some 34)])
  (fun p=>p.1<=p.2/\p.2<=l.length/\(∀ j,j<p.1->(((l.getD j default).k:Rat)<=q))/\(∀ j,p.2<=j->j<l.length->¬(((l.getD j default).k:Rat)<=q))) (fun p=>p.2-p.1) (0,l.length) ⟨Nat.zero_le _,Nat.le_refl _,fun j hj=>by omega,fun j h1 h2=>by omega⟩ ?_ ?_
 . refine hg ?_;exact StH.same svl rfl
 rintro ⟨i,j⟩ ⟨h1,h2,h3,h4⟩;simp only at h1 h2 h3 h4;refine hg ?_;refine vt2 (fun hlt _=>?_) (fun hlt _=>?_)
 . have hw:=ykx (i:=i) (j:=j) (by omega)
   have hm:(i+j) / 2<l.length:=by omega
   have hmi:i<=(i+j) / 2:=by omega
   have hmj:(i+j) / 2<j:=by omega
   have hc:=h _ (y7p hm)
   have hlo:decide (((l.getD ((i+j) / 2) default).k:Rat)<=q)=true->∀ k,k<(i+j) / 2+1->(((l.getD k default).k:Rat)<=q):=fun hq k hk=>Rat.le_trans (z8y (hs.mono (by omega) hm)) (of_decide_eq_true hq)
   have hhi:decide (((l.getD ((i+j) / 2) default).k:Rat)<=q)=false->∀ k,(i+j) / 2<=k->k<l.length->¬(((l.getD k default).k:Rat)<=q):=fun hq k hk hk2 hle=>of_decide_eq_false hq (Rat.le_trans (z8y (hs.mono hk hk2)) hle)
   clear h hs;generalize hM:(i+j) / 2=m at *;clear hM;generalize decide (((l.getD m default).k:Rat)<=q)=b at hc hlo hhi;refine hg1 @hw ?_
   cases b with
   | true=>
    repeat' ((first | refine hfk ?_ ?_<;>intros | refine hik ?_ | with_reducible first | refine wml (hc) ?_ | refine ysi (hc) ?_)<;>refine hgS ?_)
    all_goals first
     | exact ⟨(m+1,j),⟨by dsimp only;omega,h2,hlo rfl,h4⟩,by dsimp only;omega,StH.same svl rfl⟩
     | (exfalso;simp_all;done)
   | false=>
    repeat' ((first | refine hfk ?_ ?_<;>intros | refine hik ?_ | with_reducible first | refine wml (hc) ?_ | refine ysi (hc) ?_)<;>refine hgS ?_)
    all_goals first
     | exact ⟨(i,m),⟨by dsimp only;omega,by dsimp only;omega,h3,hhi rfl⟩,by dsimp only;omega,StH.same svl rfl⟩
     | (exfalso;simp_all;done)
 . have h4':∀ k,i<=k->k<l.length->¬(((l.getD k default).k:Rat)<=q):=fun k hk=>h4 k (by omega)
   have hR2:R=i:=by rw [<-hR];exact y5e (by omega) h3 (fun h=>h4' i (Nat.le_refl _) h)
   rw [hR2];refine hg ?_;by_cases hn:i<l.length
   . have hc:=h _ (y7p hn);rw [decide_eq_false (h4' i (Nat.le_refl _) hn),cond_false] at hc
     repeat' ((first | refine hfk ?_ ?_<;>intros | refine hik ?_ | with_reducible first | refine wml (hc) ?_ | refine ysi (hc) ?_)<;>refine hgS ?_)
     all_goals refine lfE ?_;first | exact trivial | rfl
   . repeat' ((first | refine hfk ?_ ?_<;>intros | refine hik ?_)<;>refine hgS ?_)
     all_goals first
      | (exfalso;omega)
      | refine lfE ?_;first | exact trivial | rfl
theorem wps (t:Tb) (q:Rat) (ht:vgr (fun s=>(xx7 s).2) t=true) (hq:qs q<=67108864):CallsD Γ prog 144 [.agg (tbC t),.agg (qC (some q))] (.tup [.one (cI (aft q t.rows)),.one (cB (decide (0<(aft q t.rows:Int))&&decide (cmpO (some (((t.rows.getD (aft q t.rows-1) default).k:Int):Rat)) (some q)=0)))]):=by
 obtain ⟨_,_,hl,hrows⟩:=yg5 ht
 have hb:=cBin (Γ:=Γ) t.rows q 177 (by omega) hrows (fun r hr=>zpx r q (by
  obtain ⟨i,hi,rfl⟩:=List.getElem_of_mem hr
  have:=(hrows i hi).1
  rw [show t.rows.getD i default=t.rows[i] from by simp [hi]] at this
  exact this) hq)
 have hle:=wrt q t.rows;have hcr:=yt8 (some (((t.rows.getD (aft q t.rows-1) default).k:Int):Rat)) (some q);by_cases h0:aft q t.rows=0
 . rw [h0] at hb ⊢;refine CallsD.run [] Go.Proofs.Tryz.func144 rfl rfl rfl ?_;simp only [Go.Proofs.Tryz.f144];refine hgR ?_
   repeat' ((first | refine hfk ?_ ?_<;>intros | refine hik ?_ | with_reducible first | refine wml (hb) ?_ | refine ysi (hb) ?_)<;>refine hgS ?_)
   all_goals first
    | (exfalso;omega)
    | refine lfE ?_;first | exact trivial | rfl
 . have hk:=zr8 (hrows (aft q t.rows-1) (by omega)).1
   have hin:inI (t.rows.getD (aft q t.rows-1) default).k:=by unfold inI;omega
   have hz:=x11 hin;have o1:=oInt (Γ:=Γ) (t.rows.getD (aft q t.rows-1) default).k hin;have o2:=oCmp (Γ:=Γ) (some (((t.rows.getD (aft q t.rows-1) default).k:Int):Rat)) (some q) (by omega) hq;generalize cmpO (some (((t.rows.getD (aft q t.rows-1) default).k:Int):Rat)) (some q)=c at *;generalize aft q t.rows=k at *;refine CallsD.run [] Go.Proofs.Tryz.func144 rfl rfl rfl ?_;simp only [Go.Proofs.Tryz.f144];refine hgR ?_
   repeat' ((first | refine hfk ?_ ?_<;>intros | refine hik ?_ | with_reducible first | refine wml (hb) ?_ | refine ysi (hb) ?_ | refine wml (o1) ?_ | refine ysi (o1) ?_ | refine wml (o2) ?_ | refine ysi (o2) ?_)<;>refine hgS ?_)
   all_goals refine lfE ?_;first | exact trivial | rfl
def zfd (t:Tb) (n:Int):Option Rat:=mulO (some (n:Rat)) (facO t.unit)
theorem xg9 (t:Tb) (n:Int) (ht:vgr (fun s=>(xx7 s).2) t=true) (hu:t.unit.size<=1073741824) (hn:inI n):CallsD Γ prog 145 [.agg (tbC t),.one (cI n)] (.agg (qC (zfd t n))):=by
 obtain ⟨u,h1,h2⟩:=(yg5 ht).1;have hr:=xyv (Γ:=Γ) hu h1;have hz:=x11 hn;have hm:=oMul (Γ:=Γ) (some (n:Rat)) (some u.f) (by omega) (by show qs u.f<=_;omega);rw [show zfd t n=mulO (some (n:Rat)) (some u.f) by unfold zfd facO;rw [h1];rfl];refine CallsD.run [] Go.Proofs.Tryz.func145 rfl rfl rfl ?_;simp only [Go.Proofs.Tryz.f145];refine hgR ?_
 repeat' ((first | refine hfk ?_ ?_<;>intros | refine hik ?_ | with_reducible first | refine wml (hr) ?_ | refine ysi (hr) ?_ | refine wml (oInt n hn) ?_ | refine ysi (oInt n hn) ?_ | refine wml (hm) ?_ | refine ysi (hm) ?_)<;>refine hgS ?_)
 all_goals refine lfE ?_;first | exact trivial | rfl
def xwc (t:Tb) (v:Option Rat):Option Rat×Int:=bif !vgr (fun s=>(xx7 s).2) t then (none,1) else match v with
 | none=>(none,1)
 | some q=>bif decide (aft q t.rows=0) then (none,4) else (zfd t (t.rows.getD (aft q t.rows-1) default).v,0)
theorem vud (t:Tb) (v:Option Rat) (hv:qz v<=67108864) (h1:t.name.size<=1073741824) (h2:t.unit.size<=1073741824) (h3:t.rows.length<=1073741824):CallsD Γ prog 103 [.agg (tbC t),.agg (qC v)] (qR (xwc t v).1 (xwc t v).2):=by
 have hr:=w8d (Γ:=Γ) t h1 h2 h3
 cases ht:vgr (fun s=>(xx7 s).2) t with
 | false=>
  rw [ht] at hr;rw [show xwc t v=(none,1) by unfold xwc;rw [ht];rfl];refine CallsD.run [] Go.Proofs.Tryz.func103 rfl rfl rfl ?_;simp only [Go.Proofs.Tryz.f103];refine hgR ?_
  repeat' ((first | refine hfk ?_ ?_<;>intros | refine hik ?_ | with_reducible first | refine wml (hr) ?_ | refine ysi (hr) ?_)<;>refine hgS ?_)
  exact zcz
 | true=>
  rw [ht] at hr
  cases v with
  | none=>
   have hv2:CallsD Γ prog 44 [.agg (qC none)] (.one (cB false)):=w7o none (by omega);rw [show xwc t none=(none,1) by unfold xwc;rw [ht];rfl];refine CallsD.run [] Go.Proofs.Tryz.func103 rfl rfl rfl ?_;simp only [Go.Proofs.Tryz.f103];refine hgR ?_
   repeat' ((first | refine hfk ?_ ?_<;>intros | refine hik ?_ | with_reducible first | refine wml (hr) ?_ | refine ysi (hr) ?_ | refine wml (hv2) ?_ | refine ysi (hv2) ?_)<;>refine hgS ?_)
   exact zcz
  | some q=>
   have hv2:CallsD Γ prog 44 [.agg (qC (some q))] (.one (cB true)):=w7o (some q) (by omega);have ha:=wps (Γ:=Γ) t q ht hv;have hle:=wrt q t.rows;by_cases h0:aft q t.rows=0
   . rw [show xwc t (some q)=(none,4) by unfold xwc;rw [ht];simp only [Bool.not_true,cond_false,h0,decide_true,cond_true]];rw [h0] at ha;refine CallsD.run [] Go.Proofs.Tryz.func103 rfl rfl rfl ?_;simp only [Go.Proofs.Tryz.f103];refine hgR ?_
     repeat' ((first | refine hfk ?_ ?_<;>intros | refine hik ?_ | with_reducible first | refine wml (hr) ?_ | refine ysi (hr) ?_ | refine wml (hv2) ?_ | refine ysi (hv2) ?_ | refine wml (ha) ?_ | refine ysi (ha) ?_)<;>refine hgS ?_)
     all_goals first
      | exact zcz
      | (exfalso;omega)
   . rw [show xwc t (some q)=(zfd t (t.rows.getD (aft q t.rows-1) default).v,0) by unfold xwc;rw [ht];simp only [Bool.not_true,cond_false,decide_eq_false h0]];obtain ⟨_,_,hl,hrows⟩:=yg5 ht;have hn:=zr8 (hrows (aft q t.rows-1) (by omega)).2.1;have hw:=xg9 (Γ:=Γ) t (t.rows.getD (aft q t.rows-1) default).v ht h2 (by unfold inI;omega);generalize aft q t.rows=k at *;refine CallsD.run [] Go.Proofs.Tryz.func103 rfl rfl rfl ?_;simp only [Go.Proofs.Tryz.f103];refine hgR ?_
     repeat' ((first | refine hfk ?_ ?_<;>intros | refine hik ?_ | with_reducible first | refine wml (hr) ?_ | refine ysi (hr) ?_ | refine wml (hv2) ?_ | refine ysi (hv2) ?_ | refine wml (ha) ?_ | refine ysi (ha) ?_ | refine wml (hw) ?_ | refine ysi (hw) ?_)<;>refine hgS ?_)
     all_goals first
      | (exfalso;omega)
      | refine lfE ?_;first | exact trivial | rfl
end Go.Hp.T
namespace Go.Hp
open Go Go.RowKit Go.Slot
variable {P:Program} {Γ:List (Nat×List Cell)} {e:List SB}
theorem xpp.ro (φ:List Nat) {f:FuncId} {J ηs:List SB} {args:List SV} {res:SV} (h:xpp Γ P f ηs args ηs res) (hs:∀ r,ηs.map (rnSB r)=ηs) (hn:φ.Nodup) (hb:(φ.all fun j=>Nat.blt j J.length)=true) (hp:φ.map (fun j=>J[j]?)=ηs.map some) :
 xpp Γ P f J (args.map (v3y (atR φ J.length))) J (rnSV (atR φ J.length) res):=by
 have hfix:∀(r:Nat->Nat) (x:SB),x∈ηs->rnSB r x=x:=fun r x hx=>by
  obtain ⟨i,hi,rfl⟩:=List.getElem_of_mem hx
  have:=congrArg (fun l=>l[i]?) (hs r)
  simp only [List.getElem?_map,List.getElem?_eq_getElem hi,Option.map_some] at this;exact Option.some.inj this
 have hb':∀ j∈φ,j<J.length:=fun j hj=>by simpa using List.all_eq_true.1 hb j hj
 have hp':φ.map (fun j=>J[j]?)=ηs.map (fun x=>some (rnSB (atR φ J.length) x)):=by
  rw [hp];exact List.map_congr_left (fun x hx=>by rw [hfix _ x hx])
 have hk:=xgt.of hp';have hc:=xpp.frame hn hb' hk (by rw [hk.1];exact Nat.le_refl _) h
 have hput:putR φ J ηs=J:=by
  apply List.ext_getElem?;intro i;by_cases hi2:i<J.length
  . by_cases hi:i∈φ
    . obtain ⟨k,hk2,rfl⟩:=List.getElem_of_mem hi
      have hkl:k<ηs.length:=by rw [hk.1];exact hk2
      have h1:=xje (ηs':=ηs) hn hb' (List.getElem?_eq_getElem hkl);rw [zj8 (List.getElem?_eq_getElem hk2),hfix _ _ (List.getElem_mem hkl)] at h1;rw [h1];have h2:=congrArg (fun l=>l[k]?) hp;simp only [List.getElem?_map,List.getElem?_eq_getElem hk2,List.getElem?_eq_getElem hkl,Option.map_some] at h2;exact (Option.some.inj h2).symm
    . exact zn3 hi2 hi
  . rw [List.getElem?_eq_none (by rw [wb2,hk.1];omega),List.getElem?_eq_none (by omega)]
 rw [hput] at hc;exact hc
theorem StH.tup1 {l l':List SV} {J:List SB} (h:zt4 l l'):StH Γ e [.tup l] J [.tup l'] J:=fun E ρ a w hE hR=>⟨ρ,hR.hd,hR.hs,fun i x hi=>by
 cases i with
 | zero=>
  simp only [List.getElem?_cons_zero,Option.some.injEq] at hi;subst hi;obtain ⟨vs,hv,hr⟩:=hR.slot 0 (.tup l) rfl;exact ⟨vs,hv,SRL.le h hr⟩
 | succ i=>simp at hi,hR.went⟩
theorem ydm {a b:Nat}:Nat.blt a b=decide (a<b):=by
 by_cases h:a<b
 . rw [decide_eq_true h];simpa using h
 . rw [decide_eq_false h]
   cases hh:Nat.blt a b with
   | false=>rfl
   | true=>exact absurd (by simpa using hh) h
end Go.Hp
namespace Go.Hp.T
open Go Go.RowKit Go.Slot Go.Hp Go.Slot.T
open Go.Proofs.Tryz (prog)
set_option maxRecDepth 10000
set_option maxHeartbeats 4000000
variable {Γ:List (Nat×List Cell)}
theorem x2c {J:List SB} {h1 h2:HC}:StH Γ [] [SV.tup [.agg [h1,h2],.one (.dat (cB false))]] J [SV.tup [.agg [.any,.any],.one (.dat (cB false))]] []:=
 StH.trans (StH.tup1 (l':=[.agg [.any,.any],.one (.dat (cB false))]) (.cons (.agg (.cons (.any _) (.cons (.any _) .nil))) (.cons (.refl _) .nil))) (by
  have:=StH.cutB (Γ:=Γ) (e:=[]) (I:=[SV.tup [.agg [.any,.any],.one (.dat (cB false))]]) (J:=J) 0 (Nat.le_refl _) (by unfold yyj;rfl)
  exact this)
theorem ynq (l:List HC) (T:Option TypeId):vb5 (.box l T)=l.flatMap vax:=rfl
theorem vwr (c:Cell) (k:Nat) (T:Option TypeId):vb5 (.arr c k T)=[]:=rfl
theorem z2z:vb5 .dead=[]:=rfl
attribute [go_sem] yyj wj3 vax ynq vwr z2z ydm List.flatMap_cons List.flatMap_nil List.all_append
structure Tb.Sm (t:Tb):Prop where
 n:t.name.size<=1073741824
 u:t.unit.size<=1073741824
 r:t.rows.length<=1073741824
end Go.Hp.T
namespace Go.Hp.T
open Go Go.RowKit Go.Slot Go.Hp Go.Slot.T
open Go.Proofs.Tryz (prog)
set_option maxRecDepth 10000
set_option maxHeartbeats 4000000
variable {Γ:List (Nat×List Cell)}
structure Rs where
 t:Bool
 i:Bool
 v:Option Rat
deriving DecidableEq
def Rs.zero:Rs:=⟨false,false,none⟩
instance:Inhabited Rs:=⟨Rs.zero⟩
def numV (v:Option Rat) (e:Int):Rs×Int:=bif decide (¬e=0) then (Rs.zero,e) else (⟨false,false,v⟩,0)
def truV (b:Bool):Rs×Int:=(⟨true,b,none⟩,0)
def logV (o:Int) (l:List Rs):Rs×Int:=bif l.any (fun r=>!r.t) then (Rs.zero,13) else
 bif decide (o=14) then truV (l.all (·.i)) else bif decide (o=15) then truV (l.any (·.i)) else truV (!l.all (·.i))
def ariV (o:Int) (a b:Rs):Rs×Int:=bif a.t||b.t then (Rs.zero,13) else
 bif decide (o=6) then numV (addO a.v b.v) (erO a.v b.v) else
 bif decide (o=7) then numV (subO a.v b.v) (erO a.v b.v) else
 bif decide (o=8) then numV (mulO a.v b.v) (erO a.v b.v) else
 bif decide (o=9) then numV (divO a.v b.v) (divE a.v b.v) else
 bif decide (o=10) then numV (minO a.v b.v) (erO a.v b.v) else
 bif decide (o=11) then numV (maxO a.v b.v) (erO a.v b.v) else
 bif decide (o=12) then truV (decide (cmpO a.v b.v<0)) else truV (decide (cmpO a.v b.v=0))
end Go.Hp.T
namespace Go.Hp.T
open Go Go.RowKit Go.Slot Go.Hp
set_option maxRecDepth 10000
theorem zfk (s:ByteArray):seq s s=true:=by rw [xww];exact decide_eq_true rfl
theorem vyd {a b:ByteArray} (h:seq a b=true):a=b:=by rw [xww] at h;exact of_decide_eq_true h
theorem x2w {a b:ByteArray} (h:a≠b):seq a b=false:=by rw [xww];exact decide_eq_false h
theorem ztq {α:Type} (s:ByteArray) (v:α) (t:ByteArray):∀ l:List (ByteArray×α),z2f (updF l s v) t=bif seq t s then some v else z2f l t
 | []=>rfl
 | p::l=>by
  have ih:=ztq s v t l;rw [updF]
  cases h:seq s p.1 with
  | true=>
   have e:s=p.1:=vyd h;rw [cond_true]
   show (bif seq t s then some v else z2f l t)=bif seq t s then some v else (bif seq t p.1 then some p.2 else z2f l t)
   rw [<-e];cases seq t s<;>rfl
  | false=>
   rw [cond_false]
   show (bif seq t p.1 then some p.2 else z2f (updF l s v) t)=bif seq t s then some v else (bif seq t p.1 then some p.2 else z2f l t)
   rw [ih]
   cases h1:seq t p.1 with
   | false=>rfl
   | true=>cases h2:seq t s with
    | false=>rfl
    | true=>
     have e1:t=p.1:=vyd h1;have e2:t=s:=vyd h2;rw [<-e1,e2,zfk] at h
     cases h
section
variable {α β:Type} (nm:β->ByteArray) (ok:β->Bool) (val:β->α) (out:ByteArray->Bool)
def gE (V:List (ByteArray×α)):List β->Option (List (ByteArray×α))
 | []=>some V
 | b::l=>bif (z2f V (nm b)).isSome||out (nm b)||!isName (nm b)||isWord (nm b)||!ok b then none else gE (updF V (nm b) (val b)) l
def fnd (l:List β) (s:ByteArray):Option β:=l.find? (fun b=>seq s (nm b))
end
section
variable {α β:Type} {nm:β->ByteArray} {ok:β->Bool} {val:β->α} {out:ByteArray->Bool}
theorem z7v (s:ByteArray):fnd nm [] s=none:=rfl
theorem vvu (b:β) (l:List β) (s:ByteArray):fnd nm (b::l) s=bif seq s (nm b) then some b else fnd nm l s:=by
 unfold fnd;rw [List.find?_cons];cases seq s (nm b)<;>rfl
theorem z2v {l:List β} {s:ByteArray}:fnd nm l s=none↔s∉l.map nm:=by
 induction l with
 | nil=>simp [z7v]
 | cons b l ih=>
  rw [vvu,List.map_cons,List.mem_cons,not_or]
  cases h:seq s (nm b) with
  | true=>rw [cond_true];exact ⟨fun h=>(by cases h),fun h2=>absurd (vyd h) h2.1⟩
  | false=>
   rw [cond_false,ih];exact ⟨fun h2=>⟨fun e=>(by rw [e,zfk] at h;cases h),h2⟩,fun h2=>h2.2⟩
theorem ypj {l:List β} {s:ByteArray} {b:β} (h:fnd nm l s=some b):b∈l/\s=nm b:=by
 unfold fnd at h;have h1:=List.find?_some h;exact ⟨List.mem_of_find?_eq_some h,vyd h1⟩
theorem xto {l:List β} {s:ByteArray}:(fnd nm l s).isSome=true↔s∈l.map nm:=by
 cases h:fnd nm l s with
 | none=>exact ⟨fun h=>(by cases h),fun hm=>absurd hm (z2v.1 h)⟩
 | some b=>
  have:=ypj h
  exact ⟨fun _=>(by rw [this.2];exact List.mem_map_of_mem this.1),fun _=>rfl⟩
def zc7 (nm:β->ByteArray) (ok:β->Bool) (out:ByteArray->Bool) (V:List (ByteArray×α)) (b:β):Prop:=ok b=true/\isNamed (nm b)=true/\out (nm b)=false/\z2f V (nm b)=none
theorem w5y {V:List (ByteArray×α)} {b:β}:((z2f V (nm b)).isSome||out (nm b)||!isName (nm b)||isWord (nm b)||!ok b)=false↔zc7 nm ok out V b:=by
 unfold zc7 isNamed
 cases z2f V (nm b)<;>cases out (nm b)<;>cases isName (nm b)<;>cases isWord (nm b)<;>cases ok b<;>simp
theorem xvn:∀{l:List β} {V W:List (ByteArray×α)},gE nm ok val out V l=some W->(∀ b∈l,zc7 nm ok out V b)/\(l.map nm).Nodup/\∀ s,z2f W s=(match fnd nm l s with
 | some b=>some (val b)
 | none=>z2f V s)
 | [],V,W,h=>by
  rw [gE] at h;cases h;exact ⟨fun b hb=>by (cases hb),List.nodup_nil,fun s=>rfl⟩
 | b::l,V,W,h=>by
  rw [gE] at h
  cases hc:((z2f V (nm b)).isSome||out (nm b)||!isName (nm b)||isWord (nm b)||!ok b) with
  | true=>rw [hc] at h;cases h
  | false=>
   rw [hc,cond_false] at h;have hb:=w5y.1 hc;obtain ⟨h1,h2,h3⟩:=xvn h
   have hnot:∀ c∈l,nm c≠nm b:=fun c hc' e=>by
    have:=(h1 c hc').2.2.2
    rw [e,ztq,zfk] at this
    cases this
   refine ⟨fun c hc'=>?_,?_,fun s=>?_⟩
   . rcases List.mem_cons.1 hc' with rfl | hc'
     . exact hb
     . obtain ⟨q1,q2,q3,q4⟩:=h1 c hc';rw [ztq,x2w (hnot c hc')] at q4;exact ⟨q1,q2,q3,q4⟩
   . rw [List.map_cons,List.nodup_cons];refine ⟨fun hm=>?_,h2⟩;obtain ⟨c,hc1,hc2⟩:=List.mem_map.1 hm;exact hnot c hc1 hc2
   . rw [h3 s, vvu]
     cases hs:seq s (nm b) with
     | true=>
      have e:=vyd hs
      have:fnd nm l s=none:=z2v.2 (fun hm=>by
       obtain ⟨c,hc1,hc2⟩:=List.mem_map.1 hm
       exact hnot c hc1 (by rw [hc2,e]))
      rw [this];simp only [cond_true];rw [ztq,hs];rfl
     | false=>
      rw [cond_false]
      cases fnd nm l s with
      | some c=>rfl
      | none=>simp only;rw [ztq,hs];rfl
theorem ych:∀{l:List β} {V:List (ByteArray×α)},(∀ b∈l,zc7 nm ok out V b)->(l.map nm).Nodup->∃ W,gE nm ok val out V l=some W
 | [],V,_,_=>⟨V,rfl⟩
 | b::l,V,h,hn=>by
  rw [List.map_cons,List.nodup_cons] at hn;rw [gE,w5y.2 (h b (by simp)),cond_false];refine ych (fun c hc=>?_) hn.2;obtain ⟨q1,q2,q3,q4⟩:=h c (by simp [hc]);refine ⟨q1,q2,q3,?_⟩;rw [ztq,x2w (fun e=>hn.1 (by rw [<-e];exact List.mem_map_of_mem hc))];exact q4
end
section
variable {α β:Type} (nm:β->ByteArray) (ok:β->Bool) (val:β->α) (tok:Tb->Bool)
def entG (bs:List β) (ms:List Tb):Option (List (ByteArray×α)×List (ByteArray×Tb)):=match gE nm ok val (fun _=>false) [] bs with
 | none=>none
 | some V=>(gE Tb.name tok id (fun s=>(z2f V s).isSome) [] ms).map fun T=>(V,T)
def x6g (l:List ByteArray):Prop:=(∀ s∈l,isNamed s=true)/\l.Nodup
instance (l:List ByteArray):Decidable (x6g l):=inferInstanceAs (Decidable (_/\_))
end
section
variable {α β:Type} {nm:β->ByteArray} {ok:β->Bool} {val:β->α} {tok:Tb->Bool}
theorem vxk {bs:List β} {ms:List Tb} {V:List (ByteArray×α)} {T:List (ByteArray×Tb)} (h:entG nm ok val tok bs ms=some (V,T)) :
 (∀ b∈bs,ok b=true)/\(∀ t∈ms,tok t=true)/\x6g (bs.map nm++ms.map Tb.name)/\(∀ s,z2f V s=(fnd nm bs s).map val)/\(∀ s,z2f T s=fnd Tb.name ms s):=by
 unfold entG at h
 cases h1:gE nm ok val (fun _=>false) [] bs with
 | none=>rw [h1] at h;cases h
 | some W=>
  rw [h1] at h;simp only at h
  cases h2:gE Tb.name tok id (fun s=>(z2f W s).isSome) [] ms with
  | none=>rw [h2] at h;cases h
  | some U=>
   rw [h2] at h
   cases h;obtain ⟨a1,a2,a3⟩:=xvn h1;obtain ⟨b1,b2,b3⟩:=xvn h2
   have hV:∀ s,z2f V s=(fnd nm bs s).map val:=fun s=>by rw [a3 s];cases fnd nm bs s<;>rfl
   refine ⟨fun b hb=>(a1 b hb).1,fun t ht=>(b1 t ht).1,⟨fun s hs=>?_,?_⟩,hV,fun s=>by rw [b3 s];cases fnd Tb.name ms s<;>rfl⟩
   . rcases List.mem_append.1 hs with hs | hs
     . obtain ⟨b,hb,rfl⟩:=List.mem_map.1 hs;exact (a1 b hb).2.1
     . obtain ⟨t,ht,rfl⟩:=List.mem_map.1 hs;exact (b1 t ht).2.1
   . rw [List.nodup_append];refine ⟨a2,b2,fun x hx y hy e=>?_⟩;subst e;obtain ⟨t,ht,rfl⟩:=List.mem_map.1 hy
     have:=(b1 t ht).2.2.1
     simp only [hV,Option.isSome_map] at this;rw [xto.2 hx] at this
     cases this
theorem zuo {bs:List β} {ms:List Tb} (h1:∀ b∈bs,ok b=true) (h2:∀ t∈ms,tok t=true) (h3:x6g (bs.map nm++ms.map Tb.name)):∃ p,entG nm ok val tok bs ms=some p:=by
 obtain ⟨h3,h4⟩:=h3;rw [List.nodup_append] at h4;obtain ⟨n1,n2,n3⟩:=h4;obtain ⟨V,hV⟩:=ych (val:=val) (V:=([]:List (ByteArray×α))) (out:=fun _=>false) (ok:=ok) (nm:=nm) (fun b hb=>⟨h1 b hb,h3 _ (by simp only [List.mem_append];exact .inl (List.mem_map_of_mem hb)),rfl,rfl⟩) n1
 have hlV:∀ s,z2f V s=(fnd nm bs s).map val:=fun s=>by rw [(xvn hV).2.2 s];cases fnd nm bs s<;>rfl
 obtain ⟨T,hT⟩:=ych (val:=id) (V:=([]:List (ByteArray×Tb))) (out:=fun s=>(z2f V s).isSome) (ok:=tok) (nm:=Tb.name) (l:=ms) (fun t ht=>⟨h2 t ht,h3 _ (by simp only [List.mem_append];exact .inr (List.mem_map_of_mem ht)),by
  simp only [hlV,Option.isSome_map];rw [Bool.eq_false_iff]
  exact fun hm=>n3 _ (xto.1 hm) _ (List.mem_map_of_mem ht) rfl,rfl⟩) n2
 exact ⟨(V,T),by unfold entG;rw [hV];simp only [hT];rfl⟩
end
end Go.Hp.T
