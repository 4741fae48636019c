/- The proof, part Y33: Ga, Qa, Qb, Nb, Ih, Ne, Nf, Ua, Ra. -/
import Derived.Test.YtmegdbbbllffkaaGreatDoorY32
import Derived.Test.YtmegdbbbllffkaaGreatDoorY28
import Derived.Test.YtmegdbbbllffkaaGreatDoorY27
import Derived.Test.YtmegdbbbllffkaaGreatDoorY31
namespace Go.Hp.T
open Go Go.RowKit Go.Slot Go.Hp Go.Slot.T
open Go.Proofs.Tryz (prog)
set_option maxRecDepth 10000
set_option maxHeartbeats 4000000
variable {Γ:List (Nat×List Cell)}
def qF:Option Rat->Fc
 | none=>Fc.zero
 | some q=>Fc.of q
abbrev qC (v:Option Rat):List Cell:=[.raw (.int .i64 (qF v).s),.ints .i64 (qF v).L,.raw (.int .i64 (qF v).t),.ints .i64 (qF v).M]
abbrev qz (v:Option Rat):Nat:=(qF v).sz
theorem xes {v:Option Rat}:(qF v).ok↔v.isSome=true:=by
 cases v with
 | none=>exact ⟨fun h=>absurd h Fc.yvm,fun h=>by cases h⟩
 | some q=>exact ⟨fun _=>rfl,fun _=>Fc.v55 q⟩
theorem wvl {a b:Option Rat} (h:qF a=qF b):a=b:=by
 cases a with
 | none=>cases b with
  | none=>rfl
  | some y=>exact absurd (show Fc.zero.ok by rw [show Fc.zero=Fc.of y from h];exact Fc.v55 y) Fc.yvm
 | some x=>cases b with
  | none=>exact absurd (show Fc.zero.ok by rw [show Fc.zero=Fc.of x from h.symm];exact Fc.v55 x) Fc.yvm
  | some y=>rw [Fc.y7w h]
theorem yhl {f:Fc} (h:f.ok):∃ q,f=qF (some q):=Fc.ztb h
def op2O (g:Rat->Rat->Rat) (a b:Option Rat):Option Rat:=match a,b with
 | some x,some y=>some (g x y)
 | _,_=>none
def erO (a b:Option Rat):Int:=bif a.isSome&&b.isSome then 0 else 1
def cmpO (a b:Option Rat):Int:=match a,b with
 | some x,some y=>Fc.ordQ x y
 | _,_=>0
def divO (a b:Option Rat):Option Rat:=match a,b with
 | some x,some y=>bif decide (y=0) then none else some (x / y)
 | _,_=>none
def divE (a b:Option Rat):Int:=match a,b with
 | some _,some y=>bif decide (y=0) then 15 else 0
 | _,_=>1
abbrev addO:=op2O (· + ·)
abbrev subO:=op2O (· - ·)
abbrev mulO:=op2O (· * ·)
abbrev minO:=op2O (fun x y=>min x y)
abbrev maxO:=op2O (fun x y=>max x y)
theorem yq8 (g:Rat->Rat->Rat) (a b:Option Rat):Fc.op2 g (qF a) (qF b)=qF (op2O g a b):=by
 cases a with
 | none=>exact Fc.y8l (fun h=>Fc.yvm h.1)
 | some x=>cases b with
  | none=>exact Fc.y8l (fun h=>Fc.yvm h.2)
  | some y=>exact Fc.wkg g x y
theorem zz3 (a b:Option Rat):Fc.er ((qF a).ok/\(qF b).ok)=erO a b:=by
 cases a with
 | none=>exact Fc.x0s (fun h=>Fc.yvm h.1)
 | some x=>cases b with
  | none=>exact Fc.x0s (fun h=>Fc.yvm h.2)
  | some y=>exact Fc.xg5 ⟨Fc.v55 x,Fc.v55 y⟩
theorem z2t (a b:Option Rat):Fc.cmp (qF a) (qF b)=cmpO a b:=by
 cases a with
 | none=>exact if_neg (fun h=>Fc.yvm h.1)
 | some x=>cases b with
  | none=>exact if_neg (fun h=>Fc.yvm h.2)
  | some y=>exact Fc.z55 x y
theorem z3n (a b:Option Rat):-1<=cmpO a b/\cmpO a b<=1:=by rw [<-z2t];exact Fc.x82 _ _
abbrev qR (v:Option Rat) (e:Int):AV:=.tup [.agg (qC v),.one (cI e)]
theorem oAdd (a b:Option Rat) (ha:qz a<=67108864) (hb:qz b<=67108864):CallsD Γ prog 69 [.agg (qC a),.agg (qC b)] (qR (addO a b) (erO a b)):=by
 have h:=toD (Γ:=Γ) (w15 (qF a) (qF b) ha hb);rw [show Fc.add (qF a) (qF b)=_ from yq8 _ a b,zz3] at h;exact h
theorem oSub (a b:Option Rat) (ha:qz a<=67108864) (hb:qz b<=67108864):CallsD Γ prog 127 [.agg (qC a),.agg (qC b)] (qR (subO a b) (erO a b)):=by
 have h:=toD (Γ:=Γ) (wyn (qF a) (qF b) ha hb);rw [show Fc.sub (qF a) (qF b)=_ from yq8 _ a b,zz3] at h;exact h
theorem oMul (a b:Option Rat) (ha:qz a<=67108864) (hb:qz b<=67108864):CallsD Γ prog 16 [.agg (qC a),.agg (qC b)] (qR (mulO a b) (erO a b)):=by
 have h:=toD (Γ:=Γ) (yer (qF a) (qF b) ha hb);rw [show Fc.mul (qF a) (qF b)=_ from yq8 _ a b,zz3] at h;exact h
theorem oMax (a b:Option Rat) (ha:qz a<=67108864) (hb:qz b<=67108864):CallsD Γ prog 129 [.agg (qC a),.agg (qC b)] (qR (maxO a b) (erO a b)):=by
 have h:=toD (Γ:=Γ) (xfn (qF a) (qF b) ha hb);rw [show Fc.maxf (qF a) (qF b)=_ from yq8 _ a b,zz3] at h;exact h
theorem oCmp (a b:Option Rat) (ha:qz a<=67108864) (hb:qz b<=67108864):CallsD Γ prog 130 [.agg (qC a),.agg (qC b)] (.one (cI (cmpO a b))):=by
 have h:=toD (Γ:=Γ) (z6k (qF a) (qF b) ha hb);rw [z2t] at h;exact h
theorem x8k (f:Fc) (h:f.sz<=268435456):CallsD Γ prog 26 [.agg f.C] (.one (cB (decide f.ok))):=toD (vwh f h)
theorem vz0 (v:Option Rat) (h:qz v<=268435456):CallsD Γ prog 26 [.agg (qC v)] (.one (cB v.isSome)):=by
 have h:=toD (Γ:=Γ) (vwh (qF v) h)
 rw [show decide (qF v).ok=v.isSome by cases hv:v.isSome with
  | true=>exact decide_eq_true (xes.2 hv)
  | false=>exact decide_eq_false (fun h=>by rw [xes.1 h] at hv;cases hv)] at h
 exact h
theorem oInt (n:Int) (hn:inI n):CallsD Γ prog 39 [.one (cI n)] (.agg (qC (some (n:Rat)))):=toD (xkx n hn)
theorem oMin (a b : Option Rat) (ha : qz a ≤ 67108864) (hb : qz b ≤ 67108864) : CallsD Γ prog 128 [.agg (qC a), .agg (qC b)] (qR (minO a b) (erO a b)) := by
 by_cases h:(qF a).ok/\(qF b).ok
 . obtain ⟨h1,h2⟩:=h
   cases a with
   | none=>exact absurd h1 Fc.yvm
   | some x=>cases b with
    | none=>exact absurd h2 Fc.yvm
    | some y=>
     have hE:=toD (Γ:=Γ) (x0c x y (-1) (by decide) ha hb)
     have e:(if Fc.ordQ x y*(-1)<0 then y else x)=min x y:=by
      rw [Rat.min_def]
      rcases Fc.xdl x y with ⟨h,e⟩ | ⟨h,e⟩ | ⟨h,e⟩<;>rw [e]
      . rw [if_neg (by decide),if_pos (Rat.le_of_lt h)]
      . rw [if_neg (by decide),if_pos (by rw [h];exact Rat.le_refl)]
      . rw [if_pos (by decide),if_neg (fun h'=>Rat.not_le.2 h h')]
     rw [e] at hE;have hE:CallsD Γ prog 173 [.agg (qC (some x)),.agg (qC (some y)),.one (cI (-1))] (qR (some (min x y)) 0):=hE;refine CallsD.run [] Go.Proofs.Tryz.func128 rfl rfl rfl ?_;simp only [Go.Proofs.Tryz.f128];refine hgR ?_
     repeat' ((first | refine hfk ?_ ?_<;>intros | refine hik ?_ | with_reducible first | refine y5m (hE) ?_ | refine vtc (hE) ?_)<;>refine hgS ?_)
     exact RLe.ofEq rfl
 . have hE:=toD (Γ:=Γ) (x0b (qF a) (qF b) (-1) h ha hb)
   have e1:minO a b=none/\erO a b=1:=by
    cases a with
    | none=>exact ⟨rfl,rfl⟩
    | some x=>cases b with
     | none=>exact ⟨rfl,rfl⟩
     | some y=>exact absurd ⟨Fc.v55 x,Fc.v55 y⟩ h
   rw [e1.1,e1.2];have hE:CallsD Γ prog 173 [.agg (qC a),.agg (qC b),.one (cI (-1))] (qR none 1):=hE;refine CallsD.run [] Go.Proofs.Tryz.func128 rfl rfl rfl ?_;simp only [Go.Proofs.Tryz.f128];refine hgR ?_
   repeat' ((first | refine hfk ?_ ?_<;>intros | refine hik ?_ | with_reducible first | refine y5m (hE) ?_ | refine vtc (hE) ?_)<;>refine hgS ?_)
   exact RLe.ofEq rfl
theorem zg7 {e:Int}:RLe (.tup [.agg [cI 0,.zc,cI 0,.zc],.one (cI e)]) (qR none e):=.tup (.cons zr1 (.cons (.refl _) .nil))
theorem oDiv (a b:Option Rat) (ha:qz a<=67108864) (hb:qz b<=67108864):CallsD Γ prog 88 [.agg (qC a),.agg (qC b)] (qR (divO a b) (divE a b)):=by
 cases a with
 | none=>
  have r1:CallsD Γ prog 26 [.agg (qC none)] (.one (cB false)):=vz0 none (by omega);refine CallsD.run [] Go.Proofs.Tryz.func88 rfl rfl rfl ?_;simp only [Go.Proofs.Tryz.f88];refine hgR ?_
  repeat' ((first | refine hfk ?_ ?_<;>intros | refine hik ?_ | with_reducible first | refine y5m (r1) ?_ | refine vtc (r1) ?_)<;>refine hgS ?_)
  exact zg7
 | some x=>
  have r1:CallsD Γ prog 26 [.agg (qC (some x))] (.one (cB true)):=vz0 (some x) (by omega)
  cases b with
  | none=>
   have r2:CallsD Γ prog 26 [.agg (qC none)] (.one (cB false)):=vz0 none (by omega);refine CallsD.run [] Go.Proofs.Tryz.func88 rfl rfl rfl ?_;simp only [Go.Proofs.Tryz.f88];refine hgR ?_
   repeat' ((first | refine hfk ?_ ?_<;>intros | refine hik ?_ | with_reducible first | refine y5m (r1) ?_ | refine vtc (r1) ?_ | refine y5m (r2) ?_ | refine vtc (r2) ?_)<;>refine hgS ?_)
   exact zg7
  | some y=>
   have r2:CallsD Γ prog 26 [.agg (qC (some y))] (.one (cB true)):=vz0 (some y) (by omega);by_cases hy:y=0
   . subst hy;have hs:(qF (some (0:Rat))).s=0:=rfl;have r2:CallsD Γ prog 26 [.agg [.raw (.int .i64 0),.ints .i64 (qF (some (0:Rat))).L,.raw (.int .i64 (qF (some (0:Rat))).t),.ints .i64 (qF (some (0:Rat))).M]] (.one (cB true)):=r2;refine CallsD.run [] Go.Proofs.Tryz.func88 rfl rfl rfl ?_;simp only [Go.Proofs.Tryz.f88];refine hgR ?_
     repeat' ((first | refine hfk ?_ ?_<;>intros | refine hik ?_ | with_reducible first | refine y5m (r1) ?_ | refine vtc (r1) ?_ | refine y5m (r2) ?_ | refine vtc (r2) ?_)<;>refine hgS ?_)
     exact zg7
   . have h:=qDiv (Γ:=Γ) x y hy ha hb;rw [show divO (some x) (some y)=some (x / y) by simp only [divO,hy,decide_false,cond_false],show divE (some x) (some y)=0 by simp only [divE,hy,decide_false,cond_false]];exact h
theorem ybl {g:Rat->Rat->Rat} {n:Nat} (h:∀ x y,qs (g x y)<=qs x+qs y+n) (a b:Option Rat):qz (op2O g a b)<=qz a+qz b+n:=by
 cases a with
 | none=>exact Nat.zero_le _
 | some x=>cases b with
  | none=>exact Nat.zero_le _
  | some y=>exact h x y
theorem z80 (a b:Option Rat):qz (addO a b)<=qz a+qz b+1:=ybl Fc.xkz a b
theorem xxj (a b:Option Rat):qz (subO a b)<=qz a+qz b+1:=ybl (fun x y=>by
 have:=Fc.xkz x (-y)
 rw [Fc.v4e,<-Rat.sub_eq_add_neg] at this
 exact this) a b
theorem wg5 (a b:Option Rat):qz (mulO a b)<=qz a+qz b:=ybl (n:=0) Fc.z17 a b
theorem y4v (a b:Option Rat):qz (maxO a b)<=qz a+qz b:=ybl (n:=0) (fun x y=>by
 simp only [Rat.max_def]
 split<;>omega) a b
theorem znv (a b:Option Rat):qz (minO a b)<=qz a+qz b:=ybl (n:=0) (fun x y=>by
 simp only [Rat.min_def]
 split<;>omega) a b
theorem zcv (a b:Option Rat):qz (divO a b)<=qz a+qz b+1:=by
 cases a with
 | none=>exact Nat.zero_le _
 | some x=>cases b with
  | none=>exact Nat.zero_le _
  | some y=>
   show qz (bif decide (y=0) then none else some (x / y))<=_
   cases decide (y=0) with
   | true=>exact Nat.zero_le _
   | false=>exact xr5 x y
theorem wkd {n:Int} (h:inI n):qz (some (n:Rat))<=4:=by
 have:=wbp (n:=n.natAbs) (by unfold inI at h;omega)
 have h1:=wbp (n:=1) (by omega);show max (dig ((n:Rat).num.natAbs)).length (dig (n:Rat).den).length<=4;rw [Rat.num_intCast,Rat.den_intCast];omega
theorem x84 {p:Nat->Prop} {i:Nat} (h:∀ j,j<i->p j) (hi:p i):∀ j,j<i+1->p j:=fun j hj=>by
 rcases Nat.lt_or_eq_of_le (Nat.le_of_lt_succ hj) with h2 | h2
 . exact h j h2
 . rw [h2];exact hi
def ym0 (place:Nat->Option (Nat×Nat)) (cs:List HC) (ps:List (Nat×SV)):Option (List HC):=yhe place cs ps
def xav (place:Nat->Option (Nat×Nat)) (cs:List HC) (r:List (Nat×SV)) (a:Option (Nat×Nat)) (b:Option (List HC)):Option (List HC):=match a,b with
 | some (off,size),some us=>if us.length=size/\off+size<=cs.length then yhe place (cs.take off++us++cs.drop (off+size)) r else none
 | _,_=>none
def vpx (place:Nat->Option (Nat×Nat)) (cs:List HC) (r:List (Nat×SV)) (b:Bool):Option (List HC):=bif b then yhe place cs r else none
theorem xws {place:Nat->Option (Nat×Nat)} {cs:List HC} {ps:List (Nat×SV)}:yhe place cs ps=ym0 place cs ps:=rfl
theorem vk6 {place:Nat->Option (Nat×Nat)} {cs:List HC}:ym0 place cs []=some cs:=rfl
theorem y5s {place:Nat->Option (Nat×Nat)} {cs:List HC} {i:Nat} {x:SV} {r:List (Nat×SV)}:ym0 place cs ((i,x)::r)=xav place cs r (place i) (wrf x):=by
 unfold ym0;rw [yhe];rfl
theorem xt1 {a b:Nat}:Nat.beq a b=decide (a=b):=by rw [Bool.eq_iff_iff,decide_eq_true_iff,Nat.beq_eq]
theorem y8r {a b:Nat}:Nat.ble a b=decide (a<=b):=by rw [Bool.eq_iff_iff,decide_eq_true_iff,Nat.ble_eq]
theorem vsh {a b:Nat} (h:a<=b):Nat.ble a b=true:=Nat.ble_eq_true_of_le h
theorem yxd {place:Nat->Option (Nat×Nat)} {cs us:List HC} {off size:Nat} {r:List (Nat×SV)}:xav place cs r (some (off,size)) (some us)=vpx place (cs.take off++(us++cs.drop (off+size))) r (Nat.beq us.length size&&Nat.ble (off+size) cs.length):=by
 rw [<-List.append_assoc];show (if us.length=size/\off+size<=cs.length then yhe place (cs.take off++us++cs.drop (off+size)) r else none)=_;rw [xt1,y8r];by_cases h1:us.length=size
 . by_cases h2:off+size<=cs.length
   . rw [if_pos ⟨h1,h2⟩,decide_eq_true h1,decide_eq_true h2];rfl
   . rw [if_neg (fun h=>h2 h.2),decide_eq_false h2,Bool.and_false];rfl
 . rw [if_neg (fun h=>h1 h.1),decide_eq_false h1];rfl
theorem v1s {place:Nat->Option (Nat×Nat)} {cs:List HC} {r:List (Nat×SV)}:vpx place cs r true=ym0 place cs r:=rfl
attribute [go_sem ↓ 30000] xws
attribute [go_sem] vk6 y5s yxd v1s xt1 vsh
theorem n12:((12:Nat):Int)=12:=rfl
attribute [go_sem] n12
mutual
def Ex.rsz:Ex->Int->Int->Int
 | .mk _ _ _ _ l,n,lv=>bif decide (n<1)||decide (lv<1) then -1 else Ex.rszL l n lv 1
def Ex.rszL:List Ex->Int->Int->Int->Int
 | [],_,_,k=>k
 | y::l,n,lv,k=>bif decide (Ex.rsz y (n-k) (lv-1)<0) then -1 else Ex.rszL l n lv (k+Ex.rsz y (n-k) (lv-1))
end
theorem Ex.y8a (x:Ex) (n lv:Int):x.rsz n lv=bif decide (n<1)||decide (lv<1) then -1 else Ex.rszL x.args n lv 1:=by cases x;rw [Ex.rsz];rfl
theorem Ex.yit:∀(l:List Ex),(∀ y∈l,∀ n lv:Int,-1<=y.rsz n lv/\(0<=y.rsz n lv->y.rsz n lv<=n))->∀ n lv k:Int,1<=k->k<=n->-1<=Ex.rszL l n lv k/\(0<=Ex.rszL l n lv k->Ex.rszL l n lv k<=n)
 | [],_,n,lv,k,h1,h2=>by rw [Ex.rszL];omega
 | y::l,h,n,lv,k,h1,h2=>by
  rw [Ex.rszL];have hy:=h y (by simp) (n-k) (lv-1);generalize y.rsz (n-k) (lv-1)=m at hy;by_cases hm:m<0
  . rw [decide_eq_true hm];simp only [cond_true];omega
  . rw [decide_eq_false hm];exact Ex.yit l (fun z hz=>h z (by simp [hz])) n lv (k+m) (by omega) (by omega)
theorem Ex.v4c:∀(x:Ex) (n lv:Int),-1<=x.rsz n lv/\(0<=x.rsz n lv->x.rsz n lv<=n):=by
 refine Ex.ind (fun x ih n lv=>?_);rw [Ex.y8a];by_cases h1:n<1
 . rw [decide_eq_true h1];simp only [Bool.true_or,cond_true];omega
 . by_cases h2:lv<1
   . rw [decide_eq_true h2];simp only [Bool.or_true,cond_true];omega
   . rw [decide_eq_false h1,decide_eq_false h2];exact Ex.yit x.args ih n lv 1 (by omega) (by omega)
theorem w13:∀ x:Ex,x.Sm->∀ n lv:Int,n<=1000->lv<=1000->0<=n->0<=lv->CallsD Γ prog 52 [.agg (exC x),.one (cI n),.one (cI lv)] (.one (cI (x.rsz n lv))):=by
 refine Ex.ind (fun x ih hx n lv hn hlv hn0 hlv0=>?_);have hl:=hx.len;refine CallsD.run [] Go.Proofs.Tryz.func52 rfl rfl rfl ?_;simp only [Go.Proofs.Tryz.f52];refine hgR ?_
 repeat' ((first | refine hfk ?_ ?_<;>intros | refine hik ?_)<;>refine hgS ?_)
 . rename_i h1 _ h2 _;exact RLe.ofEq (by rw [Ex.y8a,decide_eq_true h2,Bool.or_true];rfl)
 . rename_i h1 _ h2 _
   have e0:x.rsz n lv=Ex.rszL x.args n lv 1:=by rw [Ex.y8a,decide_eq_false h1,decide_eq_false h2];rfl
   refine y31 [1,2,3] (fun p:Nat×Int=>[(7,.one (.dat (cI p.2))),(8,.one (.dat (cI p.1)))]) (fun _=>[.box ((exC x).map .dat) (some 24)]) (fun p=>p.1<=x.args.length/\1<=p.2/\p.2<=n/\Ex.rszL (x.args.drop p.1) n lv p.2=Ex.rszL x.args n lv 1) (fun p=>x.args.length-p.1) (0,1) ⟨Nat.zero_le _,by simp only;omega,by simp only;omega,rfl⟩ ?_ ?_
   . refine hg ?_;exact StH.same svl rfl
   rintro ⟨i,k⟩ ⟨hi,hk1,hk2,hc⟩;simp only at hi hk1 hk2 hc;refine hg ?_;refine zkv (fun hlt hd=>?_) (fun hlt _=>?_)
   . have hlt':i<x.args.length:=by omega
     have hy:=zkt hlt';have hcc:=ih _ hy (hx.arg _ hy) (n-k) (lv-1) (by omega) (by omega) (by omega) (by omega);have hb:=Ex.v4c (x.args.getD i default) (n-k) (lv-1);rw [y6x hlt',Ex.rszL] at hc;generalize (x.args.getD i default).rsz (n-k) (lv-1)=m at hcc hb hc;rw [e0,<-hc];clear e0 hc
     conv=>simp (maxSteps:=2000000) (disch:=omega) only [go_sem,Nat.reduceAdd,Nat.reduceSub,Nat.reduceMul,Int.reduceToNat,Nat.reduceEqDiff,Nat.reduceBEq,Nat.reduceBneDiff,Nat.reduceLT,Int.reduceEq,Int.reduceLT,Int.reduceLE,Int.reduceNeg,Int.reduceAdd,Int.reduceSub,Int.reduceMul,hd]
     repeat' ((first | refine hfk ?_ ?_<;>intros | refine hik ?_ | with_reducible first | refine y5m (hcc) ?_ | refine vtc (hcc) ?_)<;>refine hgS ?_)
     . exact RLe.ofEq rfl
     . exact ⟨(i+1,k+m),⟨by simp only;omega,by simp only;omega,by simp only;omega,rfl⟩,by simp only;omega,StH.same svl rfl⟩
   . refine hg ?_;rw [e0,<-hc,List.drop_eq_nil_of_le (by omega),Ex.rszL];exact RLe.ofEq rfl
 . rename_i h1 _;exact RLe.ofEq (by rw [Ex.y8a,decide_eq_true h1];rfl)
theorem rFew (x:Ex) (hx:x.Sm) (n lv:Int) (hn:n<=1000) (hlv:lv<=1000) (hn0:0<=n) (hlv0:0<=lv):CallsD Γ prog 22 [.agg (exC x),.one (cI n),.one (cI lv)] (.one (cB (decide (0<=x.rsz n lv)))):=by
 have h:=w13 (Γ:=Γ) x hx n lv hn hlv hn0 hlv0;refine CallsD.run [] Go.Proofs.Tryz.func22 rfl rfl rfl ?_;simp only [Go.Proofs.Tryz.f22];refine hgR ?_
 repeat' ((first | refine hfk ?_ ?_<;>intros | refine hik ?_ | with_reducible first | refine y5m (h) ?_ | refine vtc (h) ?_)<;>refine hgS ?_)
 all_goals exact RLe.ofEq rfl
theorem xk9 (s:ByteArray):CallsD Γ prog 66 [.one (cS s)] (.one (cB (isWord s))):=by
 refine CallsD.run [] Go.Proofs.Tryz.func66 rfl rfl rfl ?_;simp only [Go.Proofs.Tryz.f66];refine hgR ?_
 repeat' ((first | refine hfk ?_ ?_<;>intros | refine hik ?_)<;>refine hgS ?_)
 all_goals (refine RLe.ofEq ?_;conv=>simp only [Bool.and_true,Bool.true_and,Bool.and_false,Bool.false_and,Bool.or_true,Bool.true_or,Bool.or_false,Bool.false_or,Bool.not_true,Bool.not_false,decide_true,decide_false,not_true_eq_false,not_false_eq_true,x9k,if_true,if_false,Bool.and_self,Bool.or_self,cond_true,cond_false,List.length_map,ne_eq,Int.reduceEq,Int.reduceLT,Int.reduceLE, *,isWord]);first | exact trivial | rfl
theorem vho (s:ByteArray) (hs:s.size<=1099511627776):CallsD Γ prog 145 [.one (cS s)] (.one (cB (isNamed s))):=by
 refine CallsD.run [] Go.Proofs.Tryz.func145 rfl rfl rfl ?_;simp only [Go.Proofs.Tryz.f145];refine hgR ?_
 repeat' ((first | refine hfk ?_ ?_<;>intros | refine hik ?_ | with_reducible first | refine y5m (wy6 s hs) ?_ | refine vtc (wy6 s hs) ?_ | refine y5m (xk9 s) ?_ | refine vtc (xk9 s) ?_)<;>refine hgS ?_)
 all_goals (refine RLe.ofEq ?_;conv=>simp only [Bool.and_true,Bool.true_and,Bool.and_false,Bool.false_and,Bool.or_true,Bool.true_or,Bool.or_false,Bool.false_or,Bool.not_true,Bool.not_false,decide_true,decide_false,not_true_eq_false,not_false_eq_true,x9k,if_true,if_false,Bool.and_self,Bool.or_self,cond_true,cond_false,List.length_map,ne_eq,Int.reduceEq,Int.reduceLT,Int.reduceLE, *,isNamed]);first | exact trivial | rfl
theorem ve4 (o:Int):CallsD Γ prog 146 [.one (cI o)] (.tup [.one (cS (x31 o)),.one (cB (isOp o))]):=by
 refine CallsD.run [] Go.Proofs.Tryz.func146 rfl rfl rfl ?_;simp only [Go.Proofs.Tryz.f146];refine hgR ?_
 repeat' ((first | refine hfk ?_ ?_<;>intros | refine hik ?_)<;>refine hgS ?_)
 all_goals (refine RLe.ofEq ?_;conv=>simp only [Bool.and_true,Bool.true_and,Bool.and_false,Bool.false_and,Bool.or_true,Bool.true_or,Bool.or_false,Bool.false_or,Bool.not_true,Bool.not_false,decide_true,decide_false,not_true_eq_false,not_false_eq_true,x9k,if_true,if_false,Bool.and_self,Bool.or_self,cond_true,cond_false,List.length_map,ne_eq,Int.reduceEq,Int.reduceLT,Int.reduceLE, *,isOp,x31]);first | exact trivial | rfl
theorem v9e (x:Ex) (hx:x.Sm):CallsD Γ prog 95 [.agg (exC x)] (.one (cB (z3f x))):=by
 have hu:=hx.u;have hs:=hx.s;have hl:=hx.len;obtain ⟨q,hq⟩:∃ q,CallsD Γ prog 144 [.one (cS x.unit)] (.tup [.one (cS q),.one (cB (w6l x.unit))]):=wx6 x.unit (by omega);refine CallsD.run [] Go.Proofs.Tryz.func95 rfl rfl rfl ?_;simp only [Go.Proofs.Tryz.f95];refine hgR ?_
 repeat' ((first | refine hfk ?_ ?_<;>intros | refine hik ?_ | with_reducible first | refine y5m (hq) ?_ | refine vtc (hq) ?_ | refine y5m (vho x.name (by omega)) ?_ | refine vtc (vho x.name (by omega)) ?_ | refine y5m (ve4 _) ?_ | refine vtc (ve4 _) ?_)<;>refine hgS ?_)
 all_goals (refine RLe.ofEq ?_;conv=>simp only [Bool.and_true,Bool.true_and,Bool.and_false,Bool.false_and,Bool.or_true,Bool.true_or,Bool.or_false,Bool.false_or,Bool.not_true,Bool.not_false,decide_true,decide_false,not_true_eq_false,not_false_eq_true,x9k,if_true,if_false,Bool.and_self,Bool.or_self,cond_true,cond_false,List.length_map,ne_eq,Int.reduceEq,Int.reduceLT,Int.reduceLE, *,z3f]);first | exact trivial | rfl
theorem vx1 (l:List Ex) (f:FuncId) (p:Ex->Bool) (hl:l.length<=1073741824) (h:∀ y∈l,CallsD Γ prog f [.agg (exC y)] (.one (cB (p y)))) :
 CallsD Γ prog 120 [.one (.sl 5 (l.map Ex.cells)),fN f] (.one (cI (idxF p l))):=by
 refine CallsD.run [] Go.Proofs.Tryz.func120 rfl rfl rfl ?_;simp only [Go.Proofs.Tryz.f120];refine hgR ?_;refine y31 [0,1,7] (fun i:Nat=>[(8,.one (.dat (cI i)))]) (fun _=>[]) (fun i=>i<=l.length/\∀ j,j<i->p (l.getD j default)=false) (fun i=>l.length-i) 0 ⟨Nat.zero_le _,fun j hj=>by omega⟩ ?_ ?_
 . refine hg ?_;exact StH.same svl rfl
 intro i hi;obtain ⟨hi,hj⟩:=hi;refine hg ?_
 repeat' ((first | refine hfk ?_ ?_<;>intros | refine hik ?_ | with_reducible first | refine y5m (h _ (zkt (show i<l.length by omega))) ?_ | refine vtc (h _ (zkt (show i<l.length by omega))) ?_)<;>refine hgS ?_)
 . rename_i hp;rw [(yj1 hi hj).2 (by omega) hp];exact RLe.ofEq rfl
 . rename_i hp;refine ⟨i+1,⟨by omega,fun j hj'=>?_⟩,by omega,StH.same svl rfl⟩
   rcases Nat.lt_or_eq_of_le (Nat.le_of_lt_succ hj') with h2 | h2
   . exact hj j h2
   . rw [h2];exact hp
 . rw [(yj1 hi hj).1 (by omega)];exact RLe.ofEq rfl
theorem yev (l:List Ex) (f:FuncId) (p:Ex->Bool) (hl:l.length<=1073741824) (h:∀ y∈l,CallsD Γ prog f [.agg (exC y)] (.one (cB (p y)))) :
 CallsD Γ prog 63 [.one (.sl 5 (l.map Ex.cells)),fN f] (.one (cB (l.any p))):=by
 refine CallsD.run [] Go.Proofs.Tryz.func63 rfl rfl rfl ?_;simp only [Go.Proofs.Tryz.f63];refine hgR ?_
 repeat' ((first | refine hfk ?_ ?_<;>intros | refine hik ?_ | with_reducible first | refine y5m (vx1 l f p hl h) ?_ | refine vtc (vx1 l f p hl h) ?_)<;>refine hgS ?_)
 exact RLe.ofEq (by rw [<-xlk])
theorem y8h:∀ x:Ex,x.Sm->CallsD Γ prog 47 [.agg (exC x)] (.one (cB x.shaped)):=by
 refine Ex.ind (fun x ih hx=>?_);have hl:=hx.len
 have hw:∀ y∈x.args,CallsD Γ prog 94 [.agg (exC y)] (.one (cB (!y.shaped))):=fun y hy=>by
  refine CallsD.run [] Go.Proofs.Tryz.func94 rfl rfl rfl ?_;simp only [Go.Proofs.Tryz.f94];refine hgR ?_
  repeat' ((first | refine hfk ?_ ?_<;>intros | refine hik ?_ | with_reducible first | refine y5m (ih y hy (hx.arg y hy)) ?_ | refine vtc (ih y hy (hx.arg y hy)) ?_)<;>refine hgS ?_)
  exact RLe.ofEq rfl
 refine CallsD.run [] Go.Proofs.Tryz.func47 rfl rfl rfl ?_;simp only [Go.Proofs.Tryz.f47];refine hgR ?_
 repeat' ((first | refine hfk ?_ ?_<;>intros | refine hik ?_ | with_reducible first | refine y5m (v9e x hx) ?_ | refine vtc (v9e x hx) ?_ | refine y5m (yev x.args _ _ hl hw) ?_ | refine vtc (yev x.args _ _ hl hw) ?_)<;>refine hgS ?_)
 all_goals refine RLe.ofEq ?_
 . rename_i h;rw [Ex.yaj,h];simp [List.all_eq_not_any_not]
 . rename_i h;rw [Ex.yaj,h];rfl
abbrev nB (n:Int) (T:Option TypeId):SB:=.box [.dat (cI n)] T
theorem vc1:∀ x:Ex,x.Sm->∀(n lv:Int) (T:Option TypeId),0<=n->n<=1000->0<=lv->lv<=1000->
 zq1 Γ prog 46 [nB n T] [.agg ((exC x).map .dat),.one (.ptr 0 0),.one (.dat (cI lv))] [nB (x.cnt n lv).2 T] (.one (.dat (cB (x.cnt n lv).1))):=by
 refine Ex.ind (fun x ih hx n lv T h0 h1 h2 h3=>?_);have hl:=hx.len
 have fin:∀(b:Bool) (k:Int),x.cnt n lv=(b,k)->StH Γ [nB n T] [SV.one (.dat (cB b))] [nB k T,.box ((exC x).map .dat) (some 24)] [SV.one (.dat (cB (x.cnt n lv).1))] [nB (x.cnt n lv).2 T]:=fun b k h=>by
  rw [h];exact StH.done 1 rfl (by kernel_rfl) rfl rfl
 refine zq1.run [] Go.Proofs.Tryz.func46 rfl rfl ?_;simp only [Go.Proofs.Tryz.f46];refine hgR ?_
 repeat' ((first | refine hfk ?_ ?_<;>intros | refine hik ?_)<;>refine hgS ?_)
 . exact fin _ _ (by rw [Ex.w8w];simp only [*];rfl)
 . have e0:x.cnt n lv=Ex.cntL x.args (n+1) (lv+1):=by rw [Ex.w8w];simp only [*];rfl
   refine y31 [1,2,23,24] (fun p:Nat×Int=>[(25,.one (.dat (cI p.1)))]) (fun p=>[nB p.2 T,.box ((exC x).map .dat) (some 24)]) (fun p=>p.1<=x.args.length/\0<=p.2/\p.2<=200/\Ex.cntL (x.args.drop p.1) p.2 (lv+1)=Ex.cntL x.args (n+1) (lv+1)) (fun p=>x.args.length-p.1) (0,n+1) ⟨Nat.zero_le _,by simp only;omega,by simp only;omega,rfl⟩ ?_ ?_
   . refine hg ?_;exact StH.same svl rfl
   rintro ⟨i,m⟩ ⟨hi,hm0,hm1,hc⟩;simp only at hi hm0 hm1 hc;refine hg ?_;refine zkv (fun hlt hd=>?_) (fun hlt _=>?_)
   . have hlt':i<x.args.length:=by omega
     have hy:=zkt hlt';rw [y6x hlt'] at hc;refine hg ?_;refine z9v [0] (ih _ hy (hx.arg _ hy) m (lv+1) T (by omega) (by omega) (by omega) (by omega)) rfl (by decide) rfl rfl rfl ?_;have hstep:=hc;rw [Ex.cntL] at hstep;generalize hr:(x.args.getD i default).cnt m (lv+1)=r at hstep ⊢;obtain ⟨b,k⟩:=r;refine hg ?_
     cases b with
     | true=>
      have hk:=Ex.vie _ _ _ _ hr;refine hg ?_;exact ⟨(i+1,k),⟨by simp only;omega,by simp only;omega,hk.2,hstep⟩,by simp only;omega,StH.back [1,2,23,24,25] 2 2 2 rfl rfl rfl rfl rfl (by kernel_rfl) (StH.same svl rfl)⟩
     | false=>
      refine hg ?_;rw [e0,<-hstep];exact StH.done 1 rfl (by kernel_rfl) rfl rfl
   . refine hg ?_;rw [e0,<-hc,List.drop_eq_nil_of_le (by omega),Ex.cntL];exact StH.done 1 rfl (by kernel_rfl) rfl rfl
 . exact fin _ _ (by rw [Ex.w8w];simp only [*];rfl)
theorem y1b (x:Ex) (hx:x.Sm):CallsD Γ prog 18 [.agg (exC x)] (.one (cB (vsf x))):=by
 refine CallsD.run [] Go.Proofs.Tryz.func18 rfl rfl rfl ?_;simp only [Go.Proofs.Tryz.f18];refine hgR ?_;refine z9v [1] (vc1 x hx 0 1 _ (by decide) (by decide) (by decide) (by decide)) rfl (by decide) rfl rfl rfl ?_;refine hg ?_
 repeat' ((first | refine hfk ?_ ?_<;>intros | refine hik ?_ | with_reducible first | refine y5m (y8h x hx) ?_ | refine vtc (y8h x hx) ?_)<;>refine hgS ?_)
 all_goals (refine RLe.ofEq ?_;conv=>simp only [Bool.and_true,Bool.true_and,Bool.and_false,Bool.false_and,Bool.or_true,Bool.true_or,Bool.or_false,Bool.false_or,Bool.not_true,Bool.not_false,decide_true,decide_false,not_true_eq_false,not_false_eq_true,x9k,if_true,if_false,Bool.and_self,Bool.or_self,cond_true,cond_false,List.length_map,ne_eq,Int.reduceEq,Int.reduceLT,Int.reduceLE, *,vsf]);first | exact trivial | rfl
end Go.Hp.T
namespace Go.Hp
open Go Go.RowKit Go.Slot
variable {P:Program} {Γ:List (Nat×List Cell)}
theorem xtc {n N i:Nat} (h:i<n):atR (List.range n) N i=i:=x7l (by simp [h])
theorem zq1.pre {f:FuncId} {ηs ξ:List SB} {args:List SV} {res:SV} (h:zq1 Γ P f ηs args ηs res) (hs:∀ r,ηs.map (rnSB r)=ηs) (ha:args.map (wnc (atR (List.range ηs.length) (ηs++ξ).length))=args) (hr:rnSV (atR (List.range ηs.length) (ηs++ξ).length) res=res):zq1 Γ P f (ηs++ξ) args (ηs++ξ) res:=by
 have hfix:∀(r:Nat->Nat) (i:Nat) (x:SB),ηs[i]? = some x->rnSB r x=x:=fun r i x hx=>by
  have:=congrArg (fun l=>l[i]?) (hs r)
  simp only [List.getElem?_map,hx,Option.map_some] at this;exact Option.some.inj this
 have hlt:∀ j∈List.range ηs.length,j<(ηs++ξ).length:=fun j hj=>by
  rw [List.mem_range] at hj;rw [List.length_append];omega
 have hk:=zq1.frame (φ:=List.range ηs.length) (η:=ηs++ξ) List.nodup_range hlt ⟨by simp,fun i x hx=>by
  have hi:i<ηs.length:=(List.getElem?_eq_some_iff.1 hx).1
  exact ⟨i,by simp [hi],by rw [hfix _ i x hx,List.getElem?_append_left hi];exact hx⟩⟩ (by simp) h
 rw [ha,hr] at hk
 have hp:putR (List.range ηs.length) (ηs++ξ) ηs=ηs++ξ:=by
  apply List.ext_getElem?;intro i;by_cases hi:i<ηs.length
  . have h1:=xbn (φ:=List.range ηs.length) (η:=ηs++ξ) (ηs':=ηs) List.nodup_range hlt (List.getElem?_eq_getElem hi);rw [xtc hi,hfix _ i _ (List.getElem?_eq_getElem hi)] at h1;rw [h1,List.getElem?_append_left hi,List.getElem?_eq_getElem hi]
  . by_cases hi2:i<(ηs++ξ).length
    . exact wyk hi2 (by simpa using hi)
    . rw [List.getElem?_eq_none (by rw [ya7];simp at hi2 ⊢;omega),List.getElem?_eq_none (by omega)]
 rw [hp] at hk;exact hk
end Go.Hp
namespace Go.Hp.T
open Go Go.RowKit Go.Slot Go.Hp
theorem vbi {x:Ex} (h:z3f x=true) (h3:x.op≠3) (h0:x.args.length≠0):(x.op≠2->x.op≠4->2<=x.args.length)/\(x.op=5->3<=x.args.length):=by
 unfold z3f at h;by_cases a0:x.op=0
 . rw [decide_eq_true a0,cond_true] at h;simp only [Bool.and_eq_true,decide_eq_true_eq] at h;omega
 rw [decide_eq_false a0,cond_false] at h
 cases hb:(decide (¬x.n=0)||decide (¬x.unit.size=0)) with
 | true=>rw [hb,cond_true] at h;cases h
 | false=>
 rw [hb,cond_false] at h;by_cases a1:x.op=1
 . rw [decide_eq_true a1,cond_true] at h;simp only [Bool.and_eq_true,decide_eq_true_eq] at h;omega
 rw [decide_eq_false a1,cond_false] at h;by_cases a2:x.op=2
 . rw [decide_eq_true a2,cond_true] at h;simp only [Bool.and_eq_true,decide_eq_true_eq] at h;omega
 rw [decide_eq_false a2,cond_false] at h;by_cases a3:x.op=3
 . rw [decide_eq_true a3,cond_true] at h;simp only [Bool.and_eq_true,decide_eq_true_eq] at h;omega
 rw [decide_eq_false a3,cond_false] at h;by_cases a4:x.op=4
 . rw [decide_eq_true a4,cond_true] at h;simp only [Bool.and_eq_true,decide_eq_true_eq] at h;omega
 rw [decide_eq_false a4,cond_false] at h;by_cases a5:x.op=5
 . rw [decide_eq_true a5,cond_true] at h;simp only [Bool.and_eq_true,decide_eq_true_eq] at h;omega
 rw [decide_eq_false a5,cond_false] at h
 cases hc:(decide (x.op=10)||decide (x.op=11)) with
 | true=>rw [hc,cond_true] at h;simp only [Bool.and_eq_true,decide_eq_true_eq] at h;omega
 | false=>rw [hc,cond_false] at h;simp only [Bool.and_eq_true,decide_eq_true_eq] at h;omega
end Go.Hp.T
namespace Go.Hp.T
open Go Go.RowKit Go.Slot Go.Hp Go.Slot.T
open Go.Proofs.Tryz (prog)
set_option maxRecDepth 10000
set_option maxHeartbeats 4000000
variable {Γ:List (Nat×List Cell)}
theorem cTIn (n:Int):CallsD Γ prog 124 [.one (cI n)] (.one (cB (inT n))):=by
 refine CallsD.run [] Go.Proofs.Tryz.func124 rfl rfl rfl ?_;simp only [Go.Proofs.Tryz.f124];refine hgR ?_
 repeat' ((first | refine hfk ?_ ?_<;>intros | refine hik ?_)<;>refine hgS ?_)
 all_goals (refine RLe.ofEq ?_;conv=>simp only [Bool.and_true,Bool.true_and,Bool.and_false,Bool.false_and,Bool.or_true,Bool.true_or,Bool.or_false,Bool.false_or,Bool.not_true,Bool.not_false,decide_true,decide_false,not_true_eq_false,not_false_eq_true,x9k,if_true,if_false,Bool.and_self,Bool.or_self,cond_true,cond_false,List.length_map,ne_eq,Int.reduceEq,Int.reduceLT,Int.reduceLE, *,inT]);first | exact trivial | rfl
theorem vtn (s:ByteArray) (hs:s.size<=1073741824):CallsD Γ prog 15 [.one (cS s)] (.tup [.agg (unX (wrt s).1),.one (cI (wrt s).2)]):=by
 have:=xle (Γ:=Γ) s hs
 rw [z51] at this;exact this
theorem x3t (t:Tb) (h1:t.name.size<=1073741824) (h2:t.unit.size<=1073741824) (h3:t.rows.length<=1073741824):CallsD Γ prog 67 [.agg (tbC t)] (.one (cB (wlo (fun s=>(wrt s).2) t))):=by
 refine CallsD.run [] Go.Proofs.Tryz.func67 rfl rfl rfl ?_;simp only [Go.Proofs.Tryz.f67];refine hgR ?_
 repeat' ((first | refine hfk ?_ ?_<;>intros | refine hik ?_ | with_reducible first | refine y5m (vtn t.unit h2) ?_ | refine vtc (vtn t.unit h2) ?_ | refine y5m (wy6 t.name (by omega)) ?_ | refine vtc (wy6 t.name (by omega)) ?_)<;>refine hgS ?_)
 . (refine RLe.ofEq ?_;conv=>simp only [Bool.and_true,Bool.true_and,Bool.and_false,Bool.false_and,Bool.or_true,Bool.true_or,Bool.or_false,Bool.false_or,Bool.not_true,Bool.not_false,decide_true,decide_false,not_true_eq_false,not_false_eq_true,x9k,if_true,if_false,Bool.and_self,Bool.or_self,cond_true,cond_false,List.length_map,ne_eq,Int.reduceEq,Int.reduceLT,Int.reduceLE, *,wlo]);first | exact trivial | rfl
 . refine y31 [1,28,29] (fun i:Nat=>[(30,.one (.dat (cI i)))]) (fun _=>[.box ((tbC t).map .dat) (some 60),.box ((unX (wrt t.unit).1).map .dat) (some 44)]) (fun i=>i<=t.rows.length/\∀ j,j<i->rowAt t.rows j=true) (fun i=>t.rows.length-i) 0 ⟨Nat.zero_le _,fun j hj=>by omega⟩ ?_ ?_
   . refine hg ?_;exact StH.same svl rfl
   rintro i ⟨hi,hj⟩
   have hbad:rowAt t.rows i=false->i<t.rows.length->wlo (fun s=>(wrt s).2) t=false:=fun h h'=>by
    unfold wlo zah;rw [x52 h' h,Bool.and_false]
   refine hg ?_
   repeat' ((first | refine hfk ?_ ?_<;>intros | refine hik ?_ | with_reducible first | refine y5m (cTIn _) ?_ | refine vtc (cTIn _) ?_)<;>refine hgS ?_)
   all_goals first
    | (rw [hbad (by ((conv=>simp only [Bool.and_true,Bool.true_and,Bool.and_false,Bool.false_and,Bool.or_true,Bool.true_or,Bool.or_false,Bool.false_or,Bool.not_true,Bool.not_false,decide_true,decide_false,not_true_eq_false,not_false_eq_true,x9k,if_true,if_false,Bool.and_self,Bool.or_self,cond_true,cond_false,List.length_map,ne_eq,Int.reduceEq,Int.reduceLT,Int.reduceLE, *,rowAt])<;>try exact trivial)) (by omega)];exact RLe.ofEq rfl)
    | (refine ⟨i+1,⟨by omega,vz3 hj (by ((conv=>simp only [Bool.and_true,Bool.true_and,Bool.and_false,Bool.false_and,Bool.or_true,Bool.true_or,Bool.or_false,Bool.false_or,Bool.not_true,Bool.not_false,decide_true,decide_false,not_true_eq_false,not_false_eq_true,x9k,if_true,if_false,Bool.and_self,Bool.or_self,cond_true,cond_false,List.length_map,ne_eq,Int.reduceEq,Int.reduceLT,Int.reduceLE, *,rowAt])<;>try exact trivial))⟩,by omega,StH.back [1,28,29,30] 2 2 2 rfl rfl rfl rfl rfl (by kernel_rfl) (StH.same svl rfl)⟩)
    | (refine RLe.ofEq ?_;rw [show wlo (fun s=>(wrt s).2) t=true from by unfold wlo zah;rw [zce (fun j hj'=>hj j (by omega))];((conv=>simp only [Bool.and_true,Bool.true_and,Bool.and_false,Bool.false_and,Bool.or_true,Bool.true_or,Bool.or_false,Bool.false_or,Bool.not_true,Bool.not_false,decide_true,decide_false,not_true_eq_false,not_false_eq_true,x9k,if_true,if_false,Bool.and_self,Bool.or_self,cond_true,cond_false,List.length_map,ne_eq,Int.reduceEq,Int.reduceLT,Int.reduceLE, *])<;>try exact trivial)])
 . (refine RLe.ofEq ?_;conv=>simp only [Bool.and_true,Bool.true_and,Bool.and_false,Bool.false_and,Bool.or_true,Bool.true_or,Bool.or_false,Bool.false_or,Bool.not_true,Bool.not_false,decide_true,decide_false,not_true_eq_false,not_false_eq_true,x9k,if_true,if_false,Bool.and_self,Bool.or_self,cond_true,cond_false,List.length_map,ne_eq,Int.reduceEq,Int.reduceLT,Int.reduceLE, *,wlo]);first | exact trivial | rfl
 . (refine RLe.ofEq ?_;conv=>simp only [Bool.and_true,Bool.true_and,Bool.and_false,Bool.false_and,Bool.or_true,Bool.true_or,Bool.or_false,Bool.false_or,Bool.not_true,Bool.not_false,decide_true,decide_false,not_true_eq_false,not_false_eq_true,x9k,if_true,if_false,Bool.and_self,Bool.or_self,cond_true,cond_false,List.length_map,ne_eq,Int.reduceEq,Int.reduceLT,Int.reduceLE, *,wlo]);first | exact trivial | rfl
def xha (V:List (ByteArray×Dm)) (x:Ex):Ty×Int:=bif decide (x.op=1) then (match y4u V x.name with
 | none=>(Ty.zero,11)
 | some d=>(⟨false,d⟩,0)) else
 bif decide (¬(wrt x.unit).2=0) then (Ty.zero,14) else (⟨false,dmO (wrt x.unit).1⟩,0)
mutual
def Ex.ty (V T:List (ByteArray×Dm)):Ex->Ty×Int
 | .mk o n u s l=>bif decide ((l.length:Int)=0) then xha V (.mk o n u s l) else
  match Ex.tyL V T l with
  | .inl e=>(Ty.zero,e)
  | .inr ts=>zdw T o s ts
def Ex.tyL (V T:List (ByteArray×Dm)):List Ex->Int ⊕ List Ty
 | []=>.inr []
 | y::l=>match Ex.ty V T y with
  | (t,e)=>bif decide (¬e=0) then .inl e else match Ex.tyL V T l with
   | .inl e=>.inl e
   | .inr ts=>.inr (t::ts)
end
end Go.Hp.T
namespace Go.Hp
open Go Go.RowKit Go.Slot
variable {P:Program} {Γ:List (Nat×List Cell)} {e:List SB}
theorem zq1.ro (φ:List Nat) {f:FuncId} {η ηs:List SB} {args:List SV} {res:SV} (h:zq1 Γ P f ηs args ηs res) (hs:∀ r,ηs.map (rnSB r)=ηs) (hn:φ.Nodup) (hb:(φ.all fun j=>Nat.blt j η.length)=true) (hp:φ.map (fun j=>η[j]?)=ηs.map some) :
 zq1 Γ P f η (args.map (wnc (atR φ η.length))) η (rnSV (atR φ η.length) res):=by
 have hfix:∀(r:Nat->Nat) (x:SB),x∈ηs->rnSB r x=x:=fun r x hx=>by
  obtain ⟨i,hi,rfl⟩:=List.getElem_of_mem hx
  have:=congrArg (fun l=>l[i]?) (hs r)
  simp only [List.getElem?_map,List.getElem?_eq_getElem hi,Option.map_some] at this;exact Option.some.inj this
 have hb':∀ j∈φ,j<η.length:=fun j hj=>by simpa using List.all_eq_true.1 hb j hj
 have hp':φ.map (fun j=>η[j]?)=ηs.map (fun x=>some (rnSB (atR φ η.length) x)):=by
  rw [hp];exact List.map_congr_left (fun x hx=>by rw [hfix _ x hx])
 have hk:=vib.of hp';have hc:=zq1.frame hn hb' hk (by rw [hk.1];exact Nat.le_refl _) h
 have hput:putR φ η ηs=η:=by
  apply List.ext_getElem?;intro i;by_cases hi2:i<η.length
  . by_cases hi:i∈φ
    . obtain ⟨k,hk2,rfl⟩:=List.getElem_of_mem hi
      have hkl:k<ηs.length:=by rw [hk.1];exact hk2
      have h1:=xbn (ηs':=ηs) hn hb' (List.getElem?_eq_getElem hkl);rw [x7l (List.getElem?_eq_getElem hk2),hfix _ _ (List.getElem_mem hkl)] at h1;rw [h1];have h2:=congrArg (fun l=>l[k]?) hp;simp only [List.getElem?_map,List.getElem?_eq_getElem hk2,List.getElem?_eq_getElem hkl,Option.map_some] at h2;exact (Option.some.inj h2).symm
    . exact wyk hi2 hi
  . rw [List.getElem?_eq_none (by rw [ya7,hk.1];omega),List.getElem?_eq_none (by omega)]
 rw [hput] at hc;exact hc
theorem StH.cutN {σ σ':List SV} {η η':List SB} (ks:List Nat) (m:Nat) (hm:Nat.ble e.length m=true) (h:wiw m (x1y ks 0 σ) η=true) (hk:StH Γ e (x1y ks 0 σ) (η.take m) σ' η'):StH Γ e σ η σ' η':=
 StH.trans (StH.only ks) (StH.trans (StH.cutB m (by simpa using hm) h) hk)
theorem StH.tup1 {l l':List SV} {η:List SB} (h:zw5 l l'):StH Γ e [.tup l] η [.tup l'] η:=fun E ρ a w hE hR=>⟨ρ,hR.hd,hR.hs,fun i x hi=>by
 cases i with
 | zero=>
  simp only [List.getElem?_cons_zero,Option.some.injEq] at hi;subst hi;obtain ⟨vs,hv,hr⟩:=hR.slot 0 (.tup l) rfl;exact ⟨vs,hv,SRL.le h hr⟩
 | succ i=>simp at hi,hR.went⟩
theorem xkb {a b:Nat}:Nat.blt a b=decide (a<b):=by
 by_cases h:a<b
 . rw [decide_eq_true h];simpa using h
 . rw [decide_eq_false h]
   cases hh:Nat.blt a b with
   | false=>rfl
   | true=>exact absurd (by simpa using hh) h
end Go.Hp
namespace Go.Hp.T
open Go Go.RowKit Go.Slot Go.Hp Go.Slot.T
open Go.Proofs.Tryz (prog)
set_option maxRecDepth 10000
set_option maxHeartbeats 4000000
variable {Γ:List (Nat×List Cell)}
theorem x2v {η:List SB} {h1 h2:HC}:StH Γ [] [SV.tup [.agg [h1,h2],.one (.dat (cB false))]] η [SV.tup [.agg [.any,.any],.one (.dat (cB false))]] []:=
 StH.trans (StH.tup1 (l':=[.agg [.any,.any],.one (.dat (cB false))]) (.cons (.agg (.cons (.any _) (.cons (.any _) .nil))) (.cons (.refl _) .nil))) (by
  have:=StH.cutB (Γ:=Γ) (e:=[]) (σ:=[SV.tup [.agg [.any,.any],.one (.dat (cB false))]]) (η:=η) 0 (Nat.le_refl _) (by unfold wiw;rfl)
  exact this)
theorem y0y (l:List HC) (T:Option TypeId):vxd (.box l T)=l.flatMap wd7:=rfl
theorem zps (c:Cell) (k:Nat) (T:Option TypeId):vxd (.arr c k T)=[]:=rfl
theorem ybk:vxd .dead=[]:=rfl
attribute [go_sem] wiw w40 wd7 y0y zps ybk xkb List.flatMap_cons List.flatMap_nil List.all_append
structure Tb.Sm (t:Tb):Prop where
 n:t.name.size<=1073741824
 u:t.unit.size<=1073741824
 r:t.rows.length<=1073741824
end Go.Hp.T
namespace Go.Hp.T
open Go Go.RowKit Go.Slot Go.Hp Go.Slot.T
open Go.Proofs.Tryz (prog)
set_option maxRecDepth 10000
set_option maxHeartbeats 4000000
variable {Γ:List (Nat×List Cell)}
def Dm.neg (x:Dm):Dm:=⟨0-x.a,0-x.b,0-x.c,0-x.d,0-x.e,0-x.f⟩
end Go.Hp.T
namespace Go.Slot.T
open Go Go.RowKit Go.Slot
open Go.Proofs.Tryz (prog)
set_option maxRecDepth 10000
set_option maxHeartbeats 4000000
theorem z23 (L:List Int) (i:Nat) (_hL:L.length<=1099511627776) (hi:(i:Int)<=1099511627776) :
 zkh prog 189 [.one (.ints .i64 L),.one (.raw (.int .i64 i))] (.one (.raw (.int .i64 (L.getD i 0)))):=by
 refine zkh.run [] Go.Proofs.Tryz.func189 rfl rfl ?_;conv=>simp (maxSteps:=2000000) (disch:=omega) only [go_sem,Nat.reduceAdd,Nat.reduceSub,Nat.reduceMul,Int.reduceToNat,Nat.reduceEqDiff,Nat.reduceBEq,Nat.reduceBneDiff,Go.Proofs.Tryz.f189,List.replicate]
 refine zs6 (fun h=>?_) (fun h=>?_)
 . refine rg ?_;exact ⟨_,rfl,.one (.refl _)⟩
 . refine rg ?_;exact ⟨_,rfl,by rw [wgh (by omega)];exact .one (.refl _)⟩
theorem xge (L:List Int) (hL:L.length<=1099511627776):zkh prog 185 [.one (.ints .i64 L)] (.one (.ints .i64 (xcd L))):=by
 refine zkh.run [] Go.Proofs.Tryz.func185 rfl rfl ?_;conv=>simp (maxSteps:=2000000) (disch:=omega) only [go_sem,Nat.reduceAdd,Nat.reduceSub,Nat.reduceMul,Int.reduceToNat,Nat.reduceEqDiff,Nat.reduceBEq,Nat.reduceBneDiff,Go.Proofs.Tryz.f185,List.replicate]
 refine vu2 [0,2] (fun n:Nat=>[(3,.one (.raw (.int .i64 n)))])
  (fun n=>n<=L.length/\wj5 L L.length=wj5 L n) (fun n=>n) L.length ⟨Nat.le_refl _,rfl⟩ ?_ ?_
 . refine rg ?_;exact StLe.weaken (by repeat' first | exact .nil | refine .cons (by first | exact .refl _ | exact .any _) ?_) rfl
 rintro n ⟨hn,ht⟩;refine rg ?_
 have fin:wj5 L L.length=n->xcd L=L.take n:=fun h=>by unfold xcd;rw [h]
 refine v9r (fun h=>?_) (fun h=>?_)
 . obtain ⟨m,rfl⟩:∃ m,n=m+1:=⟨n-1,by omega⟩
   have e:((m+1:Nat):Int)-1=(m:Nat):=by omega
   have h':=decide_eq_true h
   conv=>simp (maxSteps:=2000000) (disch:=omega) only [go_sem,Nat.reduceAdd,Nat.reduceSub,Nat.reduceMul,Int.reduceToNat,Nat.reduceEqDiff,Nat.reduceBEq,Nat.reduceBneDiff,h',e]
   refine zs6 (fun h2=>?_) (fun h2=>?_)
   . conv=>simp (maxSteps:=2000000) (disch:=omega) only [go_sem,Nat.reduceAdd,Nat.reduceSub,Nat.reduceMul,Int.reduceToNat,Nat.reduceEqDiff,Nat.reduceBEq,Nat.reduceBneDiff,e]
     exact ⟨m,⟨by omega,by rw [ht];simp only [wj5];rw [if_pos h2]⟩,by omega,StLe.weaken (by repeat' first | exact .nil | refine .cons (by first | exact .refl _ | exact .any _) ?_) rfl⟩
   . have hfin:wj5 L L.length=m+1:=by rw [ht];simp only [wj5];rw [if_neg h2]
     rw [fin hfin]
     conv=>simp (maxSteps:=2000000) (disch:=omega) only [go_sem,Nat.reduceAdd,Nat.reduceSub,Nat.reduceMul,Int.reduceToNat,Nat.reduceEqDiff,Nat.reduceBEq,Nat.reduceBneDiff,e,Nat.sub_zero,List.length_take]
     exact ⟨_,rfl,.own⟩
 . have h0:n=0:=by omega
   subst h0;rw [fin (by rw [ht];rfl)]
   conv=>simp (maxSteps:=2000000) (disch:=omega) only [go_sem,Nat.reduceAdd,Nat.reduceSub,Nat.reduceMul,Int.reduceToNat,Nat.reduceEqDiff,Nat.reduceBEq,Nat.reduceBneDiff,h,Nat.sub_zero,List.length_take]
   exact ⟨_,rfl,.one (.refl _)⟩
theorem x1j (s:Int) (L:List Int) (hL:L.length<=1099511627776) :
 zkh prog 143 [.one (.raw (.int .i64 s)),.one (.ints .i64 L)] (.agg (bigC (if xcd L=[] then 0 else s) (xcd L))):=by
 refine zkh.run [] Go.Proofs.Tryz.func143 rfl rfl ?_;conv=>simp (maxSteps:=2000000) (disch:=omega) only [go_sem,Nat.reduceAdd,Nat.reduceSub,Nat.reduceMul,Int.reduceToNat,Nat.reduceEqDiff,Nat.reduceBEq,Nat.reduceBneDiff,Go.Proofs.Tryz.f143,List.replicate]
 refine vmb (xge L hL) ?_;refine rg ?_;refine zs6 (fun h=>?_) (fun h=>?_)
 . have h0:xcd L=[]:=by have:(xcd L).length=0:=(by omega);simpa using this
   refine rg ?_;refine ⟨_,rfl,?_⟩;rw [h0];exact .one (.agg (.cons (.refl _) (.cons (.yns _) .nil)))
 . have h0:xcd L≠[]:=fun e=>h (by rw [e];rfl)
   refine rg ?_;refine ⟨_,rfl,?_⟩
   try rw [if_neg h0]
   exact .one (.refl _)
theorem w79 (s z:Int) (hz:(dig z.natAbs).length<=1073741824) (h:(s=1/\0<=z)\/(s = -1/\z<=0)\/z=0) :
 zkh prog 143 [.one (.raw (.int .i64 s)),.one (.ints .i64 (dig z.natAbs))] (.agg [.raw (.int .i64 (sg z)),.ints .i64 (dig z.natAbs)]):=by
 have h':=x1j s (dig z.natAbs) (by omega);unfold bigC at h';rw [zvc h] at h';exact h'
end Go.Slot.T
