/- The proof, part R32: Ga, Qa, Qb, Nb, Ih. -/
import Derived.Test.YtmegdbbbllffkaaGreatDoorR31
import Derived.Test.YtmegdbbbllffkaaGreatDoorR27
namespace Go.Hp.T
open Go Go.RowKit Go.Slot Go.Hp Go.Slot.T
open Go.Proofs.Tryz (prog)
set_option maxRecDepth 10000
set_option maxHeartbeats 4000000
variable {Γ:List (Nat×List Cell)}
variable {a b i:Nat} {c:Int} {place:Nat->Option (Nat×Nat)} {cs:List HC} {r:List (Nat×SV)}
def qF:Option Rat->Fc
 | none=>Fc.zero
 | some q=>Fc.of q
abbrev qC (v:Option Rat):List Cell:=[.raw (.int .i64 (qF v).s),.ints .i64 (qF v).L,.raw (.int .i64 (qF v).t),.ints .i64 (qF v).M]
abbrev qz (v:Option Rat):Nat:=(qF v).sz
theorem yr3 {v:Option Rat}:(qF v).ok↔v.isSome=true:=by
 cases v with
 | none=>exact ⟨fun h=>absurd h Fc.vc1,fun h=>by cases h⟩
 | some q=>exact ⟨fun _=>rfl,fun _=>Fc.zav q⟩
theorem zym {a b:Option Rat} (h:qF a=qF b):a=b:=by
 cases a with
 | none=>cases b with
  | none=>rfl
  | some y=>exact absurd (show Fc.zero.ok by rw [show Fc.zero=Fc.of y from h];exact Fc.zav y) Fc.vc1
 | some x=>cases b with
  | none=>exact absurd (show Fc.zero.ok by rw [show Fc.zero=Fc.of x from h.symm];exact Fc.zav x) Fc.vc1
  | some y=>rw [Fc.y2b h]
theorem xp2 {f:Fc} (h:f.ok):∃ q,f=qF (some q):=Fc.xst h
def op2O (g:Rat->Rat->Rat) (a b:Option Rat):Option Rat:=match a,b with
 | some x,some y=>some (g x y)
 | _,_=>none
def erO (a b:Option Rat):Int:=bif a.isSome&&b.isSome then 0 else 1
def cmpO (a b:Option Rat):Int:=match a,b with
 | some x,some y=>Fc.ordQ x y
 | _,_=>0
def divO (a b:Option Rat):Option Rat:=match a,b with
 | some x,some y=>bif decide (y=0) then none else some (x / y)
 | _,_=>none
def divE (a b:Option Rat):Int:=match a,b with
 | some _,some y=>bif decide (y=0) then 15 else 0
 | _,_=>1
abbrev addO:=op2O (· + ·)
abbrev subO:=op2O (· - ·)
abbrev mulO:=op2O (· * ·)
abbrev minO:=op2O (fun x y=>min x y)
abbrev maxO:=op2O (fun x y=>max x y)
theorem yqn (g:Rat->Rat->Rat) (a b:Option Rat):Fc.op2 g (qF a) (qF b)=qF (op2O g a b):=by
 cases a with
 | none=>exact Fc.zmk (fun h=>Fc.vc1 h.1)
 | some x=>cases b with
  | none=>exact Fc.zmk (fun h=>Fc.vc1 h.2)
  | some y=>exact Fc.ypk g x y
theorem v7s (a b:Option Rat):Fc.er ((qF a).ok/\(qF b).ok)=erO a b:=by
 cases a with
 | none=>exact Fc.zab (fun h=>Fc.vc1 h.1)
 | some x=>cases b with
  | none=>exact Fc.zab (fun h=>Fc.vc1 h.2)
  | some y=>exact Fc.v2c ⟨Fc.zav x,Fc.zav y⟩
theorem zyd (a b:Option Rat):Fc.cmp (qF a) (qF b)=cmpO a b:=by
 cases a with
 | none=>exact if_neg (fun h=>Fc.vc1 h.1)
 | some x=>cases b with
  | none=>exact if_neg (fun h=>Fc.vc1 h.2)
  | some y=>exact Fc.ysh x y
theorem zpb (a b:Option Rat):-1<=cmpO a b/\cmpO a b<=1:=by rw [<-zyd];exact Fc.yav _ _
abbrev qR (v:Option Rat) (e:Int):AV:=.tup [.agg (qC v),.one (cI e)]
theorem oAdd (a b:Option Rat) (ha:qz a<=67108864) (hb:qz b<=67108864):CallsD Γ prog 69 [.agg (qC a),.agg (qC b)] (qR (addO a b) (erO a b)):=by
 have h:=toD (Γ:=Γ) (wnb (qF a) (qF b) ha hb);rw [show Fc.add (qF a) (qF b)=_ from yqn _ a b,v7s] at h;exact h
theorem oSub (a b:Option Rat) (ha:qz a<=67108864) (hb:qz b<=67108864):CallsD Γ prog 127 [.agg (qC a),.agg (qC b)] (qR (subO a b) (erO a b)):=by
 have h:=toD (Γ:=Γ) (zb4 (qF a) (qF b) ha hb);rw [show Fc.sub (qF a) (qF b)=_ from yqn _ a b,v7s] at h;exact h
theorem oMul (a b:Option Rat) (ha:qz a<=67108864) (hb:qz b<=67108864):CallsD Γ prog 16 [.agg (qC a),.agg (qC b)] (qR (mulO a b) (erO a b)):=by
 have h:=toD (Γ:=Γ) (xxk (qF a) (qF b) ha hb);rw [show Fc.mul (qF a) (qF b)=_ from yqn _ a b,v7s] at h;exact h
theorem oMax (a b:Option Rat) (ha:qz a<=67108864) (hb:qz b<=67108864):CallsD Γ prog 129 [.agg (qC a),.agg (qC b)] (qR (maxO a b) (erO a b)):=by
 have h:=toD (Γ:=Γ) (vdh (qF a) (qF b) ha hb);rw [show Fc.maxf (qF a) (qF b)=_ from yqn _ a b,v7s] at h;exact h
theorem oCmp (a b:Option Rat) (ha:qz a<=67108864) (hb:qz b<=67108864):CallsD Γ prog 130 [.agg (qC a),.agg (qC b)] (.one (cI (cmpO a b))):=by
 have h:=toD (Γ:=Γ) (zrw (qF a) (qF b) ha hb);rw [zyd] at h;exact h
theorem xau (f:Fc) (h:f.sz<=268435456):CallsD Γ prog 26 [.agg f.C] (.one (cB (decide f.ok))):=toD (wuf f h)
theorem wi7 (v:Option Rat) (h:qz v<=268435456):CallsD Γ prog 26 [.agg (qC v)] (.one (cB v.isSome)):=by
 have h:=toD (Γ:=Γ) (wuf (qF v) h)
 rw [show decide (qF v).ok=v.isSome by cases hv:v.isSome with
  | true=>exact decide_eq_true (yr3.2 hv)
  | false=>exact decide_eq_false (fun h=>by rw [yr3.1 h] at hv;cases hv)] at h
 exact h
theorem oInt (n:Int) (hn:inI n):CallsD Γ prog 39 [.one (cI n)] (.agg (qC (some (n:Rat)))):=toD (x4e n hn)
theorem oMin (a b : Option Rat) (ha : qz a ≤ 67108864) (hb : qz b ≤ 67108864) : CallsD Γ prog 128 [.agg (qC a), .agg (qC b)] (qR (minO a b) (erO a b)) := by
 by_cases h:(qF a).ok/\(qF b).ok
 . obtain ⟨h1,h2⟩:=h
   cases a with
   | none=>exact absurd h1 Fc.vc1
   | some x=>cases b with
    | none=>exact absurd h2 Fc.vc1
    | some y=>
     have hE:=toD (Γ:=Γ) (xmd x y (-1) (by decide) ha hb)
     have e:(if Fc.ordQ x y*(-1)<0 then y else x)=min x y:=by
      rw [Rat.min_def]
      rcases Fc.ygb x y with ⟨h,e⟩ | ⟨h,e⟩ | ⟨h,e⟩<;>rw [e]
      . rw [if_neg (by decide),if_pos (Rat.le_of_lt h)]
      . rw [if_neg (by decide),if_pos (by rw [h];exact Rat.le_refl)]
      . rw [if_pos (by decide),if_neg (fun h'=>Rat.not_le.2 h h')]
     rw [e] at hE;have hE:CallsD Γ prog 173 [.agg (qC (some x)),.agg (qC (some y)),.one (cI (-1))] (qR (some (min x y)) 0):=hE;refine CallsD.run [] Go.Proofs.Tryz.func128 rfl rfl rfl ?_;simp only [Go.Proofs.Tryz.f128];refine hgR ?_
     repeat' ((first | refine hfk ?_ ?_<;>intros | refine hik ?_ | with_reducible first | refine v6l (hE) ?_ | refine vgi (hE) ?_)<;>refine hgS ?_)
     exact RLe.ofEq rfl
 . have hE:=toD (Γ:=Γ) (xwz (qF a) (qF b) (-1) h ha hb)
   have e1:minO a b=none/\erO a b=1:=by
    cases a with
    | none=>exact ⟨rfl,rfl⟩
    | some x=>cases b with
     | none=>exact ⟨rfl,rfl⟩
     | some y=>exact absurd ⟨Fc.zav x,Fc.zav y⟩ h
   rw [e1.1,e1.2];have hE:CallsD Γ prog 173 [.agg (qC a),.agg (qC b),.one (cI (-1))] (qR none 1):=hE;refine CallsD.run [] Go.Proofs.Tryz.func128 rfl rfl rfl ?_;simp only [Go.Proofs.Tryz.f128];refine hgR ?_
   repeat' ((first | refine hfk ?_ ?_<;>intros | refine hik ?_ | with_reducible first | refine v6l (hE) ?_ | refine vgi (hE) ?_)<;>refine hgS ?_)
   exact RLe.ofEq rfl
theorem vmy {e:Int}:RLe (.tup [.agg [cI 0,.zc,cI 0,.zc],.one (cI e)]) (qR none e):=.tup (.cons xxc (.cons (.refl _) .nil))
theorem oDiv (a b:Option Rat) (ha:qz a<=67108864) (hb:qz b<=67108864):CallsD Γ prog 88 [.agg (qC a),.agg (qC b)] (qR (divO a b) (divE a b)):=by
 cases a with
 | none=>
  have r1:CallsD Γ prog 26 [.agg (qC none)] (.one (cB false)):=wi7 none (by omega);refine CallsD.run [] Go.Proofs.Tryz.func88 rfl rfl rfl ?_;simp only [Go.Proofs.Tryz.f88];refine hgR ?_
  repeat' ((first | refine hfk ?_ ?_<;>intros | refine hik ?_ | with_reducible first | refine v6l (r1) ?_ | refine vgi (r1) ?_)<;>refine hgS ?_)
  exact vmy
 | some x=>
  have r1:CallsD Γ prog 26 [.agg (qC (some x))] (.one (cB true)):=wi7 (some x) (by omega)
  cases b with
  | none=>
   have r2:CallsD Γ prog 26 [.agg (qC none)] (.one (cB false)):=wi7 none (by omega);refine CallsD.run [] Go.Proofs.Tryz.func88 rfl rfl rfl ?_;simp only [Go.Proofs.Tryz.f88];refine hgR ?_
   repeat' ((first | refine hfk ?_ ?_<;>intros | refine hik ?_ | with_reducible first | refine v6l (r1) ?_ | refine vgi (r1) ?_ | refine v6l (r2) ?_ | refine vgi (r2) ?_)<;>refine hgS ?_)
   exact vmy
  | some y=>
   have r2:CallsD Γ prog 26 [.agg (qC (some y))] (.one (cB true)):=wi7 (some y) (by omega);by_cases hy:y=0
   . subst hy;have hs:(qF (some (0:Rat))).s=0:=rfl;have r2:CallsD Γ prog 26 [.agg [.raw (.int .i64 0),.ints .i64 (qF (some (0:Rat))).L,.raw (.int .i64 (qF (some (0:Rat))).t),.ints .i64 (qF (some (0:Rat))).M]] (.one (cB true)):=r2;refine CallsD.run [] Go.Proofs.Tryz.func88 rfl rfl rfl ?_;simp only [Go.Proofs.Tryz.f88];refine hgR ?_
     repeat' ((first | refine hfk ?_ ?_<;>intros | refine hik ?_ | with_reducible first | refine v6l (r1) ?_ | refine vgi (r1) ?_ | refine v6l (r2) ?_ | refine vgi (r2) ?_)<;>refine hgS ?_)
     exact vmy
   . have h:=qDiv (Γ:=Γ) x y hy ha hb;rw [show divO (some x) (some y)=some (x / y) by simp only [divO,hy,decide_false,cond_false],show divE (some x) (some y)=0 by simp only [divE,hy,decide_false,cond_false]];exact h
theorem voq {g:Rat->Rat->Rat} {n:Nat} (h:∀ x y,qs (g x y)<=qs x+qs y+n) (a b:Option Rat):qz (op2O g a b)<=qz a+qz b+n:=by
 cases a with
 | none=>exact Nat.zero_le _
 | some x=>cases b with
  | none=>exact Nat.zero_le _
  | some y=>exact h x y
theorem zwk (a b:Option Rat):qz (addO a b)<=qz a+qz b+1:=voq Fc.va3 a b
theorem we9 (a b:Option Rat):qz (subO a b)<=qz a+qz b+1:=voq (fun x y=>by
 have:=Fc.va3 x (-y)
 rw [Fc.wr7,<-Rat.sub_eq_add_neg] at this
 exact this) a b
theorem ylo (a b:Option Rat):qz (mulO a b)<=qz a+qz b:=voq (n:=0) Fc.zxl a b
theorem vbu (a b:Option Rat):qz (maxO a b)<=qz a+qz b:=voq (n:=0) (fun x y=>by
 simp only [Rat.max_def]
 split<;>omega) a b
theorem ygs (a b:Option Rat):qz (minO a b)<=qz a+qz b:=voq (n:=0) (fun x y=>by
 simp only [Rat.min_def]
 split<;>omega) a b
theorem wwn (a b:Option Rat):qz (divO a b)<=qz a+qz b+1:=by
 cases a with
 | none=>exact Nat.zero_le _
 | some x=>cases b with
  | none=>exact Nat.zero_le _
  | some y=>
   show qz (bif decide (y=0) then none else some (x / y))<=_
   cases decide (y=0) with
   | true=>exact Nat.zero_le _
   | false=>exact x3w x y
theorem wtn {n:Int} (h:inI n):qz (some (n:Rat))<=4:=by
 have:=vun (n:=n.natAbs) (by unfold inI at h;omega)
 have h1:=vun (n:=1) (by omega);show max (dig ((n:Rat).num.natAbs)).length (dig (n:Rat).den).length<=4;rw [Rat.num_intCast,Rat.den_intCast];omega
theorem xf4 {p:Nat->Prop} (h:∀ j,j<i->p j) (hi:p i):∀ j,j<i+1->p j:=fun j hj=>by
 rcases Nat.lt_or_eq_of_le (Nat.le_of_lt_succ hj) with h2 | h2
 . exact h j h2
 . rw [h2];exact hi
theorem xs8 (c:Int):CallsD Γ prog 151 [.one (c8 c)] (.one (cB (yio c))):=by
 refine CallsD.run [] Go.Proofs.Tryz.func151 rfl rfl rfl ?_;simp only [Go.Proofs.Tryz.f151];refine hgR ?_
 repeat' ((first | refine hfk ?_ ?_<;>intros | refine hik ?_)<;>refine hgS ?_)
 all_goals refine lf1 @yio.eq_def ?_;first | exact trivial | rfl
theorem zgb (c:Int):CallsD Γ prog 152 [.one (c8 c)] (.one (cB (isDigit c))):=by
 refine CallsD.run [] Go.Proofs.Tryz.func152 rfl rfl rfl ?_;simp only [Go.Proofs.Tryz.f152];refine hgR ?_
 repeat' ((first | refine hfk ?_ ?_<;>intros | refine hik ?_)<;>refine hgS ?_)
 all_goals refine lf1 @isDigit.eq_def ?_;first | exact trivial | rfl
theorem x79 (h:c<32\/126<c):ztv c=false:=by
 unfold ztv
 rcases h with h | h
 . rw [decide_eq_false (show ¬32<=c by omega)];rfl
 . rw [decide_eq_false (show ¬c<=126 by omega),Bool.and_false]
theorem yyt (h:¬c<32) (h':¬126<c):ztv c=true:=by
 unfold ztv;rw [decide_eq_true (show 32<=c by omega),decide_eq_true (show c<=126 by omega)];rfl
theorem zj7 {s:ByteArray} (hi:i<s.size) (hj:∀ j,j<i->ztv (x41 s j)=true) (h:ztv (x41 s i)=false):wku s=false:=by
 unfold wku;rw [xwo (by omega) hj (.inr h),decide_eq_true (show ¬((i:Int)=s.size) by omega),Bool.or_true];rfl
theorem xgj {s:ByteArray} (hj:∀ j,j<s.size->ztv (x41 s j)=true):wku s=decide ((s.size:Int)<=400):=by
 unfold wku;rw [xwo (Nat.le_refl _) hj (.inl rfl),decide_eq_false (show ¬¬((s.size:Int)=s.size) from fun h=>h rfl),Bool.or_false];by_cases h:(s.size:Int)<=400
 . rw [decide_eq_true h,decide_eq_false (show ¬400<(s.size:Int) by omega)];rfl
 . rw [decide_eq_false h,decide_eq_true (show 400<(s.size:Int) by omega)];rfl
theorem yyi (s:ByteArray) (hs:s.size<=1073741824):CallsD Γ prog 205 [.one (cS s)] (.one (cB (wku s))):=by
 refine CallsD.run [] Go.Proofs.Tryz.func205 rfl rfl rfl ?_;simp only [Go.Proofs.Tryz.f205];refine hgR ?_;refine y55 [0] (fun n:Nat=>[(3,.one (.dat (cI n)))]) (fun _=>[]) (fun n=>n<=s.size/\∀ j,j<n->ztv (x41 s j)=true) (fun n=>s.size-n) 0 ⟨Nat.zero_le _,fun j hj=>by omega⟩ ?_ ?_
 . refine hg ?_;exact StH.same svl rfl
 intro n hn;obtain ⟨hn,hj⟩:=hn;refine hg ?_
 repeat' ((first | refine hfk ?_ ?_<;>intros | refine hik ?_)<;>refine hgS ?_)
 . rw [zj7 (by omega) hj (x79 (.inr (by assumption)))];exact RLe.ofEq rfl
 . refine ⟨n+1,⟨by omega,xf4 hj (yyt (by assumption) (by assumption))⟩,by omega,StH.same svl rfl⟩
 . rw [zj7 (by omega) hj (x79 (.inl (by assumption)))];exact RLe.ofEq rfl
 . have e:n=s.size:=by omega
   subst e;rw [xgj hj];exact RLe.ofEq rfl
theorem zbh {s:ByteArray} (hi:i<s.size) (hj:∀ j,j<i->ycl (x41 s j)=true) (h:ycl (x41 s i)=false):isName s=false:=by
 unfold isName;rw [xwo (by omega) hj (.inr h),decide_eq_false (show ¬((i:Int)=s.size) by omega),Bool.and_false]
theorem y68 {s:ByteArray} (h:¬(s.size:Int)<=20):isName s=false:=by
 unfold isName;rw [decide_eq_false h,Bool.and_false,Bool.false_and]
theorem w6j (h:yio c=true):ycl c=true:=by unfold ycl;rw [h];rfl
theorem z2u (s:ByteArray) (hs:s.size<=1073741824):CallsD Γ prog 100 [.one (cS s)] (.one (cB (isName s))):=by
 refine CallsD.run [] Go.Proofs.Tryz.func100 rfl rfl rfl ?_;simp only [Go.Proofs.Tryz.f100];refine hgR ?_
 repeat' ((first | refine hfk ?_ ?_<;>intros | refine hik ?_ | with_reducible first | refine v6l (xs8 _) ?_ | refine vgi (xs8 _) ?_)<;>refine hgS ?_)
 . exact RLe.ofEq (by unfold isName;simp [*])
 . rename_i h1 _ h2 _ h3;refine y55 [0] (fun n:Nat=>[(3,.one (.dat (cI n)))]) (fun _=>[]) (fun n=>n<=s.size/\0<n/\∀ j,j<n->ycl (x41 s j)=true) (fun n=>s.size-n) 1 ⟨by omega,by omega,fun j hj=>?_⟩ ?_ ?_
   . have e:j=0:=by omega
     subst e;exact w6j h3
   . refine hg ?_;exact StH.same svl rfl
   intro n hn;obtain ⟨hn,hn0,hj⟩:=hn;refine hg ?_
   repeat' ((first | refine hfk ?_ ?_<;>intros | refine hik ?_ | with_reducible first | refine v6l (xs8 _) ?_ | refine vgi (xs8 _) ?_ | refine v6l (zgb _) ?_ | refine vgi (zgb _) ?_)<;>refine hgS ?_)
   . rename_i h4 h5 h6 _;rw [zbh (by omega) hj (by unfold ycl;rw [h4,h5,decide_eq_false h6];rfl)];exact RLe.ofEq rfl
   . rename_i h6 _;exact ⟨n+1,⟨by omega,by omega,xf4 hj (by unfold ycl;rw [decide_eq_true (show x41 s n=95 by omega),Bool.or_true])⟩,by omega,StH.same svl rfl⟩
   . rename_i h5;exact ⟨n+1,⟨by omega,by omega,xf4 hj (by unfold ycl;rw [h5,Bool.or_true,Bool.true_or])⟩,by omega,StH.same svl rfl⟩
   . rename_i h4;exact ⟨n+1,⟨by omega,by omega,xf4 hj (w6j h4)⟩,by omega,StH.same svl rfl⟩
   . have e:n=s.size:=by omega
     subst e
     have e:isName s=true:=by
      unfold isName;rw [xwo (Nat.le_refl _) hj (.inl rfl),h3,decide_eq_true (show ¬s.size=0 by omega),decide_eq_true (show (s.size:Int)<=20 by omega),decide_eq_true rfl];rfl
     rw [e];exact RLe.ofEq rfl
 . rw [y68 (by omega)];exact RLe.ofEq rfl
 . rename_i h _
   have e:s.size=0:=by omega
   exact RLe.ofEq (by unfold isName;rw [e];rfl)
def vvx (place:Nat->Option (Nat×Nat)) (cs:List HC) (ps:List (Nat×SV)):Option (List HC):=xl4 place cs ps
def zoi (place:Nat->Option (Nat×Nat)) (cs:List HC) (r:List (Nat×SV)) (a:Option (Nat×Nat)) (b:Option (List HC)):Option (List HC):=match a,b with
 | some (off,size),some us=>if us.length=size/\off+size<=cs.length then xl4 place (cs.take off++us++cs.drop (off+size)) r else none
 | _,_=>none
def v6k (place:Nat->Option (Nat×Nat)) (cs:List HC) (r:List (Nat×SV)) (b:Bool):Option (List HC):=bif b then xl4 place cs r else none
theorem xic {ps:List (Nat×SV)}:xl4 place cs ps=vvx place cs ps:=rfl
theorem z7y:vvx place cs []=some cs:=rfl
theorem yjk {x:SV}:vvx place cs ((i,x)::r)=zoi place cs r (place i) (ymo x):=by
 unfold vvx;rw [xl4];rfl
theorem xhl:Nat.beq a b=decide (a=b):=by rw [Bool.eq_iff_iff,decide_eq_true_iff,Nat.beq_eq]
theorem wpe:Nat.ble a b=decide (a<=b):=by rw [Bool.eq_iff_iff,decide_eq_true_iff,Nat.ble_eq]
theorem vtb (h:a<=b):Nat.ble a b=true:=Nat.ble_eq_true_of_le h
theorem zsy {us:List HC} {off size:Nat}:zoi place cs r (some (off,size)) (some us)=v6k place (cs.take off++(us++cs.drop (off+size))) r (Nat.beq us.length size&&Nat.ble (off+size) cs.length):=by
 rw [<-List.append_assoc];show (if us.length=size/\off+size<=cs.length then xl4 place (cs.take off++us++cs.drop (off+size)) r else none)=_;rw [xhl,wpe];by_cases h1:us.length=size
 . by_cases h2:off+size<=cs.length
   . rw [if_pos ⟨h1,h2⟩,decide_eq_true h1,decide_eq_true h2];rfl
   . rw [if_neg (fun h=>h2 h.2),decide_eq_false h2,Bool.and_false];rfl
 . rw [if_neg (fun h=>h1 h.1),decide_eq_false h1];rfl
theorem vi4:v6k place cs r true=vvx place cs r:=rfl
attribute [go_sem ↓ 30000] xic
attribute [go_sem] z7y yjk zsy vi4 xhl vtb
theorem n12:((12:Nat):Int)=12:=rfl
attribute [go_sem] n12
theorem yug (s:ByteArray):isWord s=(seq ⟨#[110,111,116]⟩ s||seq ⟨#[105,102]⟩ s||seq ⟨#[116,104,101,110]⟩ s||seq ⟨#[101,108,115,101]⟩ s||seq ⟨#[97,110,100]⟩ s||seq ⟨#[111,114]⟩ s||seq ⟨#[108,111,111,107]⟩ s||seq ⟨#[109,105,110]⟩ s||seq ⟨#[109,97,120]⟩ s||seq ⟨#[105,110,116,111]⟩ s||seq ⟨#[116,111]⟩ s||seq ⟨#[97,115]⟩ s):=by
 unfold isWord;simp only [@wda s]
theorem x1b (s:ByteArray):CallsD Γ prog 101 [.one (cS s)] (.one (cB (isWord s))):=by
 rw [yug];refine CallsD.run [] Go.Proofs.Tryz.func101 rfl rfl rfl ?_;simp only [Go.Proofs.Tryz.f101];refine hgR ?_
 repeat' ((first | refine hfk ?_ ?_<;>intros | refine hik ?_ | with_reducible refine zum ?_ | with_reducible refine v3j ?_)<;>refine hgS ?_)
 all_goals refine lfE ?_;first | exact trivial | rfl
mutual
def Ex.rsz:Ex->Int->Int->Int
 | .mk _ _ _ _ l,n,lv=>bif decide (n<1)||decide (lv<1) then -1 else Ex.rszL l n lv 1
def Ex.rszL:List Ex->Int->Int->Int->Int
 | [],_,_,k=>k
 | y::l,n,lv,k=>bif decide (Ex.rsz y (n-k) (lv-1)<0) then -1 else Ex.rszL l n lv (k+Ex.rsz y (n-k) (lv-1))
end
theorem Ex.vj1 (x:Ex) (n lv:Int):x.rsz n lv=bif decide (n<1)||decide (lv<1) then -1 else Ex.rszL x.args n lv 1:=by cases x;rw [Ex.rsz];rfl
theorem Ex.wzs:∀(l:List Ex),(∀ y∈l,∀ n lv:Int,-1<=y.rsz n lv/\(0<=y.rsz n lv->y.rsz n lv<=n))->∀ n lv k:Int,1<=k->k<=n->-1<=Ex.rszL l n lv k/\(0<=Ex.rszL l n lv k->Ex.rszL l n lv k<=n)
 | [],_,n,lv,k,h1,h2=>by rw [Ex.rszL];omega
 | y::l,h,n,lv,k,h1,h2=>by
  rw [Ex.rszL];have hy:=h y (by simp) (n-k) (lv-1);generalize y.rsz (n-k) (lv-1)=m at hy;by_cases hm:m<0
  . rw [decide_eq_true hm];simp only [cond_true];omega
  . rw [decide_eq_false hm];exact Ex.wzs l (fun z hz=>h z (by simp [hz])) n lv (k+m) (by omega) (by omega)
theorem Ex.z2n:∀(x:Ex) (n lv:Int),-1<=x.rsz n lv/\(0<=x.rsz n lv->x.rsz n lv<=n):=by
 refine Ex.ind (fun x ih n lv=>?_);rw [Ex.vj1];by_cases h1:n<1
 . rw [decide_eq_true h1];simp only [Bool.true_or,cond_true];omega
 . by_cases h2:lv<1
   . rw [decide_eq_true h2];simp only [Bool.or_true,cond_true];omega
   . rw [decide_eq_false h1,decide_eq_false h2];exact Ex.wzs x.args ih n lv 1 (by omega) (by omega)
theorem xcl:∀ x:Ex,x.Sm->∀ n lv:Int,n<=1000->lv<=1000->0<=n->0<=lv->CallsD Γ prog 52 [.agg (exC x),.one (cI n),.one (cI lv)] (.one (cI (x.rsz n lv))):=by
 refine Ex.ind (fun x ih hx n lv hn hlv hn0 hlv0=>?_);have hl:=hx.len;refine CallsD.run [] Go.Proofs.Tryz.func52 rfl rfl rfl ?_;simp only [Go.Proofs.Tryz.f52];refine hgR ?_
 repeat' ((first | refine hfk ?_ ?_<;>intros | refine hik ?_)<;>refine hgS ?_)
 . rename_i h1 _ h2 _;exact RLe.ofEq (by rw [Ex.vj1,decide_eq_true h2,Bool.or_true];rfl)
 . rename_i h1 _ h2 _
   have e0:x.rsz n lv=Ex.rszL x.args n lv 1:=by rw [Ex.vj1,decide_eq_false h1,decide_eq_false h2];rfl
   refine y55 [1,2,3] (fun p:Nat×Int=>[(7,.one (.dat (cI p.2))),(8,.one (.dat (cI p.1)))]) (fun _=>[.box ((exC x).map .dat) (some 24)]) (fun p=>p.1<=x.args.length/\1<=p.2/\p.2<=n/\Ex.rszL (x.args.drop p.1) n lv p.2=Ex.rszL x.args n lv 1) (fun p=>x.args.length-p.1) (0,1) ⟨Nat.zero_le _,by simp only;omega,by simp only;omega,rfl⟩ ?_ ?_
   . refine hg ?_;exact StH.same svl rfl
   rintro ⟨i,k⟩ ⟨hi,hk1,hk2,hc⟩;simp only at hi hk1 hk2 hc;refine hg ?_;refine vnx (fun hlt hd=>?_) (fun hlt _=>?_)
   . have hlt':i<x.args.length:=by omega
     have hy:=w4t hlt';have hcc:=ih _ hy (hx.arg _ hy) (n-k) (lv-1) (by omega) (by omega) (by omega) (by omega);have hb:=Ex.z2n (x.args.getD i default) (n-k) (lv-1);rw [xqz hlt',Ex.rszL] at hc;generalize (x.args.getD i default).rsz (n-k) (lv-1)=m at hcc hb hc;rw [e0,<-hc];clear e0 hc;refine hg1 @hd ?_
     repeat' ((first | refine hfk ?_ ?_<;>intros | refine hik ?_ | with_reducible first | refine v6l (hcc) ?_ | refine vgi (hcc) ?_)<;>refine hgS ?_)
     . exact RLe.ofEq rfl
     . exact ⟨(i+1,k+m),⟨by simp only;omega,by simp only;omega,by simp only;omega,rfl⟩,by simp only;omega,StH.same svl rfl⟩
   . refine hg ?_;rw [e0,<-hc,List.drop_eq_nil_of_le (by omega),Ex.rszL];exact RLe.ofEq rfl
 . rename_i h1 _;exact RLe.ofEq (by rw [Ex.vj1,decide_eq_true h1];rfl)
theorem rFew (x:Ex) (hx:x.Sm) (n lv:Int) (hn:n<=1000) (hlv:lv<=1000) (hn0:0<=n) (hlv0:0<=lv):CallsD Γ prog 22 [.agg (exC x),.one (cI n),.one (cI lv)] (.one (cB (decide (0<=x.rsz n lv)))):=by
 have h:=xcl (Γ:=Γ) x hx n lv hn hlv hn0 hlv0;refine CallsD.run [] Go.Proofs.Tryz.func22 rfl rfl rfl ?_;simp only [Go.Proofs.Tryz.f22];refine hgR ?_
 repeat' ((first | refine hfk ?_ ?_<;>intros | refine hik ?_ | with_reducible first | refine v6l (h) ?_ | refine vgi (h) ?_)<;>refine hgS ?_)
 all_goals exact RLe.ofEq rfl
theorem v7c (s:ByteArray):CallsD Γ prog 66 [.one (cS s)] (.one (cB (isWord s))):=by
 refine CallsD.run [] Go.Proofs.Tryz.func66 rfl rfl rfl ?_;simp only [Go.Proofs.Tryz.f66];refine hgR ?_
 repeat' ((first | refine hfk ?_ ?_<;>intros | refine hik ?_)<;>refine hgS ?_)
 all_goals refine lf1 @isWord.eq_def ?_;first | exact trivial | rfl
theorem xd2 (s:ByteArray) (hs:s.size<=1099511627776):CallsD Γ prog 145 [.one (cS s)] (.one (cB (isNamed s))):=by
 refine CallsD.run [] Go.Proofs.Tryz.func145 rfl rfl rfl ?_;simp only [Go.Proofs.Tryz.f145];refine hgR ?_
 repeat' ((first | refine hfk ?_ ?_<;>intros | refine hik ?_ | with_reducible first | refine v6l (vv6 s hs) ?_ | refine vgi (vv6 s hs) ?_ | refine v6l (v7c s) ?_ | refine vgi (v7c s) ?_)<;>refine hgS ?_)
 all_goals refine lf1 @isNamed.eq_def ?_;first | exact trivial | rfl
theorem w3e (o:Int):CallsD Γ prog 146 [.one (cI o)] (.tup [.one (cS (zgj o)),.one (cB (isOp o))]):=by
 refine CallsD.run [] Go.Proofs.Tryz.func146 rfl rfl rfl ?_;simp only [Go.Proofs.Tryz.f146];refine hgR ?_
 repeat' ((first | refine hfk ?_ ?_<;>intros | refine hik ?_)<;>refine hgS ?_)
 all_goals refine lf2 @isOp.eq_def @zgj.eq_def ?_;first | exact trivial | rfl
theorem zyp (x:Ex) (hx:x.Sm):CallsD Γ prog 95 [.agg (exC x)] (.one (cB (yxn x))):=by
 have hu:=hx.u;have hs:=hx.s;have hl:=hx.len;obtain ⟨q,hq⟩:∃ q,CallsD Γ prog 144 [.one (cS x.unit)] (.tup [.one (cS q),.one (cB (wku x.unit))]):=yph x.unit (by omega);refine CallsD.run [] Go.Proofs.Tryz.func95 rfl rfl rfl ?_;simp only [Go.Proofs.Tryz.f95];refine hgR ?_
 repeat' ((first | refine hfk ?_ ?_<;>intros | refine hik ?_ | with_reducible first | refine v6l (hq) ?_ | refine vgi (hq) ?_ | refine v6l (xd2 x.name (by omega)) ?_ | refine vgi (xd2 x.name (by omega)) ?_ | refine v6l (w3e _) ?_ | refine vgi (w3e _) ?_)<;>refine hgS ?_)
 all_goals refine lf1 @yxn.eq_def ?_;first | exact trivial | rfl
theorem xcj (l:List Ex) (f:FuncId) (p:Ex->Bool) (hl:l.length<=1073741824) (h:∀ y∈l,CallsD Γ prog f [.agg (exC y)] (.one (cB (p y)))) :
 CallsD Γ prog 120 [.one (.sl 5 (l.map Ex.cells)),fN f] (.one (cI (idxF p l))):=by
 refine CallsD.run [] Go.Proofs.Tryz.func120 rfl rfl rfl ?_;simp only [Go.Proofs.Tryz.f120];refine hgR ?_;refine y55 [0,1,7] (fun i:Nat=>[(8,.one (.dat (cI i)))]) (fun _=>[]) (fun i=>i<=l.length/\∀ j,j<i->p (l.getD j default)=false) (fun i=>l.length-i) 0 ⟨Nat.zero_le _,fun j hj=>by omega⟩ ?_ ?_
 . refine hg ?_;exact StH.same svl rfl
 intro i hi;obtain ⟨hi,hj⟩:=hi;refine hg ?_
 repeat' ((first | refine hfk ?_ ?_<;>intros | refine hik ?_ | with_reducible first | refine v6l (h _ (w4t (show i<l.length by omega))) ?_ | refine vgi (h _ (w4t (show i<l.length by omega))) ?_)<;>refine hgS ?_)
 . rename_i hp;rw [(yo6 hi hj).2 (by omega) hp];exact RLe.ofEq rfl
 . rename_i hp;refine ⟨i+1,⟨by omega,fun j hj'=>?_⟩,by omega,StH.same svl rfl⟩
   rcases Nat.lt_or_eq_of_le (Nat.le_of_lt_succ hj') with h2 | h2
   . exact hj j h2
   . rw [h2];exact hp
 . rw [(yo6 hi hj).1 (by omega)];exact RLe.ofEq rfl
theorem ynb (l:List Ex) (f:FuncId) (p:Ex->Bool) (hl:l.length<=1073741824) (h:∀ y∈l,CallsD Γ prog f [.agg (exC y)] (.one (cB (p y)))) :
 CallsD Γ prog 63 [.one (.sl 5 (l.map Ex.cells)),fN f] (.one (cB (l.any p))):=by
 refine CallsD.run [] Go.Proofs.Tryz.func63 rfl rfl rfl ?_;simp only [Go.Proofs.Tryz.f63];refine hgR ?_
 repeat' ((first | refine hfk ?_ ?_<;>intros | refine hik ?_ | with_reducible first | refine v6l (xcj l f p hl h) ?_ | refine vgi (xcj l f p hl h) ?_)<;>refine hgS ?_)
 exact RLe.ofEq (by rw [<-wb5])
theorem zl5:∀ x:Ex,x.Sm->CallsD Γ prog 47 [.agg (exC x)] (.one (cB x.shaped)):=by
 refine Ex.ind (fun x ih hx=>?_);have hl:=hx.len
 have hw:∀ y∈x.args,CallsD Γ prog 94 [.agg (exC y)] (.one (cB (!y.shaped))):=fun y hy=>by
  refine CallsD.run [] Go.Proofs.Tryz.func94 rfl rfl rfl ?_;simp only [Go.Proofs.Tryz.f94];refine hgR ?_
  repeat' ((first | refine hfk ?_ ?_<;>intros | refine hik ?_ | with_reducible first | refine v6l (ih y hy (hx.arg y hy)) ?_ | refine vgi (ih y hy (hx.arg y hy)) ?_)<;>refine hgS ?_)
  exact RLe.ofEq rfl
 refine CallsD.run [] Go.Proofs.Tryz.func47 rfl rfl rfl ?_;simp only [Go.Proofs.Tryz.f47];refine hgR ?_
 repeat' ((first | refine hfk ?_ ?_<;>intros | refine hik ?_ | with_reducible first | refine v6l (zyp x hx) ?_ | refine vgi (zyp x hx) ?_ | refine v6l (ynb x.args _ _ hl hw) ?_ | refine vgi (ynb x.args _ _ hl hw) ?_)<;>refine hgS ?_)
 all_goals refine RLe.ofEq ?_
 . rename_i h;rw [Ex.xg3,h];simp [List.all_eq_not_any_not]
 . rename_i h;rw [Ex.xg3,h];rfl
abbrev nB (n:Int) (T:Option TypeId):SB:=.box [.dat (cI n)] T
theorem xmk:∀ x:Ex,x.Sm->∀(n lv:Int) (T:Option TypeId),0<=n->n<=1000->0<=lv->lv<=1000->
 vfe Γ prog 46 [nB n T] [.agg ((exC x).map .dat),.one (.ptr 0 0),.one (.dat (cI lv))] [nB (x.cnt n lv).2 T] (.one (.dat (cB (x.cnt n lv).1))):=by
 refine Ex.ind (fun x ih hx n lv T h0 h1 h2 h3=>?_);have hl:=hx.len
 have fin:∀(b:Bool) (k:Int),x.cnt n lv=(b,k)->StH Γ [nB n T] [SV.one (.dat (cB b))] [nB k T,.box ((exC x).map .dat) (some 24)] [SV.one (.dat (cB (x.cnt n lv).1))] [nB (x.cnt n lv).2 T]:=fun b k h=>by
  rw [h];exact StH.done 1 rfl (by kernel_rfl) rfl rfl
 refine vfe.run [] Go.Proofs.Tryz.func46 rfl rfl ?_;simp only [Go.Proofs.Tryz.f46];refine hgR ?_
 repeat' ((first | refine hfk ?_ ?_<;>intros | refine hik ?_)<;>refine hgS ?_)
 . exact fin _ _ (by rw [Ex.vrw];simp only [*];rfl)
 . have e0:x.cnt n lv=Ex.cntL x.args (n+1) (lv+1):=by rw [Ex.vrw];simp only [*];rfl
   refine y55 [1,2,23,24] (fun p:Nat×Int=>[(25,.one (.dat (cI p.1)))]) (fun p=>[nB p.2 T,.box ((exC x).map .dat) (some 24)]) (fun p=>p.1<=x.args.length/\0<=p.2/\p.2<=200/\Ex.cntL (x.args.drop p.1) p.2 (lv+1)=Ex.cntL x.args (n+1) (lv+1)) (fun p=>x.args.length-p.1) (0,n+1) ⟨Nat.zero_le _,by simp only;omega,by simp only;omega,rfl⟩ ?_ ?_
   . refine hg ?_;exact StH.same svl rfl
   rintro ⟨i,m⟩ ⟨hi,hm0,hm1,hc⟩;simp only at hi hm0 hm1 hc;refine hg ?_;refine vnx (fun hlt hd=>?_) (fun hlt _=>?_)
   . have hlt':i<x.args.length:=by omega
     have hy:=w4t hlt';rw [xqz hlt'] at hc;refine hg ?_;refine z4m [0] (ih _ hy (hx.arg _ hy) m (lv+1) T (by omega) (by omega) (by omega) (by omega)) rfl (by decide) rfl rfl rfl ?_;have hstep:=hc;rw [Ex.cntL] at hstep;generalize hr:(x.args.getD i default).cnt m (lv+1)=r at hstep ⊢;obtain ⟨b,k⟩:=r;refine hg ?_
     cases b with
     | true=>
      have hk:=Ex.v24 _ _ _ _ hr;refine hg ?_;exact ⟨(i+1,k),⟨by simp only;omega,by simp only;omega,hk.2,hstep⟩,by simp only;omega,StH.back [1,2,23,24,25] 2 2 2 rfl rfl rfl rfl rfl (by kernel_rfl) (StH.same svl rfl)⟩
     | false=>
      refine hg ?_;rw [e0,<-hstep];exact StH.done 1 rfl (by kernel_rfl) rfl rfl
   . refine hg ?_;rw [e0,<-hc,List.drop_eq_nil_of_le (by omega),Ex.cntL];exact StH.done 1 rfl (by kernel_rfl) rfl rfl
 . exact fin _ _ (by rw [Ex.vrw];simp only [*];rfl)
theorem xz2 (x:Ex) (hx:x.Sm):CallsD Γ prog 18 [.agg (exC x)] (.one (cB (xub x))):=by
 refine CallsD.run [] Go.Proofs.Tryz.func18 rfl rfl rfl ?_;simp only [Go.Proofs.Tryz.f18];refine hgR ?_;refine z4m [1] (xmk x hx 0 1 _ (by decide) (by decide) (by decide) (by decide)) rfl (by decide) rfl rfl rfl ?_;refine hg ?_
 repeat' ((first | refine hfk ?_ ?_<;>intros | refine hik ?_ | with_reducible first | refine v6l (zl5 x hx) ?_ | refine vgi (zl5 x hx) ?_)<;>refine hgS ?_)
 all_goals refine lf1 @xub.eq_def ?_;first | exact trivial | rfl
end Go.Hp.T
namespace Go.Hp
open Go Go.RowKit Go.Slot
variable {P:Program} {Γ:List (Nat×List Cell)}
variable {f:FuncId} {ηs ξ:List SB} {res:SV}
theorem x8i {n N i:Nat} (h:i<n):atR (List.range n) N i=i:=v84 (by simp [h])
theorem vfe.pre {args:List SV} (h:vfe Γ P f ηs args ηs res) (hs:∀ r,ηs.map (rnSB r)=ηs) (ha:args.map (yo9 (atR (List.range ηs.length) (ηs++ξ).length))=args) (hr:rnSV (atR (List.range ηs.length) (ηs++ξ).length) res=res):vfe Γ P f (ηs++ξ) args (ηs++ξ) res:=by
 have hfix:∀(r:Nat->Nat) (i:Nat) (x:SB),ηs[i]? = some x->rnSB r x=x:=fun r i x hx=>by
  have:=congrArg (fun l=>l[i]?) (hs r)
  simp only [List.getElem?_map,hx,Option.map_some] at this;exact Option.some.inj this
 have hlt:∀ j∈List.range ηs.length,j<(ηs++ξ).length:=fun j hj=>by
  rw [List.mem_range] at hj;rw [List.length_append];omega
 have hk:=vfe.frame (φ:=List.range ηs.length) (η:=ηs++ξ) List.nodup_range hlt ⟨by simp,fun i x hx=>by
  have hi:i<ηs.length:=(List.getElem?_eq_some_iff.1 hx).1
  exact ⟨i,by simp [hi],by rw [hfix _ i x hx,List.getElem?_append_left hi];exact hx⟩⟩ (by simp) h
 rw [ha,hr] at hk
 have hp:putR (List.range ηs.length) (ηs++ξ) ηs=ηs++ξ:=by
  apply List.ext_getElem?;intro i;by_cases hi:i<ηs.length
  . have h1:=y6r (φ:=List.range ηs.length) (η:=ηs++ξ) (ηs':=ηs) List.nodup_range hlt (List.getElem?_eq_getElem hi);rw [x8i hi,hfix _ i _ (List.getElem?_eq_getElem hi)] at h1;rw [h1,List.getElem?_append_left hi,List.getElem?_eq_getElem hi]
  . by_cases hi2:i<(ηs++ξ).length
    . exact xxa hi2 (by simpa using hi)
    . rw [List.getElem?_eq_none (by rw [yvj];simp at hi2 ⊢;omega),List.getElem?_eq_none (by omega)]
 rw [hp] at hk;exact hk
theorem v44 {η:List SB} {args l:List SV} {K:Bool->List SB->SV->Prop} (h:vfe Γ P f ηs args ηs res) (hs:∀ r,ηs.map (rnSB r)=ηs) (hz:dzL η l=args) (hη:appL (frzE η (dzB η l)) η=ηs++ξ) (ha:args.map (yo9 (atR (List.range ηs.length) (ηs++ξ).length))=args) (hr:rnSV (atR (List.range ηs.length) (ηs++ξ).length) res=res) (hk:K true (ηs++ξ) res):x0t Γ P f η l K:=by
 subst hz;refine xwg (vfe.frz ?_) hk;rw [hη];exact vfe.pre h hs ha hr
end Go.Hp
namespace Go.Hp.T
open Go Go.RowKit Go.Slot Go.Hp
theorem xn0 {r:Nat->Nat} {l:List (ByteArray×Dm)}:rnSB r (.map (envE l))=.map (envE l):=by
 have:∀ l:List (ByteArray×Dm),(envE l).map (fun p=>(p.1,yo9 r p.2))=envE l:=by
  intro l
  induction l with
  | nil=>rfl
  | cons p l ih=>
   show _::(envE l).map _=_;rw [ih];rfl
 show SB.map _=_;rw [this]
theorem w1l (V T:List (ByteArray×Dm)):∀ r,[SB.map (envE V),SB.map (envE T)].map (rnSB r)=[SB.map (envE V),SB.map (envE T)]:=fun r=>by
 simp only [List.map_cons,List.map_nil,xn0]
theorem x6z {x:Ex} (h:yxn x=true) (h3:x.op≠3) (h0:x.args.length≠0):(x.op≠2->x.op≠4->2<=x.args.length)/\(x.op=5->3<=x.args.length):=by
 unfold yxn at h;by_cases a0:x.op=0
 . rw [decide_eq_true a0,cond_true] at h;simp only [Bool.and_eq_true,decide_eq_true_eq] at h;omega
 rw [decide_eq_false a0,cond_false] at h
 cases hb:(decide (¬x.n=0)||decide (¬x.unit.size=0)) with
 | true=>rw [hb,cond_true] at h;cases h
 | false=>
 rw [hb,cond_false] at h;by_cases a1:x.op=1
 . rw [decide_eq_true a1,cond_true] at h;simp only [Bool.and_eq_true,decide_eq_true_eq] at h;omega
 rw [decide_eq_false a1,cond_false] at h;by_cases a2:x.op=2
 . rw [decide_eq_true a2,cond_true] at h;simp only [Bool.and_eq_true,decide_eq_true_eq] at h;omega
 rw [decide_eq_false a2,cond_false] at h;by_cases a3:x.op=3
 . rw [decide_eq_true a3,cond_true] at h;simp only [Bool.and_eq_true,decide_eq_true_eq] at h;omega
 rw [decide_eq_false a3,cond_false] at h;by_cases a4:x.op=4
 . rw [decide_eq_true a4,cond_true] at h;simp only [Bool.and_eq_true,decide_eq_true_eq] at h;omega
 rw [decide_eq_false a4,cond_false] at h;by_cases a5:x.op=5
 . rw [decide_eq_true a5,cond_true] at h;simp only [Bool.and_eq_true,decide_eq_true_eq] at h;omega
 rw [decide_eq_false a5,cond_false] at h
 cases hc:(decide (x.op=10)||decide (x.op=11)) with
 | true=>rw [hc,cond_true] at h;simp only [Bool.and_eq_true,decide_eq_true_eq] at h;omega
 | false=>rw [hc,cond_false] at h;simp only [Bool.and_eq_true,decide_eq_true_eq] at h;omega
end Go.Hp.T
