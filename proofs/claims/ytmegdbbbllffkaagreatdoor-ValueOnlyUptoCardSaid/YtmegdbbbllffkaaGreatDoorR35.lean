/- The proof, part R35: Rg, Ub, Xa, Uc, Ud, Ue, Uf. -/
import Derived.Test.YtmegdbbbllffkaaGreatDoorR34
import Derived.Test.YtmegdbbbllffkaaGreatDoorR33
import Derived.Test.YtmegdbbbllffkaaGreatDoorR32
namespace Go.Slot.T
open Go Go.RowKit Go.Slot
open Go.Proofs.Tryz (prog)
set_option maxRecDepth 10000
set_option maxHeartbeats 4000000
theorem wo8 (x y:Int):ord x y=0↔x=y:=by unfold ord;repeat' split<;>omega
theorem vwq (f:Fc) (hf:f.sz<=268435456):yn2 prog 48 [.agg f.C] (.one (.raw (.bool (decide f.ok)))):=by
 obtain ⟨s,L,t,M⟩:=f;obtain ⟨hL,hM⟩:=szL hf;dsimp only at hL hM;obtain ⟨r,hr⟩:∃ r,r=decide (Fc.mk s L t M).ok:=⟨_,rfl⟩;rw [<-hr]
 have bad:¬xm9 s L t M->r=false:=fun h=>by rw [hr];exact decide_eq_false h
 have hRL:=ykf s L (by omega);have hRM:=ykf t M (by omega);by_cases h1:xhn s L
 . rw [decide_eq_true h1] at hRL;by_cases h2:xhn t M
   . rw [decide_eq_true h2] at hRM;obtain ⟨x,rfl,rfl⟩:=(wa6 _ _).1 h1;obtain ⟨y,rfl,rfl⟩:=(wa6 _ _).1 h2;refine yn2.run [] Go.Proofs.Tryz.func48 rfl rfl ?_;simp only [Go.Proofs.Tryz.f48];refine rgR ?_;refine v1h hRL ?_;refine rg ?_;refine v1h hRM ?_;refine rg ?_;refine z08 (fun h3=>?_) (fun h3=>?_)
     . have e:=bad (fun h=>by have:=h.2.2.1;omega);subst e;refine rg ?_;exact ⟨_,rfl,.one (.refl _)⟩
     . have h3:sg y=1:=by have:=wzq y;omega
       have hgl:okZ (Int.gcd x y:Int):=by
        have:(Int.gcd x y:Int).natAbs<=y.natAbs:=by
         have hy:0<y.natAbs:=by rcases wzq y with ⟨h,e⟩ | ⟨h,e⟩ | ⟨h,e⟩<;>omega
         exact Nat.le_of_dvd hy (Nat.gcd_dvd_right _ _)
        exact Nat.le_trans (wxv this) hM
       have e:r=decide (ord (Int.gcd x y:Int) 1=0):=by
        rw [hr];apply decide_eq_decide.2;rw [wo8];show xm9 _ _ _ _↔_;unfold xm9;rw [yqs,yqs];constructor
        . exact fun h=>by have:=h.2.2.2;omega
        . exact fun h=>⟨h1,h2,h3,by omega⟩
       subst e;have ho:=rOf 1 (by decide);have hc:=wfg (Int.gcd x y:Int) 1 hgl (w4a (by decide));refine rg ?_;refine v1h (yig x y hL hM) ?_;refine rg ?_;refine v1h ho ?_;refine rg ?_;refine v1h hc ?_;refine rg ?_;refine indk (by kernel_rfl) ?_;refine rg ?_;exact ⟨_,rfl,.one (.refl _)⟩
   . have e:=bad (fun h=>h2 h.2.1);subst e;rw [decide_eq_false h2] at hRM;refine yn2.run [] Go.Proofs.Tryz.func48 rfl rfl ?_;simp only [Go.Proofs.Tryz.f48];refine rgR ?_;refine v1h hRL ?_;refine rg ?_;refine v1h hRM ?_;refine rg ?_;exact ⟨_,rfl,.one (.refl _)⟩
 . have e:=bad (fun h=>h1 h.1);subst e;rw [decide_eq_false h1] at hRL;refine yn2.run [] Go.Proofs.Tryz.func48 rfl rfl ?_;simp only [Go.Proofs.Tryz.f48];refine rgR ?_;refine v1h hRL ?_;refine rg ?_;exact ⟨_,rfl,.one (.refl _)⟩
theorem vlk (r:Rat) (h:(Fc.of r).sz<=268435456):yn2 prog 48 [.agg (Fc.of r).C] (.one (.raw (.bool true))):=by
 have:=vwq (Fc.of r) h
 rwa [decide_eq_true (Fc.zav r)] at this
theorem zja (x:Int) (d:Nat) (hx:okZ x) (hd:d≠0) (hl:(dig d).length<=268435456) :
 yn2 prog 155 [.agg [.raw (.int .i64 (sg x)),.ints .i64 (dig x.natAbs)],.agg [.raw (.int .i64 1),.ints .i64 (dig d)]]
  (.tup [.agg [.raw (.int .i64 (sg (x*d))),.ints .i64 (dig (x*d).natAbs)],.one (.raw (.int .i64 0))]):=by
 have:=y11 x (d:Int) hx hl
 rw [wwm hd] at this;exact this
theorem zj9 (c d:Nat) (hc0:c≠0) (hd:d≠0) (hc:(dig c).length<=268435456) (hl:(dig d).length<=268435456) :
 yn2 prog 155 [.agg [.raw (.int .i64 1),.ints .i64 (dig c)],.agg [.raw (.int .i64 1),.ints .i64 (dig d)]]
  (.tup [.agg [.raw (.int .i64 1),.ints .i64 (dig (c*d))],.one (.raw (.int .i64 0))]):=by
 have:=zja (c:Int) d hc hd hl
 rw [wwm hc0,show (c:Int)*d=((c*d:Nat):Int) from (Int.natCast_mul c d).symm,wwm (Nat.mul_ne_zero hc0 hd)] at this;exact this
theorem zd0 (x y:Rat) (ha:(Fc.of x).sz<=67108864) (hb:(Fc.of y).sz<=67108864) :
 yn2 prog 105 [.agg (Fc.of x).C,.agg (Fc.of y).C] (.tup [.agg (Fc.of (x+y)).C,.one (.raw (.int .i64 0))]):=by
 have lx:=szO ha;have ly:=szO hb;have l1:=wm8 x.num y.den;have l2:=wm8 y.num x.den;have l3:=zzg (x.num*y.den) (y.num*x.den);have l4:=ysr x.den y.den;rw [Int.natAbs_natCast] at l1 l2;rw [Rat.add_def'];refine yn2.run [] Go.Proofs.Tryz.func105 rfl rfl ?_;simp only [Go.Proofs.Tryz.f105];refine rgR ?_;refine v1h (vlk x (by omega)) ?_;refine rg ?_;refine v1h (vlk y (by omega)) ?_;refine rg ?_;refine v1h (zja x.num y.den (by unfold okZ;omega) y.den_nz (by omega)) ?_;refine rg ?_;refine v1h (zja y.num x.den (by unfold okZ;omega) x.den_nz (by omega)) ?_;refine rg ?_;refine v1h (zj9 x.den y.den x.den_nz y.den_nz (by omega) (by omega)) ?_;refine rg ?_;refine v1h (zm1 (x.num*y.den) (y.num*x.den) (by unfold okZ;omega) (by unfold okZ;omega)) ?_;refine rg ?_;refine v1h (xct (x.num*y.den+y.num*x.den) (x.den*y.den) (by unfold okZ;omega) (Nat.mul_ne_zero x.den_nz y.den_nz) (by omega)) ?_;refine rg ?_;exact ⟨_,rfl,.tup (.cons (.refl _) (.cons (.refl _) .nil))⟩
theorem yek (x y:Rat) (ha:(Fc.of x).sz<=67108864) (hb:(Fc.of y).sz<=67108864) :
 yn2 prog 107 [.agg (Fc.of x).C,.agg (Fc.of y).C] (.tup [.agg (Fc.of (x*y)).C,.one (.raw (.int .i64 0))]):=by
 have lx:=szO ha;have ly:=szO hb;have l1:=wm8 x.num y.num;have l4:=ysr x.den y.den;rw [Rat.mul_def'];refine yn2.run [] Go.Proofs.Tryz.func107 rfl rfl ?_;simp only [Go.Proofs.Tryz.f107];refine rgR ?_;refine v1h (vlk x (by omega)) ?_;refine rg ?_;refine v1h (vlk y (by omega)) ?_;refine rg ?_;refine v1h (y11 x.num y.num (by unfold okZ;omega) (by unfold okZ;omega)) ?_;refine rg ?_;refine v1h (zj9 x.den y.den x.den_nz y.den_nz (by omega) (by omega)) ?_;refine rg ?_;refine v1h (xct (x.num*y.num) (x.den*y.den) (by unfold okZ;omega) (Nat.mul_ne_zero x.den_nz y.den_nz) (by omega)) ?_;refine rg ?_;exact ⟨_,rfl,.tup (.cons (.refl _) (.cons (.refl _) .nil))⟩
end Go.Slot.T
namespace Go.Hp.T
open Go Go.RowKit Go.Slot Go.Hp Go.Slot.T
open Go.Proofs.Tryz (prog)
set_option maxRecDepth 10000
set_option maxHeartbeats 4000000
variable {Γ:List (Nat×List Cell)}
variable {a:Nat}
theorem x6u (z:Int) (d:Nat) (hz:okZ z) (hd:d≠0) (hl:(dig d).length<=268435456):CallsD Γ prog 92 [.agg (zC z),.agg (zC d)] (.tup [.agg (Fc.of (Rat.divInt z d)).C,.one (cI 0)]):=by
 have:=toD (Γ:=Γ) (xct z d hz hd hl)
 rw [Rat.divInt_ofNat];unfold zC;rw [wwm hd];exact this
theorem v2g (x:Rat) (h:qs x<=268435456):CallsD Γ prog 48 [.agg (fQ x)] (.one (cB true)):=toD (vlk x h)
theorem x3u (x y:Rat) (hx:qs x<=67108864) (hy:qs y<=67108864):CallsD Γ prog 107 [.agg (fQ x),.agg (fQ y)] (.tup [.agg (fQ (x*y)),.one (cI 0)]):=toD (yek x y hx hy)
theorem wof (n:Int) (hn:inI n):CallsD Γ prog 17 [.one (cI n)] (.agg (fQ (n:Rat))):=toD (yfw n hn)
theorem s5Of (p:Int) (q:Nat) (hp:inI p) (hq:inI q) (hq0:q≠0):CallsD Γ prog 45 [.one (cI p),.one (cI q)] (.tup [.agg (fQ (Rat.divInt p q)),.one (cI 0)]):=by
 have okI:∀ n:Int,inI n->okZ n:=fun n hn=>by
  unfold okZ
  have:=vun (n:=n.natAbs) (by unfold inI at hn;omega)
  omega
 have hl:(dig q).length<=268435456:=by have:=okI q hq;unfold okZ at this;simpa using this
 refine CallsD.run [] Go.Proofs.Tryz.func45 rfl rfl rfl ?_;simp only [Go.Proofs.Tryz.f45];refine hgR ?_
 repeat' ((first | refine hfk ?_ ?_<;>intros | refine hik ?_ | with_reducible first | refine v6l (toD (rOf p hp)) ?_ | refine vgi (toD (rOf p hp)) ?_ | refine v6l (toD (rOf q hq)) ?_ | refine vgi (toD (rOf q hq)) ?_ | refine v6l (x6u p q (okI p hp) hq0 hl) ?_ | refine vgi (x6u p q (okI p hp) hq0 hl) ?_)<;>refine hgS ?_)
 exact RLe.ofEq rfl
theorem vwp (x y:Rat) (hy:0<y.num) (hx:qs x<=67108864) (hyl:qs y<=67108864):CallsD Γ prog 108 [.agg (fQ x),.agg (fQ y)] (.tup [.agg (fQ (x / y)),.one (cI 0)]):=by
 have lx:=szO hx;have ly:=szO hyl;have l1:=wm8 x.num y.den;have l4:=wm8 (x.den:Int) y.num
 have hsy:sg y.num≠0:=by have:=wzq y.num;omega
 have hD:okZ (x.den:Int):=by unfold okZ;have:=lx.2;simp only [Int.natAbs_natCast];omega
 have hDy:okZ (y.den:Int):=by unfold okZ;have:=ly.2;simp only [Int.natAbs_natCast];omega
 have t1:=y11 x.num y.den (by unfold okZ;omega) hDy;have t2:=y11 (x.den:Int) y.num hD (by unfold okZ;omega);rw [wwm y.den_nz] at t1;rw [wwm x.den_nz] at t2;simp only [Int.natAbs_natCast] at t1 t2
 obtain ⟨m,hm⟩:∃ m:Nat,(x.den:Int)*y.num=m:=⟨((x.den:Int)*y.num).toNat,by
  have:0<=(x.den:Int)*y.num:=Int.mul_nonneg (by omega) (by omega)
  omega⟩
 have hm0:m≠0:=by
  intro h0
  have:(x.den:Int)*y.num≠0:=Int.mul_ne_zero (by have:=x.den_nz;omega) (by omega)
  omega
 have hn:=x6u (Γ:=Γ) (x.num*y.den) m (by unfold okZ;simp only [Int.natAbs_natCast] at l1;omega) hm0 (by
  simp only [Int.natAbs_natCast] at l4;rw [hm] at l4;simp only [Int.natAbs_natCast] at l4
  omega)
 rw [zgz,hm];rw [hm] at t2;refine CallsD.run [] Go.Proofs.Tryz.func108 rfl rfl rfl ?_;simp only [Go.Proofs.Tryz.f108];refine hgR ?_
 repeat' ((first | refine hfk ?_ ?_<;>intros | refine hik ?_ | with_reducible first | refine v6l (v2g x (by omega)) ?_ | refine vgi (v2g x (by omega)) ?_ | refine v6l (v2g y (by omega)) ?_ | refine vgi (v2g y (by omega)) ?_ | refine v6l (toD t1) ?_ | refine vgi (toD t1) ?_ | refine v6l (toD t2) ?_ | refine vgi (toD t2) ?_ | refine v6l (hn) ?_ | refine vgi (hn) ?_)<;>refine hgS ?_)
 exact RLe.ofEq rfl
theorem y09 (c:Int):CallsD Γ prog 224 [.one (c8 c)] (.one (cB (yio c))):=by
 refine CallsD.run [] Go.Proofs.Tryz.func224 rfl rfl rfl ?_;simp only [Go.Proofs.Tryz.f224];refine hgR ?_
 repeat' ((first | refine hfk ?_ ?_<;>intros | refine hik ?_)<;>refine hgS ?_)
 all_goals refine lf1 @yio.eq_def ?_;first | exact trivial | rfl
theorem xlg (b e:Int) (f:Rat) (hb:b=0\/b=1\/b=2\/b=3\/b=4\/b=5):CallsD Γ prog 225 [.one (cI b),.one (cI e),.agg (fQ f)] (.agg (unC ⟨xkq b e,f⟩)):=by
 rcases hb with rfl | rfl | rfl | rfl | rfl | rfl
 all_goals
  refine CallsD.run [] Go.Proofs.Tryz.func225 rfl rfl rfl ?_;simp only [Go.Proofs.Tryz.f225];refine hgR ?_
  repeat' ((first | refine hfk ?_ ?_<;>intros | refine hik ?_)<;>refine hgS ?_)
  exact RLe.ofEq rfl
theorem v7n (b e n:Int):unOf b e n 1=⟨xkq b e,(n:Rat)⟩:=by
 unfold unOf
 congr 1
 rw [show (1:Int)=((1:Nat):Int) from rfl,Rat.divInt_ofNat,Rat.mkRat_one]
theorem zt9 (b e n:Int) (hb:b=0\/b=1\/b=2\/b=3\/b=4\/b=5):CallsD Γ prog 225 [.one (cI b),.one (cI e),.agg (fQ (n:Rat))] (.agg (unC (unOf b e n 1))):=by
 rw [v7n];exact xlg b e n hb
theorem z8q (p:Int) (q:Nat) (hp:inI p) (hq:inI q) (hq0:q≠0):CallsD Γ prog 226 [.one (cI p),.one (cI q)] (.agg (fQ (Rat.divInt p q))):=by
 refine CallsD.run [] Go.Proofs.Tryz.func226 rfl rfl rfl ?_;simp only [Go.Proofs.Tryz.f226];refine hgR ?_
 repeat' ((first | refine hfk ?_ ?_<;>intros | refine hik ?_ | with_reducible first | refine v6l (s5Of p q hp hq hq0) ?_ | refine vgi (s5Of p q hp hq hq0) ?_)<;>refine hgS ?_)
 exact RLe.ofEq rfl
theorem vka (s:ByteArray):CallsD Γ prog 208 [.one (cS s)] (.tup [.agg (unO (symF s)),.one (cB (symF s).isSome)]):=by
 have i1:=wof (Γ:=Γ) 1 (by decide);have i2:=wof (Γ:=Γ) 1000000 (by decide);have i3:=wof (Γ:=Γ) 3600 (by decide);have i4:=wof (Γ:=Γ) 86400 (by decide);have i5:=wof (Γ:=Γ) 100 (by decide);have i6:CallsD Γ prog 226 [.one (cI 1),.one (cI 1000)] (.agg (fQ (Rat.divInt 1 1000))):=z8q 1 1000 (by decide) (by decide) (by decide);have h1:=zt9 (Γ:=Γ) 0 1 1 (by decide);have h2:=zt9 (Γ:=Γ) 0 1 1000000 (by decide);have h3:=zt9 (Γ:=Γ) 1 1 1 (by decide);have h4:CallsD Γ prog 225 [.one (cI 1),.one (cI 3),.agg (fQ (Rat.divInt 1 1000))] (.agg (unC (unOf 1 3 1 1000))):=xlg 1 3 _ (by decide);have h5:=zt9 (Γ:=Γ) 2 1 1 (by decide);have h6:=zt9 (Γ:=Γ) 2 1 3600 (by decide);have h7:=zt9 (Γ:=Γ) 2 1 86400 (by decide);have h8:=zt9 (Γ:=Γ) 3 1 1 (by decide);have h9:=zt9 (Γ:=Γ) 3 1 3600 (by decide);have h10:=zt9 (Γ:=Γ) 4 1 1 (by decide);have h11:=zt9 (Γ:=Γ) 4 1 100 (by decide);have h12:=zt9 (Γ:=Γ) 5 1 1 (by decide);refine CallsD.run [] Go.Proofs.Tryz.func208 rfl rfl rfl ?_;simp only [Go.Proofs.Tryz.f208];refine hgR ?_
 repeat' ((first | refine hfk ?_ ?_<;>intros | refine hik ?_ | with_reducible first | refine v6l (i1) ?_ | refine vgi (i1) ?_ | refine v6l (i2) ?_ | refine vgi (i2) ?_ | refine v6l (i3) ?_ | refine vgi (i3) ?_ | refine v6l (i4) ?_ | refine vgi (i4) ?_ | refine v6l (i5) ?_ | refine vgi (i5) ?_ | refine v6l (i6) ?_ | refine vgi (i6) ?_ | refine v6l (h1) ?_ | refine vgi (h1) ?_ | refine v6l (h2) ?_ | refine vgi (h2) ?_ | refine v6l (h3) ?_ | refine vgi (h3) ?_ | refine v6l (h4) ?_ | refine vgi (h4) ?_ | refine v6l (h5) ?_ | refine vgi (h5) ?_ | refine v6l (h6) ?_ | refine vgi (h6) ?_ | refine v6l (h7) ?_ | refine vgi (h7) ?_ | refine v6l (h8) ?_ | refine vgi (h8) ?_ | refine v6l (h9) ?_ | refine vgi (h9) ?_ | refine v6l (h10) ?_ | refine vgi (h10) ?_ | refine v6l (h11) ?_ | refine vgi (h11) ?_ | refine v6l (h12) ?_ | refine vgi (h12) ?_)<;>refine hgS ?_)
 all_goals (refine RLe.ofEq ?_;conv=>simp only [Bool.and_true,Bool.true_and,Bool.and_false,Bool.false_and,Bool.or_true,Bool.true_or,Bool.or_false,Bool.false_or,Bool.not_true,Bool.not_false,decide_true,decide_false,not_true_eq_false,not_false_eq_true,wgp,if_true,if_false,Bool.and_self,Bool.or_self,cond_true,cond_false,List.length_map,ne_eq,Int.reduceEq,Int.reduceLT,Int.reduceLE, *,symF,unO,Option.isSome]);first | exact trivial | rfl
def prQ (c:Int):Option Rat:=(preF c).map fun p=>Rat.divInt p.1 p.2
def frO:Option Rat->List Cell
 | some f=>fQ f
 | none=>[cI 0,.zc,cI 0,.zc]
theorem yoc (c:Int):CallsD Γ prog 209 [.one (c8 c)] (.tup [.agg (frO (prQ c)),.one (cB (preF c).isSome)]):=by
 have e:∀ n:Int,Rat.divInt n 1=(n:Rat):=fun n=>by rw [show (1:Int)=((1:Nat):Int) from rfl,Rat.divInt_ofNat,Rat.mkRat_one]
 have i1:=wof (Γ:=Γ) 1000 (by decide);have i2:=wof (Γ:=Γ) 1000000 (by decide);have i3:=wof (Γ:=Γ) 1000000000 (by decide);have i6:CallsD Γ prog 226 [.one (cI 1),.one (cI 1000)] (.agg (fQ (Rat.divInt 1 1000))):=z8q 1 1000 (by decide) (by decide) (by decide);refine CallsD.run [] Go.Proofs.Tryz.func209 rfl rfl rfl ?_;simp only [Go.Proofs.Tryz.f209];refine hgR ?_
 repeat' ((first | refine hfk ?_ ?_<;>intros | refine hik ?_ | with_reducible first | refine v6l (i1) ?_ | refine vgi (i1) ?_ | refine v6l (i2) ?_ | refine vgi (i2) ?_ | refine v6l (i3) ?_ | refine vgi (i3) ?_ | refine v6l (i6) ?_ | refine vgi (i6) ?_)<;>refine hgS ?_)
 all_goals (refine RLe.ofEq ?_;conv=>simp only [Bool.and_true,Bool.true_and,Bool.and_false,Bool.false_and,Bool.or_true,Bool.true_or,Bool.or_false,Bool.false_or,Bool.not_true,Bool.not_false,decide_true,decide_false,not_true_eq_false,not_false_eq_true,wgp,if_true,if_false,Bool.and_self,Bool.or_self,cond_true,cond_false,List.length_map,ne_eq,Int.reduceEq,Int.reduceLT,Int.reduceLE, *,prQ,preF,frO,Option.map_some,Option.map_none,Option.isSome,e]);first | exact trivial | rfl
theorem xy2 (f:Fc) (h:f.sz<=268435456):CallsD Γ prog 48 [.agg f.C] (.one (cB (decide f.ok))):=toD (vwq f h)
theorem pInt (n:Int) (hn:inI n):CallsD Γ prog 17 [.one (cI n)] (.agg (qC (some (n:Rat)))):=toD (yfw n hn)
theorem x5l {p q:Int} (hp:1<=p) (hq:1<=q):0<=Rat.divInt p q:=by
 obtain ⟨n,rfl⟩:∃ n:Nat,q=n:=⟨q.toNat,by omega⟩;rw [Rat.divInt_ofNat];exact (Rat.divInt_ofNat p n)▸Rat.divInt_nonneg (by omega) (by omega)
theorem wqu {s:ByteArray} {u:Un} (h:symF s=some u):0<=u.f:=by
 unfold symF at h
 repeat' first
  | (cases h;exact x5l (by omega) (by omega))
  | (cases hc:seq s _<;>rw [hc] at h<;>simp only [cond_true,cond_false] at h)
 cases h
theorem v5g {s:ByteArray} {u:Un} (h:ykz s=some u):0<=u.f:=by
 unfold ykz at h
 cases h1:(symF s).isSome with
 | true=>
  rw [h1,cond_true] at h;exact wqu h
 | false=>
  rw [h1,cond_false] at h
  cases h2:(!(preF (x41 s 0)).isSome||!(symF (wcu s 1)).isSome||!wem (wcu s 1)) with
  | true=>rw [h2,cond_true] at h;cases h
  | false=>
   rw [h2,cond_false] at h;split at h
   . rename_i p v hp hv
     cases h;obtain ⟨d,e⟩:=zz1 hp;exact Rat.mul_nonneg (wqu hv) (x5l d.1 e.1)
   . cases h
theorem vuo {s:ByteArray} {u:Un} (h:ykz s=some u):0<u.f.num:=by
 have h1:=Rat.num_nonneg.2 (v5g h);have h2:=(xk3 h).2.2
 have h3:u.f.num≠0:=fun e=>h2 (Rat.num_eq_zero.1 e)
 omega
theorem xse:symF ⟨#[]⟩=none:=by kernel_rfl
theorem zdd {s:ByteArray} (h:s.size<2):symF (wcu s 1)=none:=by
 have e:wcu s 1=⟨#[]⟩:=ByteArray.ext (Array.eq_empty_of_size_eq_zero (by have:=yxt s 1;have h2:(wcu s 1).size=(wcu s 1).data.size:=rfl;omega));rw [e];exact xse
theorem yu2 (s:ByteArray) (hs:s.size<=1073741824):CallsD Γ prog 179 [.one (cS s)] (.tup [.agg (unO (ykz s)),.one (cB (ykz s).isSome)]):=by
 refine CallsD.run [] Go.Proofs.Tryz.func179 rfl rfl rfl ?_;simp only [Go.Proofs.Tryz.f179];refine hgR ?_;refine v6l (vka s) ?_
 cases hy:symF s with
 | some u=>
  conv=>simp (maxSteps:=2000000) (disch:=omega) only [go_sem,Nat.reduceAdd,Nat.reduceSub,Nat.reduceMul,Int.reduceToNat,Nat.reduceEqDiff,Nat.reduceBEq,Nat.reduceBneDiff,Nat.reduceLT,Int.reduceEq,Int.reduceLT,Int.reduceLE,Int.reduceNeg,Int.reduceAdd,Int.reduceSub,Int.reduceMul,unO,Option.isSome]
  exact RLe.ofEq (by simp only [ykz,hy];rfl)
 | none=>
  conv=>simp (maxSteps:=2000000) (disch:=omega) only [go_sem,Nat.reduceAdd,Nat.reduceSub,Nat.reduceMul,Int.reduceToNat,Nat.reduceEqDiff,Nat.reduceBEq,Nat.reduceBneDiff,Nat.reduceLT,Int.reduceEq,Int.reduceLT,Int.reduceLE,Int.reduceNeg,Int.reduceAdd,Int.reduceSub,Int.reduceMul,unO,Option.isSome]
  refine vnx (fun hlt _=>?_) (fun hge _=>?_)
  . refine hg ?_;exact RLe.ofEq (by simp only [ykz,hy,zdd (show s.size<2 by omega)];cases (preF (x41 s 0)).isSome<;>rfl)
  refine hg ?_;refine v6l (yoc _) ?_
  cases hp:preF (x41 s 0) with
  | none=>
   conv=>simp (maxSteps:=2000000) (disch:=omega) only [go_sem,Nat.reduceAdd,Nat.reduceSub,Nat.reduceMul,Int.reduceToNat,Nat.reduceEqDiff,Nat.reduceBEq,Nat.reduceBneDiff,Nat.reduceLT,Int.reduceEq,Int.reduceLT,Int.reduceLE,Int.reduceNeg,Int.reduceAdd,Int.reduceSub,Int.reduceMul,prQ,hp,frO,Option.map_none,Option.isSome]
   refine v6l (vka _) ?_
   cases hy2:symF (wcu s 1)<;>
   . conv=>simp (maxSteps:=2000000) (disch:=omega) only [go_sem,Nat.reduceAdd,Nat.reduceSub,Nat.reduceMul,Int.reduceToNat,Nat.reduceEqDiff,Nat.reduceBEq,Nat.reduceBneDiff,Nat.reduceLT,Int.reduceEq,Int.reduceLT,Int.reduceLE,Int.reduceNeg,Int.reduceAdd,Int.reduceSub,Int.reduceMul,unO,Option.isSome]
     exact RLe.ofEq (by simp only [ykz,hy,hp];rfl)
  | some p=>
   conv=>simp (maxSteps:=2000000) (disch:=omega) only [go_sem,Nat.reduceAdd,Nat.reduceSub,Nat.reduceMul,Int.reduceToNat,Nat.reduceEqDiff,Nat.reduceBEq,Nat.reduceBneDiff,Nat.reduceLT,Int.reduceEq,Int.reduceLT,Int.reduceLE,Int.reduceNeg,Int.reduceAdd,Int.reduceSub,Int.reduceMul,prQ,hp,frO,Option.map_some,Option.isSome]
   refine v6l (vka _) ?_
   cases hy2:symF (wcu s 1) with
   | none=>
    conv=>simp (maxSteps:=2000000) (disch:=omega) only [go_sem,Nat.reduceAdd,Nat.reduceSub,Nat.reduceMul,Int.reduceToNat,Nat.reduceEqDiff,Nat.reduceBEq,Nat.reduceBneDiff,Nat.reduceLT,Int.reduceEq,Int.reduceLT,Int.reduceLE,Int.reduceNeg,Int.reduceAdd,Int.reduceSub,Int.reduceMul,unO,Option.isSome]
    exact RLe.ofEq (by simp only [ykz,hy,hp,hy2];rfl)
   | some u=>
    obtain ⟨_,hu1,_⟩:=xhk hy2;obtain ⟨hp1,hp2⟩:=zz1 hp;obtain ⟨hf1,_⟩:=x8s hp1 hp2
    conv=>simp (maxSteps:=2000000) (disch:=omega) only [go_sem,Nat.reduceAdd,Nat.reduceSub,Nat.reduceMul,Int.reduceToNat,Nat.reduceEqDiff,Nat.reduceBEq,Nat.reduceBneDiff,Nat.reduceLT,Int.reduceEq,Int.reduceLT,Int.reduceLE,Int.reduceNeg,Int.reduceAdd,Int.reduceSub,Int.reduceMul,unO,Option.isSome]
    repeat' ((first | refine hfk ?_ ?_<;>intros | refine hik ?_ | with_reducible first | refine v6l (x3u _ _ (Nat.le_trans hu1 (by decide)) (Nat.le_trans hf1 (by decide))) ?_ | refine vgi (x3u _ _ (Nat.le_trans hu1 (by decide)) (Nat.le_trans hf1 (by decide))) ?_)<;>refine hgS ?_)
    all_goals exact RLe.ofEq (by simp only [ykz,hy,hp,hy2];simp [wem, *])
theorem xca (f:Rat) (x:Int) (hx:x.natAbs<=1000) (hf:qs f<=1000) (hf0:0<f.num):CallsD Γ prog 180 [.agg (fQ f),.one (cI x)] (.agg (fQ (ymb (1:Int) f x))):=by
 have h1:=wof (Γ:=Γ) 1 (by decide);have q1:=zn6;by_cases hp:0<x
 . have hneg:decide (x<0)=false:=decide_eq_false (by omega);refine CallsD.run [] Go.Proofs.Tryz.func180 rfl rfl rfl ?_;simp only [Go.Proofs.Tryz.f180];refine hgR ?_;refine v6l h1 ?_;refine hg ?_;refine y55 [1,2,4,5] (fun i:Nat=>[(6,.one (.dat (cI i)))]) (fun i=>[.box ((fQ f).map .dat) (some 33),.box [.dat (cI 0),.dat .zc,.dat (cI 0),.dat .zc] (some 33),.box ((fQ (pw (1:Int) f x i)).map .dat) (some 33)]) (fun i=>i<=x.natAbs) (fun i=>x.natAbs-i) 0 (Nat.zero_le _) ?_ ?_
   . refine hg ?_;exact StH.same svl (by rw [wuy])
   intro i hi;have hq:=zki (1:Int) f x i;have hm:i*(qs f+1)<=1000*1001:=Nat.mul_le_mul (by omega) (by omega);refine hg ?_;refine vnx (fun hlt _=>?_) (fun hlt _=>?_)
   . refine hg ?_
     repeat' ((first | refine hfk ?_ ?_<;>intros | refine hik ?_ | with_reducible first | refine v6l (x3u (pw (1:Int) f x i) f (by omega) (by omega)) ?_ | refine vgi (x3u (pw (1:Int) f x i) f (by omega) (by omega)) ?_)<;>refine hgS ?_)
     exact ⟨i+1,by omega,by omega,StH.same svl (by rw [xg5 hp])⟩
   . have e:i=x.natAbs:=by omega
     refine hg ?_;refine zum ?_;refine hg1 @hneg ?_;exact RLe.ofEq (by rw [xbq,<-e])
 . have hneg:decide ((0:Int)<x)=false:=decide_eq_false hp;refine CallsD.run [] Go.Proofs.Tryz.func180 rfl rfl rfl ?_;simp only [Go.Proofs.Tryz.f180];refine hgR ?_;refine v6l h1 ?_;refine hg ?_;refine zum ?_;refine hg1 @hneg ?_;refine y55 [1,2,4,5] (fun i:Nat=>[(7,.one (.dat (cI (-(i:Int)))))]) (fun i=>[.box ((fQ f).map .dat) (some 33),.box [.dat (cI 0),.dat .zc,.dat (cI 0),.dat .zc] (some 33),.box ((fQ (pw (1:Int) f x i)).map .dat) (some 33)]) (fun i=>i<=x.natAbs) (fun i=>x.natAbs-i) 0 (Nat.zero_le _) ?_ ?_
   . refine hg ?_;exact StH.same svl (by rw [wuy])
   intro i hi;have hq:=zki (1:Int) f x i;have hm:i*(qs f+1)<=1000*1001:=Nat.mul_le_mul (by omega) (by omega);refine hg ?_;refine vnx (fun hlt _=>?_) (fun hlt _=>?_)
   . refine hg ?_
     repeat' ((first | refine hfk ?_ ?_<;>intros | refine hik ?_ | with_reducible first | refine v6l (vwp (pw (1:Int) f x i) f hf0 (by omega) (by omega)) ?_ | refine vgi (vwp (pw (1:Int) f x i) f hf0 (by omega) (by omega)) ?_)<;>refine hgS ?_)
     refine ⟨i+1,by omega,by omega,?_⟩;rw [show (-(i:Int)-1) = -((i+1:Nat):Int) by omega];exact StH.same svl (by rw [zqi hp])
   . have e:i=x.natAbs:=by omega
     refine hg ?_;exact RLe.ofEq (by rw [xbq,<-e])
theorem yt4 (s:ByteArray) (k i:Nat) (h:k+i<s.size):x41 (wcu s k) i=x41 s (k+i):=by
 have h':k+i<s.data.size:=h;unfold x41 wcu;rw [ByteArray.data_extract,Array.getElem?_extract,if_pos (by simp only [Nat.min_def];split<;>simp_all<;>omega)]
theorem v5q (s:ByteArray) (a k:Nat):wcu (wcu s a) k=wcu s (a+k):=by
 unfold wcu;apply ByteArray.ext;simp only [ByteArray.data_extract,ByteArray.size_extract,Array.extract_extract]
 congr 1
 omega
theorem vuz (s:ByteArray) (a n:Nat) (ha:a<=n) (hn:n<=s.size):zt0 (wcu s a) (n-a)=s.extract a n:=by
 unfold wcu zt0;apply ByteArray.ext;simp only [ByteArray.data_extract,Array.extract_extract]
 congr 1
 omega
theorem ycn (c:UInt8) (s:ByteArray):wcu (⟨#[c]⟩++s) 1=s:=by
 unfold wcu;apply ByteArray.ext;rw [ByteArray.data_extract,ByteArray.data_append,ByteArray.size_append];have h1:(⟨#[c]⟩:ByteArray).size=1:=rfl;have h2:(⟨#[c]⟩:ByteArray).data=#[c]:=rfl;rw [h1,h2];apply Array.ext
 . have:s.size=s.data.size:=rfl
   simp only [Array.size_extract,Array.size_append,List.size_toArray,List.length_cons,List.length_nil];omega
 . intro i h3 h4;rw [Array.getElem_extract,Array.getElem_append_right (by simp)]
   try simp
theorem wfa {s:ByteArray} (h:1<=s.size):vhb s ⟨#[49]⟩=decide (x41 s 0=49):=by
 unfold vhb;rw [show ((⟨#[49]⟩:ByteArray).size)=1 from rfl,decide_eq_true (show ((1:Nat):Int)<=s.size by omega),Bool.true_and,z9f];refine decide_eq_decide.2 ⟨fun e=>?_,fun e=>?_⟩
 . have h':0<s.data.size:=h
   have h1:x41 (zt0 s 1) 0=49:=by rw [e];rfl
   unfold x41 zt0 at h1;rw [ByteArray.data_extract,Array.getElem?_extract,if_pos (by simp only [Nat.min_def];split<;>simp_all<;>omega)] at h1;simpa [x41] using h1
 . have h':0<s.data.size:=h;unfold x41 at e;rw [Array.getElem?_eq_getElem h'] at e;simp only [Option.getD_some] at e;have e2:s.data[0]=49:=UInt8.toNat_inj.1 (by have:(s.data[0]).toNat=49:=(by omega);rw [this];rfl);unfold zt0;apply ByteArray.ext;rw [ByteArray.data_extract];apply Array.ext
   . simp;omega
   . intro i h1 h2
     have hi:i=0:=by simp at h2;omega
     subst hi;rw [Array.getElem_extract];simpa using e2
def spI (r:ByteArray):List Cell:=bif zr8 r then itC (vl9 r) else [cS ⟨⟨[]⟩⟩,cI 0]
def spN (s:ByteArray) (a:Nat):Nat:=bif zr8 (wcu s a) then s.size-(x9p (wcu s a)).size else a
theorem ys2 {s:ByteArray} (h:z1a yio (wcu s a)=0):zr8 (wcu s a)=false:=by
 unfold zr8;rw [h];rfl
theorem vvt {s:ByteArray} {n:Nat} (ha:a<n) (hn:n<=s.size) (h:z1a yio (wcu s a)=n-a):zr8 (wcu s a)=true/\y6h (wcu s a)=wcu s n/\(vl9 (wcu s a)).w=s.extract a n/\
 x6x (wcu s a)=(decide (n<s.size)&&decide (50<=x41 s n)&&decide (x41 s n<=57)):=by
 have e1:y6h (wcu s a)=wcu s n:=by
  unfold y6h;rw [h,v5q]
  congr 1
  omega
 refine ⟨?_,e1,?_,?_⟩
 . unfold zr8;rw [h];exact decide_eq_true (by omega)
 . unfold vl9;show zt0 (wcu s a) (z1a yio (wcu s a))=_;rw [h,vuz s a n (by omega) hn]
 . unfold x6x;rw [e1,yxt];by_cases hlt:n<s.size
   . rw [decide_eq_true hlt,decide_eq_true (show ¬s.size-n=0 by omega),yt4 s n 0 (by omega),Nat.add_zero]
   . rw [decide_eq_false hlt,decide_eq_false (show ¬¬s.size-n=0 by omega)];rfl
theorem yc3 {s:ByteArray} {n:Nat} (ha:a<n) (hn:n<=s.size) (h:z1a yio (wcu s a)=n-a) (hd:(decide (n<s.size)&&decide (50<=x41 s n)&&decide (x41 s n<=57))=true) :
 spI (wcu s a)=[cS (s.extract a n),cI (x41 s n-48)]/\spN s a=n+1/\zr8 (wcu s a)=true:=by
 obtain ⟨h1,h2,h3,h4⟩:=vvt ha hn h;rw [hd] at h4
 have hlt:n<s.size:=by
  simp only [Bool.and_eq_true,decide_eq_true_eq] at hd;exact hd.1.1
 refine ⟨?_,?_,h1⟩
 . unfold spI;rw [h1,cond_true]
   have e:(vl9 (wcu s a)).e=x41 s n-48:=by
    unfold vl9;rw [h4];show x41 (y6h (wcu s a)) 0-48=_;rw [h2,yt4 s n 0 (by omega),Nat.add_zero]
   rw [itC,h3,e]
 . unfold spN x9p;rw [h1,h4,cond_true,cond_true,h2,v5q,yxt];omega
theorem y5e {s:ByteArray} {n:Nat} (ha:a<n) (hn:n<=s.size) (h:z1a yio (wcu s a)=n-a) (hd:(decide (n<s.size)&&decide (50<=x41 s n)&&decide (x41 s n<=57))=false) :
 spI (wcu s a)=[cS (s.extract a n),cI 1]/\spN s a=n/\zr8 (wcu s a)=true:=by
 obtain ⟨h1,h2,h3,h4⟩:=vvt ha hn h;rw [hd] at h4;refine ⟨?_,?_,h1⟩
 . unfold spI;rw [h1,cond_true]
   have e:(vl9 (wcu s a)).e=1:=by
    unfold vl9;rw [h4];rfl
   rw [itC,h3,e]
 . unfold spN x9p;rw [h1,h4,cond_true,cond_false,h2,yxt];omega
theorem xs4 (s:ByteArray) (a:Nat) (hs:s.size<=1073741824) (ha:a<=s.size):CallsD Γ prog 207 [.one (cS s),.one (cI a)] (.tup [.agg (spI (wcu s a)),.one (cI (spN s a)),.one (cB (zr8 (wcu s a)))]):=by
 have hsz:=yxt s a;refine CallsD.run [] Go.Proofs.Tryz.func207 rfl rfl rfl ?_;simp only [Go.Proofs.Tryz.f207];refine hgR ?_;refine y55 [0,1,4] (fun n:Nat=>[(7,.one (.dat (cI n)))]) (fun _=>[.box [.dat (cS ⟨⟨[]⟩⟩),.dat (cI 0)] (some 198)]) (fun n=>a<=n/\n<=s.size/\∀ j,a<=j->j<n->yio (x41 s j)=true) (fun n=>s.size-n) a ⟨Nat.le_refl _,ha,fun j h1 h2=>by omega⟩ ?_ ?_
 . refine hg ?_;exact StH.same svl rfl
 intro n hn;obtain ⟨h1,h2,hj⟩:=hn
 have hj':∀ j,j<n-a->yio (x41 (wcu s a) j)=true:=fun j h=>by
  rw [yt4 _ _ _ (by omega)];exact hj _ (by omega) (by omega)
 refine hg ?_;refine vtf (fun hlt hd=>?_) (fun hlt _=>?_)
 . have hmin:min (n:Int) ((s.size:Int)-1)=n:=by omega
   refine hg2 @hd @hmin ?_;refine v6l (y09 _) ?_;refine hg ?_;refine wdg (fun h3=>?_) (fun h3=>?_)
   . refine hg ?_;refine ⟨n+1,⟨by omega,by omega,fun j g1 g2=>?_⟩,by omega,StH.same svl rfl⟩
     rcases Nat.lt_or_eq_of_le (Nat.le_of_lt_succ g2) with g | g
     . exact hj j g1 g
     . rw [g];exact h3
   have hsp:=xwo (p:=yio) (s:=wcu s a) (n:=n-a) (by omega) hj' (.inr (by rw [yt4 _ _ _ (by omega),show a+(n-a)=n by omega];exact h3));refine hg ?_;refine vnx (fun he _=>?_) (fun he _=>?_)
   . have e:n=a:=by omega
     subst e;refine hg ?_;have e2:=ys2 (s:=s) (a:=n) (by rw [hsp];omega);exact RLe.ofEq (by unfold spI spN;rw [e2];rfl)
   have hn1:decide (n<s.size)=true:=decide_eq_true (by omega);refine hg2 @hd @hmin ?_
   repeat' ((first | refine hfk ?_ ?_<;>intros | refine hik ?_)<;>refine hgS ?_)
   . obtain ⟨g1,g2,g3⟩:=yc3 (s:=s) (a:=a) (n:=n) (by omega) h2 hsp (by simp [*]);exact RLe.ofEq (by rw [g1,g2,g3];rfl)
   all_goals
    obtain ⟨g1,g2,g3⟩:=y5e (s:=s) (a:=a) (n:=n) (by omega) h2 hsp (by simp [*]);exact RLe.ofEq (by rw [g1,g2,g3])
 . have hsp:=xwo (p:=yio) (s:=wcu s a) (n:=n-a) (by omega) hj' (.inl (by omega));refine hgS ?_;refine vnx (fun he _=>?_) (fun he _=>?_)
   . have e:n=a:=by omega
     subst e;refine hg ?_;have e2:=ys2 (s:=s) (a:=n) (by rw [hsp];omega);exact RLe.ofEq (by unfold spI spN;rw [e2];rfl)
   refine hgS ?_;obtain ⟨g1,g2,g3⟩:=y5e (s:=s) (a:=a) (n:=n) (by omega) h2 hsp (by rw [decide_eq_false (show ¬n<s.size by omega)];rfl)
   repeat' ((first | refine hfk ?_ ?_<;>intros | refine hik ?_)<;>refine hgS ?_)
   all_goals exact RLe.ofEq (by rw [g1,g2,g3])
theorem wqj {x:ByteArray} (h:x.size=0):x=⟨#[]⟩:=ByteArray.ext (Array.eq_empty_of_size_eq_zero h)
theorem v1b (s:ByteArray):wcu s 0=s:=by
 unfold wcu;apply ByteArray.ext;rw [ByteArray.data_extract];exact Array.extract_size
theorem ypn {s:ByteArray} (ha:a<=s.size):spN s a<=s.size:=by
 unfold spN
 cases zr8 (wcu s a) with
 | true=>simp
 | false=>simpa using ha
theorem wqm {s:ByteArray} (h:zr8 (wcu s a)=true):wcu s (spN s a)=x9p (wcu s a):=by
 unfold spN;rw [h,cond_true];unfold x9p y6h
 cases x6x (wcu s a) with
 | true=>
  simp only [cond_true,v5q];by_cases hl:a+z1a yio (wcu s a)+1<=s.size
  . refine congrArg (wcu s) ?_;rw [yxt];omega
  . have e1:(wcu s (a+z1a yio (wcu s a)+1)).size=0:=by rw [yxt];omega
    rw [e1,Nat.sub_zero]
    have e2:(wcu s s.size).size=0:=by rw [yxt];omega
    exact (wqj e2).trans (wqj e1).symm
 | false=>
  simp only [cond_false,v5q];by_cases hl:a+z1a yio (wcu s a)<=s.size
  . refine congrArg (wcu s) ?_;rw [yxt];omega
  . have e1:(wcu s (a+z1a yio (wcu s a))).size=0:=by rw [yxt];omega
    rw [e1,Nat.sub_zero]
    have e2:(wcu s s.size).size=0:=by rw [yxt];omega
    exact (wqj e2).trans (wqj e1).symm
def wol (s:ByteArray) (p:Nat×List It) (k:Nat):Prop:=p.1<=s.size/\(wcu s p.1).size<k/\p.2.length+(wcu s p.1).size<=100/\ymw k (wcu s p.1) p.2=vhi s
def Hid (p:Prop):Prop:=p
theorem v6c (s:ByteArray) (hs:s.size<=1073741824):CallsD Γ prog 178 [.one (cS s)] (.tup [.one (.sl 2 ((itO (vhi s)).map It.C)),.one (cB (vhi s).isSome)]):=by
 by_cases h0:s.size=0
 . have hi:vhi s=some []:=by unfold vhi;rw [decide_eq_true h0];rfl
   rw [hi];refine CallsD.run [] Go.Proofs.Tryz.func178 rfl rfl rfl ?_;simp only [Go.Proofs.Tryz.f178];refine hgR ?_;refine hg1 @h0 ?_
   repeat' ((first | refine hfk ?_ ?_<;>intros | refine hik ?_)<;>refine hgS ?_)
   exact .tup (.cons (.one (.nilSl 2)) (.cons (.refl _) .nil))
 by_cases h40:40<(s.size:Int)
 . have hi:vhi s=none:=by unfold vhi;rw [decide_eq_false h0,decide_eq_true h40];rfl
   rw [hi];clear hi;have d0:decide (s.size=0)=false:=decide_eq_false h0;have d1:decide (40<(s.size:Int))=true:=decide_eq_true h40;refine CallsD.run [] Go.Proofs.Tryz.func178 rfl rfl rfl ?_;simp only [Go.Proofs.Tryz.f178];refine hgR ?_
   repeat' ((first | refine hfk ?_ ?_<;>intros | refine hik ?_)<;>refine hgS ?_)
   all_goals first
    | exact .tup (.cons (.one (.nilSl 2)) (.cons (.refl _) .nil))
    | (exfalso;simp_all;done)
 have hF:vhi s=ymw (s.size+2) (ztm s) []:=by unfold vhi;rw [decide_eq_false h0,decide_eq_false h40];rfl
 have hP:=wfa (s:=s) (by omega);have c0:=xs4 (Γ:=Γ) s 0 hs (Nat.zero_le _);rw [v1b] at c0
 have hinv:∀ p k,wol s p k->ymw k (wcu s p.1) p.2=vhi s:=fun p k h=>h.2.2.2
 have hst:x41 s 0=49->wol s (1,[]) (s.size+2):=fun h=>by
  have e:ztm s=wcu s 1:=by unfold ztm;rw [hP,decide_eq_true h];rfl
  have h1:=yxt s 1;exact ⟨by simp only;omega,by simp only;omega,by simp only [List.length_nil];omega,by simp only;rw [hF,e]⟩
 have hsplit:¬x41 s 0=49->vhi s=bif zr8 s then ymw (s.size+1) (x9p s) [vl9 s] else none:=fun h=>by
  have e:ztm s=⟨#[42]⟩++s:=by unfold ztm;rw [hP,decide_eq_false h];rfl
  rw [hF,e,ymw]
  have hs1:(⟨#[42]⟩++s:ByteArray).size=1+s.size:=by rw [ByteArray.size_append];rfl
  have hb:x41 (⟨#[42]⟩++s) 0=42:=by
   unfold x41
   have:(⟨#[42]⟩++s:ByteArray).data=#[42]++s.data:=by simp
   rw [this,Array.getElem?_append_left (by simp)];rfl
  rw [decide_eq_false (show ¬(⟨#[42]⟩++s:ByteArray).size=0 by omega),ycn,hb,cond_false]
  cases zr8 s with
  | false=>rfl
  | true=>rfl
 have hnext:¬x41 s 0=49->zr8 s=true->wol s (spN s 0,[vl9 s]) (s.size+1):=fun h hok=>by
  have e:=wqm (s:=s) (a:=0) (by rw [v1b];exact hok);rw [v1b] at e;have h2:=x87 s;have h3:=hsplit h;rw [hok,cond_true] at h3;exact ⟨ypn (Nat.zero_le _),by simp only;rw [e];omega,by simp only [List.length_singleton];rw [e];omega,by simp only;rw [e,h3]⟩
 have hno:¬x41 s 0=49->zr8 s=false->vhi s=none:=fun h hok=>by rw [hsplit h,hok];rfl
 have hbody:∀ a acc k,wol s (a,acc) k->a<s.size->vhi s=(bif !zr8 (wcu s (a+1))||(decide (¬x41 s a=42)&&decide (¬x41 s a=47)) then none else ymw (k-1) (x9p (wcu s (a+1))) (acc++[y5c (x41 s a) (vl9 (wcu s (a+1)))])):=fun a acc k h ha=>by
  obtain ⟨g1,g2,g3,g4⟩:=h;simp only at g1 g2 g3 g4;have hd:=yxt s a;obtain ⟨k,rfl⟩:∃ m,k=m+1:=⟨k-1,by omega⟩;rw [ymw,decide_eq_false (show ¬(wcu s a).size=0 by omega),cond_false,v5q,yt4 s a 0 (by omega),Nat.add_zero] at g4;exact g4.symm
 clear hF hP hsplit;generalize hR:vhi s=R at *
 have bad:∀ b,R=none->b=false->RLe (.tup [.one (.raw (.slice none 0 0)),.one (cB b)]) (.tup [.one (.sl 2 ((itO R).map It.C)),.one (cB R.isSome)]):=fun b h hb=>by
  rw [h,hb];exact .tup (.cons (.one (.nilSl 2)) (.cons (.refl _) .nil))
 have hno':Hid (¬x41 s 0=49->zr8 s=false->R=none):=hno;have hbody':Hid (∀ a acc k,wol s (a,acc) k->a<s.size->R=(bif !zr8 (wcu s (a+1))||(decide (¬x41 s a=42)&&decide (¬x41 s a=47)) then none else ymw (k-1) (x9p (wcu s (a+1))) (acc++[y5c (x41 s a) (vl9 (wcu s (a+1)))]))):=hbody;clear hno hbody hinv;refine CallsD.run [(13,[.join])] Go.Proofs.Tryz.func178 rfl rfl rfl ?_;simp only [Go.Proofs.Tryz.f178];refine hgR ?_
 repeat' ((first | refine hfk ?_ ?_<;>intros | refine hik ?_)<;>refine hgS ?_)
 . exfalso;omega
 refine ztg [0,2,3] (fun p:Nat×List It=>[(4,.one (.sl 0 2 0 p.2.length)),(5,.one (.dat (cI p.1)))]) (fun p=>[.arr (.sl 2 (p.2.map It.C)) 0 (some 198)]) (fun p=>∃ k,wol s p k) ?_ ?_
 . by_cases h1:x41 s 0=49
   . refine hg1 @h1 ?_;refine ⟨(1,[]),⟨_,hst h1⟩,?_⟩;refine StH.trans (StH.empty (d:=4) (es:=2) (c:=.sl 2 []) (T:=some 198) rfl rfl (fun r hr=>by cases hr) rfl) ?_;refine hg ?_;exact StH.same svl rfl
   . cases hok:zr8 s with
     | false=>
      unfold spI spN at c0;rw [v1b,hok] at c0;simp only [cond_false] at c0;refine hg ?_
      repeat' ((first | refine hfk ?_ ?_<;>intros | refine hik ?_ | with_reducible first | refine v6l (c0) ?_ | refine vgi (c0) ?_)<;>refine hgS ?_)
      all_goals first
       | exact bad _ (hno' h1 hok) rfl
       | (exfalso;simp_all;done)
     | true=>
      unfold spI at c0;rw [hok] at c0;simp only [cond_true] at c0;refine hg ?_
      repeat' ((first | refine hfk ?_ ?_<;>intros | refine hik ?_ | with_reducible first | refine v6l (c0) ?_ | refine vgi (c0) ?_)<;>refine hgS ?_)
      all_goals first
       | (exfalso;simp_all;done)
       | skip
      all_goals refine ⟨(spN s 0,[vl9 s]),⟨_,hnext h1 hok⟩,?_⟩
      all_goals refine StH.back [0,2,3,4,5] 0 1 1 rfl rfl rfl rfl rfl (by kernel_rfl) (StH.same svl rfl)
 rintro ⟨a0,acc0⟩ ⟨k0,hk0⟩;refine hg ?_;refine y55 [0,2,3] (fun p:Nat×Nat×List It=>[(4,.one (.sl 0 2 0 p.2.2.length)),(5,.one (.dat (cI p.2.1)))]) (fun p=>[.arr (.sl 2 (p.2.2.map It.C)) 0 (some 198)]) (fun p=>wol s (p.2.1,p.2.2) p.1) (fun p=>s.size-p.2.1) (k0,a0,acc0) hk0 ?_ ?_
 . refine hg ?_;exact StH.same svl rfl
 rintro ⟨k,a,acc⟩ hk;simp only at hk;clear hk0 hst hnext hno' c0;refine hg ?_;refine vnx (fun hlt _=>?_) (fun hlt _=>?_)
 . have hlt':a<s.size:=by omega
   have hB:Hid (R=_):=hbody' a acc k hk hlt'
   have hacc:acc.length<=100:=by have:=hk.2.2.1;simp only at this;omega
   clear hbody';have c1:=xs4 (Γ:=Γ) s (a+1) hs (by omega);have hce:=z0m (wcu s (a+1))
   have e1:((a+1:Nat):Int)=(a:Int)+1:=by omega
   cases hok:zr8 (wcu s (a+1)) with
   | false=>
    unfold spI spN at c1;rw [hok,e1] at c1;simp only [cond_false] at c1
    have hB':Hid (R=none):=by unfold Hid at hB ⊢;rw [hB,hok];rfl
    clear hB hce hk;refine hg ?_
    repeat' ((first | refine hfk ?_ ?_<;>intros | refine hik ?_ | with_reducible first | refine v6l (c1) ?_ | refine vgi (c1) ?_)<;>refine hgS ?_)
    all_goals exact bad _ hB' rfl
   | true=>
    have hsp:=wqm hok;unfold spI at c1;rw [hok,e1] at c1;simp only [cond_true] at c1
    have hdone:∀ x:It,Hid (R=ymw (k-1) (x9p (wcu s (a+1))) (acc++[x]))->Hid (wol s (spN s (a+1),acc++[x]) (k-1)/\s.size-spN s (a+1)<s.size-a):=fun x h=>by
     obtain ⟨g1,g2,g3,g4⟩:=hk;simp only at g1 g2 g3 g4;have h1:=x87 (wcu s (a+1));have h2:=yxt s (a+1);have h3:=yxt s a;have h4:=yxt s (spN s (a+1));have h5:=ypn (s:=s) (a:=a+1) (by omega);rw [hsp] at h4;refine ⟨⟨h5,by simp only;rw [hsp];omega,by simp only [List.length_append,List.length_singleton];rw [hsp];omega,by simp only;rw [hsp,hR];exact Eq.symm h⟩,by omega⟩
    clear hk;generalize spN s (a+1)=b at c1 hsp hdone
    have hmap:∀ x:It,acc.map It.C++[itC x]=(acc++[x]).map It.C:=fun x=>by simp;rfl
    refine hg ?_
    repeat' ((first | refine hfk ?_ ?_<;>intros | refine hik ?_ | with_reducible first | refine v6l (c1) ?_ | refine vgi (c1) ?_)<;>refine hgS ?_)
    . have hb:x41 s a=47:=by assumption
      have h':R=ymw (k-1) (x9p (wcu s (a+1))) (acc++[⟨(vl9 (wcu s (a+1))).w,0-(vl9 (wcu s (a+1))).e⟩]):=by
       have h2:R=_:=hB;rw [h2,hok,hb];rfl
      obtain ⟨i1,i2⟩:=hdone ⟨(vl9 (wcu s (a+1))).w,0-(vl9 (wcu s (a+1))).e⟩ h';refine ⟨(k-1,b,acc++[⟨(vl9 (wcu s (a+1))).w,0-(vl9 (wcu s (a+1))).e⟩]),i1,i2,?_⟩;rw [hmap ⟨(vl9 (wcu s (a+1))).w,0-(vl9 (wcu s (a+1))).e⟩];refine StH.back [0,2,3,4,5] 0 2 1 rfl rfl rfl rfl rfl (by kernel_rfl) ?_;refine hg ?_;exact StH.same svl rfl
    . exfalso;simp_all
    . refine bad _ ?_ rfl;have h2:R=_:=hB;rw [h2,hok,show decide (¬x41 s a=42)=true from decide_eq_true (by assumption),show decide (¬x41 s a=47)=true from decide_eq_true (by assumption)];rfl
    . exfalso;omega
    . have hb:x41 s a=42:=Decidable.not_not.1 (by assumption)
      have h':R=ymw (k-1) (x9p (wcu s (a+1))) (acc++[vl9 (wcu s (a+1))]):=by
       have h2:R=_:=hB;rw [h2,hok,hb];rfl
      obtain ⟨i1,i2⟩:=hdone (vl9 (wcu s (a+1))) h';refine ⟨(k-1,b,acc++[vl9 (wcu s (a+1))]),i1,i2,?_⟩
      try rw [hmap (vl9 (wcu s (a+1)))]
      refine StH.back [0,2,3,4,5] 0 2 1 rfl rfl rfl rfl rfl (by kernel_rfl) ?_;refine hg ?_;exact StH.same svl rfl
 . obtain ⟨g1,g2,g3,g4⟩:=hk;simp only at g1 g2 g4;obtain ⟨k,rfl⟩:∃ m,k=m+1:=⟨k-1,by omega⟩;rw [ymw,decide_eq_true (show (wcu s a).size=0 by rw [yxt];omega),cond_true,hR] at g4;refine hg ?_;rw [<-g4];exact RLe.ofEq rfl
theorem y2c (a f:Rat) (x:Int):∀ i,pw a f x i=a*pw (1:Int) f x i
 | 0=>by rw [wuy,wuy];exact (Rat.mul_one a).symm
 | i+1=>by
  have ih:=y2c a f x i;by_cases h:0<x
  . rw [xg5 h,xg5 h,ih,Rat.mul_assoc]
  . rw [zqi h,zqi h,ih,Rat.div_def,Rat.div_def,Rat.mul_assoc]
theorem zit (a f:Rat) (x:Int):a*ymb (1:Int) f x=ymb a f x:=by
 rw [xbq,xbq,<-y2c]
theorem w4b (s:ByteArray) (hs:s.size<=1073741824):CallsD Γ prog 132 [.one (cS s)] (.tup [.agg (unO (zth s).1),.one (cI (zth s).2)]):=by
 refine CallsD.run [] Go.Proofs.Tryz.func132 rfl rfl rfl ?_;simp only [Go.Proofs.Tryz.f132];refine hgR ?_;refine v6l (v6c s hs) ?_
 cases hi:vhi s with
 | none=>
  conv=>simp (maxSteps:=2000000) (disch:=omega) only [go_sem,Nat.reduceAdd,Nat.reduceSub,Nat.reduceMul,Int.reduceToNat,Nat.reduceEqDiff,Nat.reduceBEq,Nat.reduceBneDiff,Nat.reduceLT,Int.reduceEq,Int.reduceLT,Int.reduceLE,Int.reduceNeg,Int.reduceAdd,Int.reduceSub,Int.reduceMul,Option.isSome,itO]
  exact RLe.ofEq (by simp only [zth,hi];rfl)
 | some l=>
  obtain ⟨hl,hx⟩:=yqi hi
  conv=>simp (maxSteps:=2000000) (disch:=omega) only [go_sem,Nat.reduceAdd,Nat.reduceSub,Nat.reduceMul,Int.reduceToNat,Nat.reduceEqDiff,Nat.reduceBEq,Nat.reduceBneDiff,Nat.reduceLT,Int.reduceEq,Int.reduceLT,Int.reduceLE,Int.reduceNeg,Int.reduceAdd,Int.reduceSub,Int.reduceMul,Option.isSome,itO]
  refine v6l (wof 1 (by decide)) ?_;refine hg ?_;refine y55 [2,4,6] (fun p:Nat×Un=>[(7,.one (.dat (cI p.1)))]) (fun p=>[.box (unZ.map .dat) (some 44),.box ((unC p.2).map .dat) (some 44)])
   (fun p=>p.1<=l.length/\p.2.d.le (27*p.1)/\qs p.2.f<=1+100*p.1/\wf3 (l.drop p.1) p.2=wf3 l ⟨Dm.zero,(1:Int)⟩) (fun p=>l.length-p.1) (0,⟨Dm.zero,(1:Int)⟩) ⟨Nat.zero_le _,by unfold Dm.le;decide,zn6,rfl⟩ ?_ ?_
  . refine hg ?_;exact StH.same svl rfl
  rintro ⟨i,u⟩ ⟨h1,h2,h3,h4⟩;simp only at h1 h2 h3 h4;refine hg ?_;refine vnx (fun hlt _=>?_) (fun hlt _=>?_)
  . have hlt':i<l.length:=by omega
    have hok:=hx _ (w4t hlt');rw [xqz hlt',wf3] at h4;refine hg ?_;refine v6l (yu2 _ (by have:=hok.2.1;omega)) ?_
    cases hw:ykz (l.getD i default).w with
    | none=>
     conv=>simp (maxSteps:=2000000) (disch:=omega) only [go_sem,Nat.reduceAdd,Nat.reduceSub,Nat.reduceMul,Int.reduceToNat,Nat.reduceEqDiff,Nat.reduceBEq,Nat.reduceBneDiff,Nat.reduceLT,Int.reduceEq,Int.reduceLT,Int.reduceLE,Int.reduceNeg,Int.reduceAdd,Int.reduceSub,Int.reduceMul,Option.isSome,unO]
     rw [hw] at h4;exact RLe.ofEq (by simp only [zth,hi,<-h4])
    | some v=>
     obtain ⟨hv1,hv2,hv3⟩:=xk3 hw;have hv4:=vuo hw;rw [hw] at h4;obtain ⟨b1,b2,b3,b4,b5,b6⟩:=h2;obtain ⟨d1,d2,d3,d4,d5,d6⟩:=hv1;have he:=hok.2.2;have c1:=yos d1 he;have c2:=yos d2 he;have c3:=yos d3 he;have c4:=yos d4 he;have c5:=yos d5 he;have c6:=yos d6 he
     have hq:qs (ymb u.f v.f (l.getD i default).e)<=qs u.f+9*(qs v.f+1):=by
      have:=zki u.f v.f (l.getD i default).e (l.getD i default).e.natAbs
      rw [<-xbq] at this;have h9:(l.getD i default).e.natAbs*(qs v.f+1)<=9*(qs v.f+1):=Nat.mul_le_mul_right _ (by omega);omega
     have hq1:qs (ymb (1:Int) v.f (l.getD i default).e)<=1+9*(qs v.f+1):=by
      have:=zki (1:Int) v.f (l.getD i default).e (l.getD i default).e.natAbs
      rw [<-xbq] at this;have h9:(l.getD i default).e.natAbs*(qs v.f+1)<=9*(qs v.f+1):=Nat.mul_le_mul_right _ (by omega)
      have:=zn6
      omega
     have hle:(u.d.acc v.d (l.getD i default).e).le (27*(i+1:Nat)):=by
      have:=Dm.v1r (x:=u.d) ⟨b1,b2,b3,b4,b5,b6⟩ ⟨d1,d2,d3,d4,d5,d6⟩ he
      rw [show (27*((i+1:Nat):Int))=27*i+27 from by omega];exact this
     have hm:=x3u (Γ:=Γ) u.f (ymb (1:Int) v.f (l.getD i default).e) (by omega) (by omega);rw [zit] at hm
     conv=>simp (maxSteps:=2000000) (disch:=omega) only [go_sem,Nat.reduceAdd,Nat.reduceSub,Nat.reduceMul,Int.reduceToNat,Nat.reduceEqDiff,Nat.reduceBEq,Nat.reduceBneDiff,Nat.reduceLT,Int.reduceEq,Int.reduceLT,Int.reduceLE,Int.reduceNeg,Int.reduceAdd,Int.reduceSub,Int.reduceMul,Option.isSome,unO]
     repeat' ((first | refine hfk ?_ ?_<;>intros | refine hik ?_ | with_reducible refine zum ?_ | with_reducible refine v3j ?_ | with_reducible first | refine v6l (xca v.f (l.getD i default).e (by omega) (by omega) hv4) ?_ | refine vgi (xca v.f (l.getD i default).e (by omega) (by omega) hv4) ?_ | refine v6l (hm) ?_ | refine vgi (hm) ?_)<;>refine hgS ?_)
     refine ⟨(i+1,⟨u.d.acc v.d (l.getD i default).e,ymb u.f v.f (l.getD i default).e⟩),?_,?_,?_⟩
     . dsimp only;exact ⟨by omega,hle,by omega,h4⟩
     . dsimp only;omega
     refine StH.back [2,4,6,7] 2 2 2 rfl rfl rfl rfl rfl (by kernel_rfl) ?_;refine hg ?_;exact StH.same svl rfl
  . have h4':wf3 l ⟨Dm.zero,(1:Int)⟩=some u:=by rw [<-h4,List.drop_eq_nil_of_le (by omega)];rfl
    refine hg ?_
    repeat' ((first | refine hfk ?_ ?_<;>intros | refine hik ?_ | with_reducible first | refine v6l (x5b _) ?_ | refine vgi (x5b _) ?_)<;>refine hgS ?_)
    all_goals
     rename_i hd;exact RLe.ofEq (by simp only [zth,hi,h4',hd];rfl)
end Go.Hp.T
