/- The proof, part E34: Rg, Ub, Xa, Uc. -/
import Derived.Test.YtmegdbbbllffkaaGreatDoorE33
import Derived.Test.YtmegdbbbllffkaaGreatDoorE32
import Derived.Test.YtmegdbbbllffkaaGreatDoorE31
namespace Go.Slot.T
open Go Go.RowKit Go.Slot
open Go.Proofs.Tryz (prog)
set_option maxRecDepth 10000
set_option maxHeartbeats 4000000
theorem wo8 (x y:Int):ord x y=0↔x=y:=by unfold ord;repeat' split<;>omega
theorem vwq (f:Fc) (hf:f.sz<=268435456):yn2 prog 48 [.agg f.C] (.one (.raw (.bool (decide f.ok)))):=by
 obtain ⟨s,L,t,M⟩:=f;obtain ⟨hL,hM⟩:=szL hf;dsimp only at hL hM;obtain ⟨r,hr⟩:∃ r,r=decide (Fc.mk s L t M).ok:=⟨_,rfl⟩;rw [<-hr]
 have bad:¬xm9 s L t M->r=false:=fun h=>by rw [hr];exact decide_eq_false h
 have hRL:=ykf s L (by omega);have hRM:=ykf t M (by omega);by_cases h1:xhn s L
 . rw [decide_eq_true h1] at hRL;by_cases h2:xhn t M
   . rw [decide_eq_true h2] at hRM;obtain ⟨x,rfl,rfl⟩:=(wa6 _ _).1 h1;obtain ⟨y,rfl,rfl⟩:=(wa6 _ _).1 h2;refine yn2.run [] Go.Proofs.Tryz.func48 rfl rfl ?_;simp only [Go.Proofs.Tryz.f48];refine rgR ?_;refine v1h hRL ?_;refine rg ?_;refine v1h hRM ?_;refine rg ?_;refine z08 (fun h3=>?_) (fun h3=>?_)
     . have e:=bad (fun h=>by have:=h.2.2.1;omega);subst e;refine rg ?_;exact ⟨_,rfl,.one (.refl _)⟩
     . have h3:sg y=1:=by have:=wzq y;omega
       have hgl:okZ (Int.gcd x y:Int):=by
        have:(Int.gcd x y:Int).natAbs<=y.natAbs:=by
         have hy:0<y.natAbs:=by rcases wzq y with ⟨h,e⟩ | ⟨h,e⟩ | ⟨h,e⟩<;>omega
         exact Nat.le_of_dvd hy (Nat.gcd_dvd_right _ _)
        exact Nat.le_trans (wxv this) hM
       have e:r=decide (ord (Int.gcd x y:Int) 1=0):=by
        rw [hr];apply decide_eq_decide.2;rw [wo8];show xm9 _ _ _ _↔_;unfold xm9;rw [yqs,yqs];constructor
        . exact fun h=>by have:=h.2.2.2;omega
        . exact fun h=>⟨h1,h2,h3,by omega⟩
       subst e;have ho:=rOf 1 (by decide);have hc:=wfg (Int.gcd x y:Int) 1 hgl (w4a (by decide));refine rg ?_;refine v1h (yig x y hL hM) ?_;refine rg ?_;refine v1h ho ?_;refine rg ?_;refine v1h hc ?_;refine rg ?_;refine indk (by kernel_rfl) ?_;refine rg ?_;exact ⟨_,rfl,.one (.refl _)⟩
   . have e:=bad (fun h=>h2 h.2.1);subst e;rw [decide_eq_false h2] at hRM;refine yn2.run [] Go.Proofs.Tryz.func48 rfl rfl ?_;simp only [Go.Proofs.Tryz.f48];refine rgR ?_;refine v1h hRL ?_;refine rg ?_;refine v1h hRM ?_;refine rg ?_;exact ⟨_,rfl,.one (.refl _)⟩
 . have e:=bad (fun h=>h1 h.1);subst e;rw [decide_eq_false h1] at hRL;refine yn2.run [] Go.Proofs.Tryz.func48 rfl rfl ?_;simp only [Go.Proofs.Tryz.f48];refine rgR ?_;refine v1h hRL ?_;refine rg ?_;exact ⟨_,rfl,.one (.refl _)⟩
theorem vlk (r:Rat) (h:(Fc.of r).sz<=268435456):yn2 prog 48 [.agg (Fc.of r).C] (.one (.raw (.bool true))):=by
 have:=vwq (Fc.of r) h
 rwa [decide_eq_true (Fc.zav r)] at this
theorem zj6 (x:Int) (d:Nat) (hx:okZ x) (hd:d≠0) (hl:(dig d).length<=268435456) :
 yn2 prog 155 [.agg [.raw (.int .i64 (sg x)),.ints .i64 (dig x.natAbs)],.agg [.raw (.int .i64 1),.ints .i64 (dig d)]]
  (.tup [.agg [.raw (.int .i64 (sg (x*d))),.ints .i64 (dig (x*d).natAbs)],.one (.raw (.int .i64 0))]):=by
 have:=y11 x (d:Int) hx hl
 rw [wwm hd] at this;exact this
theorem zj9 (c d:Nat) (hc0:c≠0) (hd:d≠0) (hc:(dig c).length<=268435456) (hl:(dig d).length<=268435456) :
 yn2 prog 155 [.agg [.raw (.int .i64 1),.ints .i64 (dig c)],.agg [.raw (.int .i64 1),.ints .i64 (dig d)]]
  (.tup [.agg [.raw (.int .i64 1),.ints .i64 (dig (c*d))],.one (.raw (.int .i64 0))]):=by
 have:=zj6 (c:Int) d hc hd hl
 rw [wwm hc0,show (c:Int)*d=((c*d:Nat):Int) from (Int.natCast_mul c d).symm,wwm (Nat.mul_ne_zero hc0 hd)] at this;exact this
theorem zd0 (x y:Rat) (ha:(Fc.of x).sz<=67108864) (hb:(Fc.of y).sz<=67108864) :
 yn2 prog 105 [.agg (Fc.of x).C,.agg (Fc.of y).C] (.tup [.agg (Fc.of (x+y)).C,.one (.raw (.int .i64 0))]):=by
 have lx:=szO ha;have ly:=szO hb;have l1:=wm8 x.num y.den;have l2:=wm8 y.num x.den;have l3:=zzg (x.num*y.den) (y.num*x.den);have l4:=ysr x.den y.den;rw [Int.natAbs_natCast] at l1 l2;rw [Rat.add_def'];refine yn2.run [] Go.Proofs.Tryz.func105 rfl rfl ?_;simp only [Go.Proofs.Tryz.f105];refine rgR ?_;refine v1h (vlk x (by omega)) ?_;refine rg ?_;refine v1h (vlk y (by omega)) ?_;refine rg ?_;refine v1h (zj6 x.num y.den (by unfold okZ;omega) y.den_nz (by omega)) ?_;refine rg ?_;refine v1h (zj6 y.num x.den (by unfold okZ;omega) x.den_nz (by omega)) ?_;refine rg ?_;refine v1h (zj9 x.den y.den x.den_nz y.den_nz (by omega) (by omega)) ?_;refine rg ?_;refine v1h (zm1 (x.num*y.den) (y.num*x.den) (by unfold okZ;omega) (by unfold okZ;omega)) ?_;refine rg ?_;refine v1h (xct (x.num*y.den+y.num*x.den) (x.den*y.den) (by unfold okZ;omega) (Nat.mul_ne_zero x.den_nz y.den_nz) (by omega)) ?_;refine rg ?_;exact ⟨_,rfl,.tup (.cons (.refl _) (.cons (.refl _) .nil))⟩
theorem x82 (x y:Rat) (ha:(Fc.of x).sz<=67108864) (hb:(Fc.of y).sz<=67108864) :
 yn2 prog 106 [.agg (Fc.of x).C,.agg (Fc.of y).C] (.tup [.agg (Fc.of (x-y)).C,.one (.raw (.int .i64 0))]):=by
 have lx:=szO ha;have ly:=szO hb;have l1:=wm8 x.num y.den;have l2:=wm8 y.num x.den;have l3:=zzg (x.num*y.den) (-(y.num*x.den));have l4:=ysr x.den y.den;rw [Int.natAbs_natCast] at l1 l2;rw [Int.natAbs_neg,<-Int.sub_eq_add_neg] at l3;rw [Rat.sub_def'];refine yn2.run [] Go.Proofs.Tryz.func106 rfl rfl ?_;simp only [Go.Proofs.Tryz.f106];refine rgR ?_;refine v1h (vlk x (by omega)) ?_;refine rg ?_;refine v1h (vlk y (by omega)) ?_;refine rg ?_;refine v1h (zj6 x.num y.den (by unfold okZ;omega) y.den_nz (by omega)) ?_;refine rg ?_;refine v1h (zj6 y.num x.den (by unfold okZ;omega) x.den_nz (by omega)) ?_;refine rg ?_;refine v1h (zj9 x.den y.den x.den_nz y.den_nz (by omega) (by omega)) ?_;refine rg ?_;refine v1h (wye (x.num*y.den) (y.num*x.den) (by unfold okZ;omega) (by unfold okZ;omega)) ?_;refine rg ?_;refine v1h (xct (x.num*y.den-y.num*x.den) (x.den*y.den) (by unfold okZ;omega) (Nat.mul_ne_zero x.den_nz y.den_nz) (by omega)) ?_;refine rg ?_;exact ⟨_,rfl,.tup (.cons (.refl _) (.cons (.refl _) .nil))⟩
theorem yej (x y:Rat) (ha:(Fc.of x).sz<=67108864) (hb:(Fc.of y).sz<=67108864) :
 yn2 prog 107 [.agg (Fc.of x).C,.agg (Fc.of y).C] (.tup [.agg (Fc.of (x*y)).C,.one (.raw (.int .i64 0))]):=by
 have lx:=szO ha;have ly:=szO hb;have l1:=wm8 x.num y.num;have l4:=ysr x.den y.den;rw [Rat.mul_def'];refine yn2.run [] Go.Proofs.Tryz.func107 rfl rfl ?_;simp only [Go.Proofs.Tryz.f107];refine rgR ?_;refine v1h (vlk x (by omega)) ?_;refine rg ?_;refine v1h (vlk y (by omega)) ?_;refine rg ?_;refine v1h (y11 x.num y.num (by unfold okZ;omega) (by unfold okZ;omega)) ?_;refine rg ?_;refine v1h (zj9 x.den y.den x.den_nz y.den_nz (by omega) (by omega)) ?_;refine rg ?_;refine v1h (xct (x.num*y.num) (x.den*y.den) (by unfold okZ;omega) (Nat.mul_ne_zero x.den_nz y.den_nz) (by omega)) ?_;refine rg ?_;exact ⟨_,rfl,.tup (.cons (.refl _) (.cons (.refl _) .nil))⟩
theorem xbv (x y:Rat) (ha:(Fc.of x).sz<=67108864) (hb:(Fc.of y).sz<=67108864) :
 yn2 prog 104 [.agg (Fc.of x).C,.agg (Fc.of y).C] (.one (.raw (.int .i64 (Fc.ordQ x y)))):=by
 have lx:=szO ha;have ly:=szO hb;have l1:=wm8 x.num y.den;have l2:=wm8 y.num x.den;rw [Int.natAbs_natCast] at l1 l2;rw [<-Fc.vi3];refine yn2.run [] Go.Proofs.Tryz.func104 rfl rfl ?_;simp only [Go.Proofs.Tryz.f104];refine rgR ?_;refine v1h (vlk x (by omega)) ?_;refine rg ?_;refine v1h (vlk y (by omega)) ?_;refine rg ?_;refine v1h (zj6 x.num y.den (by unfold okZ;omega) y.den_nz (by omega)) ?_;refine rg ?_;refine v1h (zj6 y.num x.den (by unfold okZ;omega) x.den_nz (by omega)) ?_;refine rg ?_;refine v1h (wfg (x.num*y.den) (y.num*x.den) (by unfold okZ;omega) (by unfold okZ;omega)) ?_;refine rg ?_;exact ⟨_,rfl,.one (.refl _)⟩
end Go.Slot.T
namespace Go.Hp.T
open Go Go.RowKit Go.Slot Go.Hp Go.Slot.T
open Go.Proofs.Tryz (prog)
set_option maxRecDepth 10000
set_option maxHeartbeats 4000000
variable {Γ:List (Nat×List Cell)}
theorem x6u (z:Int) (d:Nat) (hz:okZ z) (hd:d≠0) (hl:(dig d).length<=268435456):CallsD Γ prog 92 [.agg (zC z),.agg (zC d)] (.tup [.agg (Fc.of (Rat.divInt z d)).C,.one (cI 0)]):=by
 have:=toD (Γ:=Γ) (xct z d hz hd hl)
 rw [Rat.divInt_ofNat];unfold zC;rw [wwm hd];exact this
theorem v2f (x:Rat) (h:qs x<=268435456):CallsD Γ prog 48 [.agg (fQ x)] (.one (cB true)):=toD (vlk x h)
theorem x3u (x y:Rat) (hx:qs x<=67108864) (hy:qs y<=67108864):CallsD Γ prog 107 [.agg (fQ x),.agg (fQ y)] (.tup [.agg (fQ (x*y)),.one (cI 0)]):=toD (yej x y hx hy)
theorem wof (n:Int) (hn:inI n):CallsD Γ prog 17 [.one (cI n)] (.agg (fQ (n:Rat))):=toD (yfw n hn)
theorem s5Of (p:Int) (q:Nat) (hp:inI p) (hq:inI q) (hq0:q≠0):CallsD Γ prog 45 [.one (cI p),.one (cI q)] (.tup [.agg (fQ (Rat.divInt p q)),.one (cI 0)]):=by
 have okI:∀ n:Int,inI n->okZ n:=fun n hn=>by
  unfold okZ
  have:=vun (n:=n.natAbs) (by unfold inI at hn;omega)
  omega
 have hl:(dig q).length<=268435456:=by have:=okI q hq;unfold okZ at this;simpa using this
 refine CallsD.run [] Go.Proofs.Tryz.func45 rfl rfl rfl ?_;simp only [Go.Proofs.Tryz.f45];refine hgR ?_
 repeat' ((first | refine hfk ?_ ?_<;>intros | refine hik ?_ | with_reducible first | refine v6l (toD (rOf p hp)) ?_ | refine vgi (toD (rOf p hp)) ?_ | refine v6l (toD (rOf q hq)) ?_ | refine vgi (toD (rOf q hq)) ?_ | refine v6l (x6u p q (okI p hp) hq0 hl) ?_ | refine vgi (x6u p q (okI p hp) hq0 hl) ?_)<;>refine hgS ?_)
 exact RLe.ofEq rfl
theorem vwp (x y:Rat) (hy:0<y.num) (hx:qs x<=67108864) (hyl:qs y<=67108864):CallsD Γ prog 108 [.agg (fQ x),.agg (fQ y)] (.tup [.agg (fQ (x / y)),.one (cI 0)]):=by
 have lx:=szO hx;have ly:=szO hyl;have l1:=wm8 x.num y.den;have l4:=wm8 (x.den:Int) y.num
 have hsy:sg y.num≠0:=by have:=wzq y.num;omega
 have hD:okZ (x.den:Int):=by unfold okZ;have:=lx.2;simp only [Int.natAbs_natCast];omega
 have hDy:okZ (y.den:Int):=by unfold okZ;have:=ly.2;simp only [Int.natAbs_natCast];omega
 have t1:=y11 x.num y.den (by unfold okZ;omega) hDy;have t2:=y11 (x.den:Int) y.num hD (by unfold okZ;omega);rw [wwm y.den_nz] at t1;rw [wwm x.den_nz] at t2;simp only [Int.natAbs_natCast] at t1 t2
 obtain ⟨m,hm⟩:∃ m:Nat,(x.den:Int)*y.num=m:=⟨((x.den:Int)*y.num).toNat,by
  have:0<=(x.den:Int)*y.num:=Int.mul_nonneg (by omega) (by omega)
  omega⟩
 have hm0:m≠0:=by
  intro h0
  have:(x.den:Int)*y.num≠0:=Int.mul_ne_zero (by have:=x.den_nz;omega) (by omega)
  omega
 have hn:=x6u (Γ:=Γ) (x.num*y.den) m (by unfold okZ;simp only [Int.natAbs_natCast] at l1;omega) hm0 (by
  simp only [Int.natAbs_natCast] at l4;rw [hm] at l4;simp only [Int.natAbs_natCast] at l4
  omega)
 rw [zgz,hm];rw [hm] at t2;refine CallsD.run [] Go.Proofs.Tryz.func108 rfl rfl rfl ?_;simp only [Go.Proofs.Tryz.f108];refine hgR ?_
 repeat' ((first | refine hfk ?_ ?_<;>intros | refine hik ?_ | with_reducible first | refine hcA ?_ | refine hcB ?_ | refine v6l (v2f x (by omega)) ?_ | refine vgi (v2f x (by omega)) ?_ | refine v6l (v2f y (by omega)) ?_ | refine vgi (v2f y (by omega)) ?_ | refine v6l (toD t1) ?_ | refine vgi (toD t1) ?_ | refine v6l (toD t2) ?_ | refine vgi (toD t2) ?_)<;>refine hgS ?_)
 exact RLe.ofEq rfl
theorem y06 (c:Int):CallsD Γ prog 224 [.one (c8 c)] (.one (cB (yio c))):=by
 refine CallsD.run [] Go.Proofs.Tryz.func224 rfl rfl rfl ?_;simp only [Go.Proofs.Tryz.f224];refine hgR ?_
 repeat' ((first | refine hfk ?_ ?_<;>intros | refine hik ?_)<;>refine hgS ?_)
 all_goals refine lf1 @yio.eq_def ?_;first | exact trivial | rfl
theorem xlg (b e:Int) (f:Rat) (hb:b=0\/b=1\/b=2\/b=3\/b=4\/b=5):CallsD Γ prog 225 [.one (cI b),.one (cI e),.agg (fQ f)] (.agg (unC ⟨xkq b e,f⟩)):=by
 rcases hb with rfl | rfl | rfl | rfl | rfl | rfl
 all_goals
  refine CallsD.run [] Go.Proofs.Tryz.func225 rfl rfl rfl ?_;simp only [Go.Proofs.Tryz.f225];refine hgR ?_
  repeat' ((first | refine hfk ?_ ?_<;>intros | refine hik ?_)<;>refine hgS ?_)
  exact RLe.ofEq rfl
theorem v7n (b e n:Int):unOf b e n 1=⟨xkq b e,(n:Rat)⟩:=by
 unfold unOf
 congr 1
 rw [show (1:Int)=((1:Nat):Int) from rfl,Rat.divInt_ofNat,Rat.mkRat_one]
theorem zt8 (b e n:Int) (hb:b=0\/b=1\/b=2\/b=3\/b=4\/b=5):CallsD Γ prog 225 [.one (cI b),.one (cI e),.agg (fQ (n:Rat))] (.agg (unC (unOf b e n 1))):=by
 rw [v7n];exact xlg b e n hb
theorem z8q (p:Int) (q:Nat) (hp:inI p) (hq:inI q) (hq0:q≠0):CallsD Γ prog 226 [.one (cI p),.one (cI q)] (.agg (fQ (Rat.divInt p q))):=by
 refine CallsD.run [] Go.Proofs.Tryz.func226 rfl rfl rfl ?_;simp only [Go.Proofs.Tryz.f226];refine hgR ?_
 repeat' ((first | refine hfk ?_ ?_<;>intros | refine hik ?_ | with_reducible first | refine v6l (s5Of p q hp hq hq0) ?_ | refine vgi (s5Of p q hp hq hq0) ?_)<;>refine hgS ?_)
 exact RLe.ofEq rfl
theorem vka (s:ByteArray):CallsD Γ prog 208 [.one (cS s)] (.tup [.agg (unO (symF s)),.one (cB (symF s).isSome)]):=by
 have i1:=wof (Γ:=Γ) 1 (by decide);have i2:=wof (Γ:=Γ) 1000000 (by decide);have i3:=wof (Γ:=Γ) 3600 (by decide);have i4:=wof (Γ:=Γ) 86400 (by decide);have i5:=wof (Γ:=Γ) 100 (by decide);have i6:CallsD Γ prog 226 [.one (cI 1),.one (cI 1000)] (.agg (fQ (Rat.divInt 1 1000))):=z8q 1 1000 (by decide) (by decide) (by decide);have h1:=zt8 (Γ:=Γ) 0 1 1 (by decide);have h2:=zt8 (Γ:=Γ) 0 1 1000000 (by decide);have h3:=zt8 (Γ:=Γ) 1 1 1 (by decide);have h4:CallsD Γ prog 225 [.one (cI 1),.one (cI 3),.agg (fQ (Rat.divInt 1 1000))] (.agg (unC (unOf 1 3 1 1000))):=xlg 1 3 _ (by decide);have h5:=zt8 (Γ:=Γ) 2 1 1 (by decide);have h6:=zt8 (Γ:=Γ) 2 1 3600 (by decide);have h7:=zt8 (Γ:=Γ) 2 1 86400 (by decide);have h8:=zt8 (Γ:=Γ) 3 1 1 (by decide);have h9:=zt8 (Γ:=Γ) 3 1 3600 (by decide);have h10:=zt8 (Γ:=Γ) 4 1 1 (by decide);have h11:=zt8 (Γ:=Γ) 4 1 100 (by decide);have h12:=zt8 (Γ:=Γ) 5 1 1 (by decide);refine CallsD.run [] Go.Proofs.Tryz.func208 rfl rfl rfl ?_;simp only [Go.Proofs.Tryz.f208];refine hgR ?_
 repeat' ((first | refine hfk ?_ ?_<;>intros | refine hik ?_ | with_reducible first | refine hcA ?_ | refine hcB ?_)<;>refine hgS ?_)
 all_goals (refine RLe.ofEq ?_;conv=>simp only [Bool.and_true,Bool.true_and,Bool.and_false,Bool.false_and,Bool.or_true,Bool.true_or,Bool.or_false,Bool.false_or,Bool.not_true,Bool.not_false,decide_true,decide_false,not_true_eq_false,not_false_eq_true,wgp,if_true,if_false,Bool.and_self,Bool.or_self,cond_true,cond_false,List.length_map,ne_eq,Int.reduceEq,Int.reduceLT,Int.reduceLE, *,symF,unO,Option.isSome]);first | exact trivial | rfl
def prQ (c:Int):Option Rat:=(preF c).map fun p=>Rat.divInt p.1 p.2
def frO:Option Rat->List Cell
 | some f=>fQ f
 | none=>[cI 0,.zc,cI 0,.zc]
theorem yoc (c:Int):CallsD Γ prog 209 [.one (c8 c)] (.tup [.agg (frO (prQ c)),.one (cB (preF c).isSome)]):=by
 have e:∀ n:Int,Rat.divInt n 1=(n:Rat):=fun n=>by rw [show (1:Int)=((1:Nat):Int) from rfl,Rat.divInt_ofNat,Rat.mkRat_one]
 have i1:=wof (Γ:=Γ) 1000 (by decide);have i2:=wof (Γ:=Γ) 1000000 (by decide);have i3:=wof (Γ:=Γ) 1000000000 (by decide);have i6:CallsD Γ prog 226 [.one (cI 1),.one (cI 1000)] (.agg (fQ (Rat.divInt 1 1000))):=z8q 1 1000 (by decide) (by decide) (by decide);refine CallsD.run [] Go.Proofs.Tryz.func209 rfl rfl rfl ?_;simp only [Go.Proofs.Tryz.f209];refine hgR ?_
 repeat' ((first | refine hfk ?_ ?_<;>intros | refine hik ?_ | with_reducible first | refine hcA ?_ | refine hcB ?_)<;>refine hgS ?_)
 all_goals (refine RLe.ofEq ?_;conv=>simp only [Bool.and_true,Bool.true_and,Bool.and_false,Bool.false_and,Bool.or_true,Bool.true_or,Bool.or_false,Bool.false_or,Bool.not_true,Bool.not_false,decide_true,decide_false,not_true_eq_false,not_false_eq_true,wgp,if_true,if_false,Bool.and_self,Bool.or_self,cond_true,cond_false,List.length_map,ne_eq,Int.reduceEq,Int.reduceLT,Int.reduceLE, *,prQ,preF,frO,Option.map_some,Option.map_none,Option.isSome,e]);first | exact trivial | rfl
theorem vcj (v:Option Rat) (h:qz v<=268435456):CallsD Γ prog 48 [.agg (qC v)] (.one (cB v.isSome)):=by
 have h:=toD (Γ:=Γ) (vwq (qF v) h)
 rw [show decide (qF v).ok=v.isSome by cases hv:v.isSome with
  | true=>exact decide_eq_true (yr3.2 hv)
  | false=>exact decide_eq_false (fun h=>by rw [yr3.1 h] at hv;cases hv)] at h
 exact h
theorem xy2 (f:Fc) (h:f.sz<=268435456):CallsD Γ prog 48 [.agg f.C] (.one (cB (decide f.ok))):=toD (vwq f h)
theorem pAdd (a b:Option Rat) (ha:qz a<=67108864) (hb:qz b<=67108864):CallsD Γ prog 105 [.agg (qC a),.agg (qC b)] (qR (addO a b) (erO a b)):=by
 cases a with
 | none=>
  have r1:CallsD Γ prog 48 [.agg (qC none)] (.one (cB false)):=vcj none (by omega);refine CallsD.run [] Go.Proofs.Tryz.func105 rfl rfl rfl ?_;simp only [Go.Proofs.Tryz.f105];refine hgR ?_
  repeat' ((first | refine hfk ?_ ?_<;>intros | refine hik ?_ | with_reducible first | refine hcA ?_ | refine hcB ?_)<;>refine hgS ?_)
  exact vmy
 | some x=>
  cases b with
  | none=>
   have r1:CallsD Γ prog 48 [.agg (qC (some x))] (.one (cB true)):=vcj (some x) (by omega);have r2:CallsD Γ prog 48 [.agg (qC none)] (.one (cB false)):=vcj none (by omega);refine CallsD.run [] Go.Proofs.Tryz.func105 rfl rfl rfl ?_;simp only [Go.Proofs.Tryz.f105];refine hgR ?_
   repeat' ((first | refine hfk ?_ ?_<;>intros | refine hik ?_ | with_reducible first | refine hcA ?_ | refine hcB ?_)<;>refine hgS ?_)
   exact vmy
  | some y=>exact toD (zd0 x y ha hb)
theorem pSub (a b:Option Rat) (ha:qz a<=67108864) (hb:qz b<=67108864):CallsD Γ prog 106 [.agg (qC a),.agg (qC b)] (qR (subO a b) (erO a b)):=by
 cases a with
 | none=>
  have r1:CallsD Γ prog 48 [.agg (qC none)] (.one (cB false)):=vcj none (by omega);refine CallsD.run [] Go.Proofs.Tryz.func106 rfl rfl rfl ?_;simp only [Go.Proofs.Tryz.f106];refine hgR ?_
  repeat' ((first | refine hfk ?_ ?_<;>intros | refine hik ?_ | with_reducible first | refine hcA ?_ | refine hcB ?_)<;>refine hgS ?_)
  exact vmy
 | some x=>
  cases b with
  | none=>
   have r1:CallsD Γ prog 48 [.agg (qC (some x))] (.one (cB true)):=vcj (some x) (by omega);have r2:CallsD Γ prog 48 [.agg (qC none)] (.one (cB false)):=vcj none (by omega);refine CallsD.run [] Go.Proofs.Tryz.func106 rfl rfl rfl ?_;simp only [Go.Proofs.Tryz.f106];refine hgR ?_
   repeat' ((first | refine hfk ?_ ?_<;>intros | refine hik ?_ | with_reducible first | refine hcA ?_ | refine hcB ?_)<;>refine hgS ?_)
   exact vmy
  | some y=>exact toD (x82 x y ha hb)
theorem pMul (a b:Option Rat) (ha:qz a<=67108864) (hb:qz b<=67108864):CallsD Γ prog 107 [.agg (qC a),.agg (qC b)] (qR (mulO a b) (erO a b)):=by
 cases a with
 | none=>
  have r1:CallsD Γ prog 48 [.agg (qC none)] (.one (cB false)):=vcj none (by omega);refine CallsD.run [] Go.Proofs.Tryz.func107 rfl rfl rfl ?_;simp only [Go.Proofs.Tryz.f107];refine hgR ?_
  repeat' ((first | refine hfk ?_ ?_<;>intros | refine hik ?_ | with_reducible first | refine hcA ?_ | refine hcB ?_)<;>refine hgS ?_)
  exact vmy
 | some x=>
  cases b with
  | none=>
   have r1:CallsD Γ prog 48 [.agg (qC (some x))] (.one (cB true)):=vcj (some x) (by omega);have r2:CallsD Γ prog 48 [.agg (qC none)] (.one (cB false)):=vcj none (by omega);refine CallsD.run [] Go.Proofs.Tryz.func107 rfl rfl rfl ?_;simp only [Go.Proofs.Tryz.f107];refine hgR ?_
   repeat' ((first | refine hfk ?_ ?_<;>intros | refine hik ?_ | with_reducible first | refine hcA ?_ | refine hcB ?_)<;>refine hgS ?_)
   exact vmy
  | some y=>exact toD (yej x y ha hb)
theorem pCmp (a b:Option Rat) (ha:qz a<=67108864) (hb:qz b<=67108864):CallsD Γ prog 104 [.agg (qC a),.agg (qC b)] (.one (cI (cmpO a b))):=by
 cases a with
 | none=>
  have r1:CallsD Γ prog 48 [.agg (qC none)] (.one (cB false)):=vcj none (by omega);refine CallsD.run [] Go.Proofs.Tryz.func104 rfl rfl rfl ?_;simp only [Go.Proofs.Tryz.f104];refine hgR ?_
  repeat' ((first | refine hfk ?_ ?_<;>intros | refine hik ?_ | with_reducible first | refine hcA ?_ | refine hcB ?_)<;>refine hgS ?_)
  exact RLe.ofEq rfl
 | some x=>
  cases b with
  | none=>
   have r1:CallsD Γ prog 48 [.agg (qC (some x))] (.one (cB true)):=vcj (some x) (by omega);have r2:CallsD Γ prog 48 [.agg (qC none)] (.one (cB false)):=vcj none (by omega);refine CallsD.run [] Go.Proofs.Tryz.func104 rfl rfl rfl ?_;simp only [Go.Proofs.Tryz.f104];refine hgR ?_
   repeat' ((first | refine hfk ?_ ?_<;>intros | refine hik ?_ | with_reducible first | refine hcA ?_ | refine hcB ?_)<;>refine hgS ?_)
   exact RLe.ofEq rfl
  | some y=>exact toD (xbv x y ha hb)
theorem pInt (n:Int) (hn:inI n):CallsD Γ prog 17 [.one (cI n)] (.agg (qC (some (n:Rat)))):=toD (yfw n hn)
theorem pMin (a b:Option Rat) (ha:qz a<=67108864) (hb:qz b<=67108864):CallsD Γ prog 109 [.agg (qC a),.agg (qC b)] (qR (minO a b) (erO a b)):=by
 have r3:=pCmp (Γ:=Γ) a b ha hb
 cases a with
 | none=>
  have r1:CallsD Γ prog 48 [.agg (qC none)] (.one (cB false)):=vcj none (by omega);refine CallsD.run [] Go.Proofs.Tryz.func109 rfl rfl rfl ?_;simp only [Go.Proofs.Tryz.f109];refine hgR ?_
  repeat' ((first | refine hfk ?_ ?_<;>intros | refine hik ?_ | with_reducible first | refine hcA ?_ | refine hcB ?_)<;>refine hgS ?_)
  exact vmy
 | some x=>
  have r1:CallsD Γ prog 48 [.agg (qC (some x))] (.one (cB true)):=vcj (some x) (by omega)
  cases b with
  | none=>
   have r2:CallsD Γ prog 48 [.agg (qC none)] (.one (cB false)):=vcj none (by omega);refine CallsD.run [] Go.Proofs.Tryz.func109 rfl rfl rfl ?_;simp only [Go.Proofs.Tryz.f109];refine hgR ?_
   repeat' ((first | refine hfk ?_ ?_<;>intros | refine hik ?_ | with_reducible first | refine hcA ?_ | refine hcB ?_)<;>refine hgS ?_)
   exact vmy
  | some y=>
   have r2:CallsD Γ prog 48 [.agg (qC (some y))] (.one (cB true)):=vcj (some y) (by omega)
   have e1:cmpO (some x) (some y)<=0->minO (some x) (some y)=some x:=fun h=>by
    show some (min x y)=some x;rw [Rat.min_def,if_pos]
    rcases Fc.ygb x y with ⟨q,e⟩ | ⟨q,e⟩ | ⟨q,e⟩
    . exact Rat.le_of_lt q
    . rw [q];exact Rat.le_refl
    . rw [show cmpO (some x) (some y)=Fc.ordQ x y from rfl,e] at h;exact absurd h (by decide)
   have e2:¬cmpO (some x) (some y)<=0->minO (some x) (some y)=some y:=fun h=>by
    show some (min x y)=some y;rw [Rat.min_def,if_neg];intro hle
    rcases Fc.ygb x y with ⟨q,e⟩ | ⟨q,e⟩ | ⟨q,e⟩
    . rw [show cmpO (some x) (some y)=Fc.ordQ x y from rfl,e] at h;exact absurd h (by decide)
    . rw [show cmpO (some x) (some y)=Fc.ordQ x y from rfl,e] at h;exact absurd h (by decide)
    . exact absurd q (Rat.not_lt.2 hle)
   generalize minO (some x) (some y)=m at e1 e2 ⊢;generalize cmpO (some x) (some y)=c at r3 e1 e2;refine CallsD.run [] Go.Proofs.Tryz.func109 rfl rfl rfl ?_;simp only [Go.Proofs.Tryz.f109];refine hgR ?_
   repeat' ((first | refine hfk ?_ ?_<;>intros | refine hik ?_ | with_reducible first | refine hcA ?_ | refine hcB ?_)<;>refine hgS ?_)
   all_goals exact RLe.ofEq rfl
theorem pMax (a b:Option Rat) (ha:qz a<=67108864) (hb:qz b<=67108864):CallsD Γ prog 110 [.agg (qC a),.agg (qC b)] (qR (maxO a b) (erO a b)):=by
 have r3:=pCmp (Γ:=Γ) a b ha hb
 cases a with
 | none=>
  have r1:CallsD Γ prog 48 [.agg (qC none)] (.one (cB false)):=vcj none (by omega);refine CallsD.run [] Go.Proofs.Tryz.func110 rfl rfl rfl ?_;simp only [Go.Proofs.Tryz.f110];refine hgR ?_
  repeat' ((first | refine hfk ?_ ?_<;>intros | refine hik ?_ | with_reducible first | refine hcA ?_ | refine hcB ?_)<;>refine hgS ?_)
  exact vmy
 | some x=>
  have r1:CallsD Γ prog 48 [.agg (qC (some x))] (.one (cB true)):=vcj (some x) (by omega)
  cases b with
  | none=>
   have r2:CallsD Γ prog 48 [.agg (qC none)] (.one (cB false)):=vcj none (by omega);refine CallsD.run [] Go.Proofs.Tryz.func110 rfl rfl rfl ?_;simp only [Go.Proofs.Tryz.f110];refine hgR ?_
   repeat' ((first | refine hfk ?_ ?_<;>intros | refine hik ?_ | with_reducible first | refine hcA ?_ | refine hcB ?_)<;>refine hgS ?_)
   exact vmy
  | some y=>
   have r2:CallsD Γ prog 48 [.agg (qC (some y))] (.one (cB true)):=vcj (some y) (by omega)
   have e1:0<=cmpO (some x) (some y)->maxO (some x) (some y)=some x:=fun h=>by
    show some (max x y)=some x;rw [Rat.max_def]
    rcases Fc.ygb x y with ⟨q,e⟩ | ⟨q,e⟩ | ⟨q,e⟩
    . rw [show cmpO (some x) (some y)=Fc.ordQ x y from rfl,e] at h;exact absurd h (by decide)
    . rw [q];split<;>rfl
    . rw [if_neg (Rat.not_le.2 q)]
   have e2:¬0<=cmpO (some x) (some y)->maxO (some x) (some y)=some y:=fun h=>by
    show some (max x y)=some y;rw [Rat.max_def]
    rcases Fc.ygb x y with ⟨q,e⟩ | ⟨q,e⟩ | ⟨q,e⟩
    . rw [if_pos (Rat.le_of_lt q)]
    . rw [show cmpO (some x) (some y)=Fc.ordQ x y from rfl,e] at h;exact absurd (by decide) h
    . rw [show cmpO (some x) (some y)=Fc.ordQ x y from rfl,e] at h;exact absurd (by decide) h
   generalize maxO (some x) (some y)=m at e1 e2 ⊢;generalize cmpO (some x) (some y)=c at r3 e1 e2;refine CallsD.run [] Go.Proofs.Tryz.func110 rfl rfl rfl ?_;simp only [Go.Proofs.Tryz.f110];refine hgR ?_
   repeat' ((first | refine hfk ?_ ?_<;>intros | refine hik ?_ | with_reducible first | refine hcA ?_ | refine hcB ?_)<;>refine hgS ?_)
   all_goals exact RLe.ofEq rfl
theorem yvv (z:Int) (d:Nat) (hz:okZ z) (hd:d≠0) (hl:(dig d).length<=268435456):CallsD Γ prog 92 [.agg (zC z),.agg (zC (-(d:Int)))] (.tup [.agg (Fc.of (mkRat (-z) d)).C,.one (cI 0)]):=by
 obtain ⟨p1,p2,p3⟩:=zr2 (-z) hd;have hden:=w2p (mkRat (-z) d);rw [p2] at hden
 have hden2:(mkRat (-z) d).den=((d:Int) / (Int.gcd (-z) d:Int)).natAbs:=by omega
 have hz':okZ (-z):=by unfold okZ at hz ⊢;rw [Int.natAbs_neg];exact hz
 have hln:okZ (-(d:Int)):=by unfold okZ;rw [Int.natAbs_neg];exact hl
 have hgl:okZ (Int.gcd (-z) d:Int):=by
  have:(Int.gcd (-z) d:Int).natAbs<=d:=by
   have:Int.gcd (-z) d ∣ d:=by have:=Int.gcd_dvd_natAbs_right (-z) d;simpa using this
   exact Nat.le_of_dvd (Nat.pos_of_ne_zero hd) this
  exact Nat.le_trans (wxv this) hl
 have h1:=toD (Γ:=Γ) (zh9 z hz);have h2:=toD (Γ:=Γ) (zh9 (-(d:Int)) hln);have h3:=toD (Γ:=Γ) (vm1 z hz);have h4:=toD (Γ:=Γ) (vm1 (-(d:Int)) hln);have hg:=toD (Γ:=Γ) (yig (-z) d hz' hl);have hd1:=toD (Γ:=Γ) (wbx (-z) (Int.gcd (-z) d:Int) hz' hgl p3);have hd2:=toD (Γ:=Γ) (wbx d (Int.gcd (-z) d:Int) hl hgl p3)
 have es:sg (-(d:Int)) = -1:=by have:=wzq (-(d:Int));omega
 rw [es] at h2 h4;rw [Int.neg_neg] at h4;rw [wwm hd] at hg hd2 h4;rw [hden] at hd2;rw [show ((d:Nat):Int).natAbs=d from rfl] at h4 hg hd2;rw [Int.natAbs_neg,show ((d:Nat):Int).natAbs=d from rfl] at h2 h4
 have hfin:(Fc.of (mkRat (-z) d)).C=[.raw (.int .i64 (sg (-z / (Int.gcd (-z) d:Int)))),.ints .i64 (dig (-z / (Int.gcd (-z) d:Int)).natAbs),.raw (.int .i64 1),.ints .i64 (dig ((d:Int) / (Int.gcd (-z) d:Int)).natAbs)]:=by
  rw [<-p1,<-hden2];rfl
 rw [hfin];unfold zC;rw [es,Int.natAbs_neg,show ((d:Nat):Int).natAbs=d from rfl];generalize (Int.gcd (-z) d:Int)=g at *;refine CallsD.run [] Go.Proofs.Tryz.func92 rfl rfl rfl ?_;simp only [Go.Proofs.Tryz.f92];refine hgR ?_
 repeat' ((first | refine hfk ?_ ?_<;>intros | refine hik ?_ | with_reducible first | refine hcA ?_ | refine hcB ?_ | refine v6l (hg) ?_ | refine vgi (hg) ?_)<;>refine hgS ?_)
 exact RLe.ofEq rfl
theorem xbz (z:Int) {m:Nat} (h:m≠0):Rat.divInt z (-(m:Int))=mkRat (-z) m:=by
 obtain ⟨k,rfl⟩:=Nat.exists_eq_succ_of_ne_zero h;show Rat.divInt z (Int.negSucc k)=_;unfold Rat.divInt;exact Rat.normalize_eq_mkRat _
theorem yfp (x y:Rat) (hy:y.num<0) (hx:qs x<=67108864) (hyl:qs y<=67108864):CallsD Γ prog 108 [.agg (fQ x),.agg (fQ y)] (.tup [.agg (fQ (x / y)),.one (cI 0)]):=by
 have lx:=szO hx;have ly:=szO hyl;have l1:=wm8 x.num y.den;have l4:=wm8 (x.den:Int) y.num
 have hsy:sg y.num≠0:=by have:=wzq y.num;omega
 have hD:okZ (x.den:Int):=by unfold okZ;have:=lx.2;simp only [Int.natAbs_natCast];omega
 have hDy:okZ (y.den:Int):=by unfold okZ;have:=ly.2;simp only [Int.natAbs_natCast];omega
 have t1:=y11 x.num y.den (by unfold okZ;omega) hDy;have t2:=y11 (x.den:Int) y.num hD (by unfold okZ;omega);rw [wwm y.den_nz] at t1;rw [wwm x.den_nz] at t2;simp only [Int.natAbs_natCast] at t1 t2
 obtain ⟨m,hm⟩:∃ m:Nat,(x.den:Int)*y.num = -(m:Int):=⟨((x.den:Int)*y.num).natAbs,by
  have:(x.den:Int)*y.num<=0:=Int.mul_nonpos_of_nonneg_of_nonpos (by omega) (by omega)
  omega⟩
 have hm0:m≠0:=by
  intro h0
  have:(x.den:Int)*y.num≠0:=Int.mul_ne_zero (by have:=x.den_nz;omega) (by omega)
  omega
 have hn:=yvv (Γ:=Γ) (x.num*y.den) m (by unfold okZ;simp only [Int.natAbs_natCast] at l1;omega) hm0 (by
  simp only [Int.natAbs_natCast] at l4;rw [hm] at l4;simp only [Int.natAbs_neg,Int.natAbs_natCast] at l4
  omega)
 rw [zgz,hm,xbz _ hm0];rw [hm] at t2;refine CallsD.run [] Go.Proofs.Tryz.func108 rfl rfl rfl ?_;simp only [Go.Proofs.Tryz.f108];refine hgR ?_
 repeat' ((first | refine hfk ?_ ?_<;>intros | refine hik ?_ | with_reducible first | refine hcA ?_ | refine hcB ?_ | refine v6l (v2f x (by omega)) ?_ | refine vgi (v2f x (by omega)) ?_ | refine v6l (v2f y (by omega)) ?_ | refine vgi (v2f y (by omega)) ?_ | refine v6l (toD t1) ?_ | refine vgi (toD t1) ?_ | refine v6l (toD t2) ?_ | refine vgi (toD t2) ?_)<;>refine hgS ?_)
 exact RLe.ofEq rfl
theorem pDiv (a b:Option Rat) (ha:qz a<=67108864) (hb:qz b<=67108864):CallsD Γ prog 108 [.agg (qC a),.agg (qC b)] (qR (divO a b) (divE a b)):=by
 cases a with
 | none=>
  have r1:CallsD Γ prog 48 [.agg (qC none)] (.one (cB false)):=vcj none (by omega);refine CallsD.run [] Go.Proofs.Tryz.func108 rfl rfl rfl ?_;simp only [Go.Proofs.Tryz.f108];refine hgR ?_
  repeat' ((first | refine hfk ?_ ?_<;>intros | refine hik ?_ | with_reducible first | refine hcA ?_ | refine hcB ?_)<;>refine hgS ?_)
  exact vmy
 | some x=>
  have r1:CallsD Γ prog 48 [.agg (qC (some x))] (.one (cB true)):=vcj (some x) (by omega)
  cases b with
  | none=>
   have r2:CallsD Γ prog 48 [.agg (qC none)] (.one (cB false)):=vcj none (by omega);refine CallsD.run [] Go.Proofs.Tryz.func108 rfl rfl rfl ?_;simp only [Go.Proofs.Tryz.f108];refine hgR ?_
   repeat' ((first | refine hfk ?_ ?_<;>intros | refine hik ?_ | with_reducible first | refine hcA ?_ | refine hcB ?_)<;>refine hgS ?_)
   exact vmy
  | some y=>
   by_cases hy:y=0
   . subst hy;have r2:CallsD Γ prog 48 [.agg (qC (some 0))] (.one (cB true)):=vcj (some 0) (by omega);have hs:(qF (some (0:Rat))).s=0:=rfl;have r2:CallsD Γ prog 48 [.agg [.raw (.int .i64 0),.ints .i64 (qF (some (0:Rat))).L,.raw (.int .i64 (qF (some (0:Rat))).t),.ints .i64 (qF (some (0:Rat))).M]] (.one (cB true)):=r2;refine CallsD.run [] Go.Proofs.Tryz.func108 rfl rfl rfl ?_;simp only [Go.Proofs.Tryz.f108];refine hgR ?_
     repeat' ((first | refine hfk ?_ ?_<;>intros | refine hik ?_ | with_reducible first | refine hcA ?_ | refine hcB ?_)<;>refine hgS ?_)
     exact vmy
   . rw [show divO (some x) (some y)=some (x / y) by simp only [divO,hy,decide_false,cond_false],show divE (some x) (some y)=0 by simp only [divE,hy,decide_false,cond_false]]
     have h0:y.num≠0:=fun h=>hy (Rat.num_eq_zero.1 h)
     rcases Int.lt_or_lt_of_ne h0 with h | h
     . exact yfp x y h ha hb
     . exact vwp x y h ha hb
theorem x5l {p q:Int} (hp:1<=p) (hq:1<=q):0<=Rat.divInt p q:=by
 obtain ⟨n,rfl⟩:∃ n:Nat,q=n:=⟨q.toNat,by omega⟩;rw [Rat.divInt_ofNat];exact (Rat.divInt_ofNat p n)▸Rat.divInt_nonneg (by omega) (by omega)
theorem wqu {s:ByteArray} {u:Un} (h:symF s=some u):0<=u.f:=by
 unfold symF at h
 repeat' first
  | (cases h;exact x5l (by omega) (by omega))
  | (cases hc:seq s _<;>rw [hc] at h<;>simp only [cond_true,cond_false] at h)
 cases h
theorem v5g {s:ByteArray} {u:Un} (h:ykz s=some u):0<=u.f:=by
 unfold ykz at h
 cases h1:(symF s).isSome with
 | true=>
  rw [h1,cond_true] at h;exact wqu h
 | false=>
  rw [h1,cond_false] at h
  cases h2:(!(preF (x41 s 0)).isSome||!(symF (wcs s 1)).isSome||!wem (wcs s 1)) with
  | true=>rw [h2,cond_true] at h;cases h
  | false=>
   rw [h2,cond_false] at h;split at h
   . rename_i p v hp hv
     cases h;obtain ⟨d,e⟩:=zz1 hp;exact Rat.mul_nonneg (wqu hv) (x5l d.1 e.1)
   . cases h
theorem vuo {s:ByteArray} {u:Un} (h:ykz s=some u):0<u.f.num:=by
 have h1:=Rat.num_nonneg.2 (v5g h);have h2:=(xk3 h).2.2
 have h3:u.f.num≠0:=fun e=>h2 (Rat.num_eq_zero.1 e)
 omega
theorem xse:symF ⟨#[]⟩=none:=by kernel_rfl
theorem zdc {s:ByteArray} (h:s.size<2):symF (wcs s 1)=none:=by
 have e:wcs s 1=⟨#[]⟩:=ByteArray.ext (Array.eq_empty_of_size_eq_zero (by have:=yxt s 1;have h2:(wcs s 1).size=(wcs s 1).data.size:=rfl;omega));rw [e];exact xse
theorem yu2 (s:ByteArray) (hs:s.size<=1073741824):CallsD Γ prog 179 [.one (cS s)] (.tup [.agg (unO (ykz s)),.one (cB (ykz s).isSome)]):=by
 refine CallsD.run [] Go.Proofs.Tryz.func179 rfl rfl rfl ?_;simp only [Go.Proofs.Tryz.f179];refine hgR ?_;refine v6l (vka s) ?_
 cases hy:symF s with
 | some u=>
  conv=>simp (maxSteps:=2000000) (disch:=omega) only [go_sem,Nat.reduceAdd,Nat.reduceSub,Nat.reduceMul,Int.reduceToNat,Nat.reduceEqDiff,Nat.reduceBEq,Nat.reduceBneDiff,Nat.reduceLT,Int.reduceEq,Int.reduceLT,Int.reduceLE,Int.reduceNeg,Int.reduceAdd,Int.reduceSub,Int.reduceMul,unO,Option.isSome]
  exact RLe.ofEq (by simp only [ykz,hy];rfl)
 | none=>
  conv=>simp (maxSteps:=2000000) (disch:=omega) only [go_sem,Nat.reduceAdd,Nat.reduceSub,Nat.reduceMul,Int.reduceToNat,Nat.reduceEqDiff,Nat.reduceBEq,Nat.reduceBneDiff,Nat.reduceLT,Int.reduceEq,Int.reduceLT,Int.reduceLE,Int.reduceNeg,Int.reduceAdd,Int.reduceSub,Int.reduceMul,unO,Option.isSome]
  refine vnx (fun hlt _=>?_) (fun hge _=>?_)
  . refine hg ?_;exact RLe.ofEq (by simp only [ykz,hy,zdc (show s.size<2 by omega)];cases (preF (x41 s 0)).isSome<;>rfl)
  refine hg ?_;refine v6l (yoc _) ?_
  cases hp:preF (x41 s 0) with
  | none=>
   conv=>simp (maxSteps:=2000000) (disch:=omega) only [go_sem,Nat.reduceAdd,Nat.reduceSub,Nat.reduceMul,Int.reduceToNat,Nat.reduceEqDiff,Nat.reduceBEq,Nat.reduceBneDiff,Nat.reduceLT,Int.reduceEq,Int.reduceLT,Int.reduceLE,Int.reduceNeg,Int.reduceAdd,Int.reduceSub,Int.reduceMul,prQ,hp,frO,Option.map_none,Option.isSome]
   refine v6l (vka _) ?_
   cases hy2:symF (wcs s 1)<;>
   . conv=>simp (maxSteps:=2000000) (disch:=omega) only [go_sem,Nat.reduceAdd,Nat.reduceSub,Nat.reduceMul,Int.reduceToNat,Nat.reduceEqDiff,Nat.reduceBEq,Nat.reduceBneDiff,Nat.reduceLT,Int.reduceEq,Int.reduceLT,Int.reduceLE,Int.reduceNeg,Int.reduceAdd,Int.reduceSub,Int.reduceMul,unO,Option.isSome]
     exact RLe.ofEq (by simp only [ykz,hy,hp];rfl)
  | some p=>
   conv=>simp (maxSteps:=2000000) (disch:=omega) only [go_sem,Nat.reduceAdd,Nat.reduceSub,Nat.reduceMul,Int.reduceToNat,Nat.reduceEqDiff,Nat.reduceBEq,Nat.reduceBneDiff,Nat.reduceLT,Int.reduceEq,Int.reduceLT,Int.reduceLE,Int.reduceNeg,Int.reduceAdd,Int.reduceSub,Int.reduceMul,prQ,hp,frO,Option.map_some,Option.isSome]
   refine v6l (vka _) ?_
   cases hy2:symF (wcs s 1) with
   | none=>
    conv=>simp (maxSteps:=2000000) (disch:=omega) only [go_sem,Nat.reduceAdd,Nat.reduceSub,Nat.reduceMul,Int.reduceToNat,Nat.reduceEqDiff,Nat.reduceBEq,Nat.reduceBneDiff,Nat.reduceLT,Int.reduceEq,Int.reduceLT,Int.reduceLE,Int.reduceNeg,Int.reduceAdd,Int.reduceSub,Int.reduceMul,unO,Option.isSome]
    exact RLe.ofEq (by simp only [ykz,hy,hp,hy2];rfl)
   | some u=>
    obtain ⟨_,hu1,_⟩:=xhk hy2;obtain ⟨hp1,hp2⟩:=zz1 hp;obtain ⟨hf1,_⟩:=x8s hp1 hp2
    conv=>simp (maxSteps:=2000000) (disch:=omega) only [go_sem,Nat.reduceAdd,Nat.reduceSub,Nat.reduceMul,Int.reduceToNat,Nat.reduceEqDiff,Nat.reduceBEq,Nat.reduceBneDiff,Nat.reduceLT,Int.reduceEq,Int.reduceLT,Int.reduceLE,Int.reduceNeg,Int.reduceAdd,Int.reduceSub,Int.reduceMul,unO,Option.isSome]
    repeat' ((first | refine hfk ?_ ?_<;>intros | refine hik ?_ | with_reducible first | refine v6l (x3u _ _ (Nat.le_trans hu1 (by decide)) (Nat.le_trans hf1 (by decide))) ?_ | refine vgi (x3u _ _ (Nat.le_trans hu1 (by decide)) (Nat.le_trans hf1 (by decide))) ?_)<;>refine hgS ?_)
    all_goals exact RLe.ofEq (by simp only [ykz,hy,hp,hy2];simp [wem, *])
theorem xca (f:Rat) (x:Int) (hx:x.natAbs<=1000) (hf:qs f<=1000) (hf0:0<f.num):CallsD Γ prog 180 [.agg (fQ f),.one (cI x)] (.agg (fQ (ymb (1:Int) f x))):=by
 have h1:=wof (Γ:=Γ) 1 (by decide);have q1:=zn6;by_cases hp:0<x
 . have hneg:decide (x<0)=false:=decide_eq_false (by omega);refine CallsD.run [] Go.Proofs.Tryz.func180 rfl rfl rfl ?_;simp only [Go.Proofs.Tryz.f180];refine hgR ?_;refine v6l h1 ?_;refine hg ?_;refine y55 [1,2,4,5] (fun i:Nat=>[(6,.one (.dat (cI i)))]) (fun i=>[.box ((fQ f).map .dat) (some 33),.box [.dat (cI 0),.dat .zc,.dat (cI 0),.dat .zc] (some 33),.box ((fQ (pw (1:Int) f x i)).map .dat) (some 33)]) (fun i=>i<=x.natAbs) (fun i=>x.natAbs-i) 0 (Nat.zero_le _) ?_ ?_
   . refine hg ?_;exact StH.same svl (by rw [wuy])
   intro i hi;have hq:=zki (1:Int) f x i;have hm:i*(qs f+1)<=1000*1001:=Nat.mul_le_mul (by omega) (by omega);refine hg ?_;refine vnx (fun hlt _=>?_) (fun hlt _=>?_)
   . refine hg ?_
     repeat' ((first | refine hfk ?_ ?_<;>intros | refine hik ?_ | with_reducible first | refine v6l (x3u (pw (1:Int) f x i) f (by omega) (by omega)) ?_ | refine vgi (x3u (pw (1:Int) f x i) f (by omega) (by omega)) ?_)<;>refine hgS ?_)
     exact ⟨i+1,by omega,by omega,StH.same svl (by rw [xg4 hp])⟩
   . have e:i=x.natAbs:=by omega
     refine hg ?_;refine zum ?_;refine hg1 @hneg ?_;exact RLe.ofEq (by rw [xbq,<-e])
 . have hneg:decide ((0:Int)<x)=false:=decide_eq_false hp;refine CallsD.run [] Go.Proofs.Tryz.func180 rfl rfl rfl ?_;simp only [Go.Proofs.Tryz.f180];refine hgR ?_;refine v6l h1 ?_;refine hg ?_;refine zum ?_;refine hg1 @hneg ?_;refine y55 [1,2,4,5] (fun i:Nat=>[(7,.one (.dat (cI (-(i:Int)))))]) (fun i=>[.box ((fQ f).map .dat) (some 33),.box [.dat (cI 0),.dat .zc,.dat (cI 0),.dat .zc] (some 33),.box ((fQ (pw (1:Int) f x i)).map .dat) (some 33)]) (fun i=>i<=x.natAbs) (fun i=>x.natAbs-i) 0 (Nat.zero_le _) ?_ ?_
   . refine hg ?_;exact StH.same svl (by rw [wuy])
   intro i hi;have hq:=zki (1:Int) f x i;have hm:i*(qs f+1)<=1000*1001:=Nat.mul_le_mul (by omega) (by omega);refine hg ?_;refine vnx (fun hlt _=>?_) (fun hlt _=>?_)
   . refine hg ?_
     repeat' ((first | refine hfk ?_ ?_<;>intros | refine hik ?_ | with_reducible first | refine v6l (vwp (pw (1:Int) f x i) f hf0 (by omega) (by omega)) ?_ | refine vgi (vwp (pw (1:Int) f x i) f hf0 (by omega) (by omega)) ?_)<;>refine hgS ?_)
     refine ⟨i+1,by omega,by omega,?_⟩;rw [show (-(i:Int)-1) = -((i+1:Nat):Int) by omega];exact StH.same svl (by rw [zqi hp])
   . have e:i=x.natAbs:=by omega
     refine hg ?_;exact RLe.ofEq (by rw [xbq,<-e])
end Go.Hp.T
