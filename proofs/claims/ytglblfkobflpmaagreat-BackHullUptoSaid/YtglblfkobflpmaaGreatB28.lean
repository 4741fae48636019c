/- The proof, part B28: Fd, Ig, Nd. -/
import Derived.Test.YtglblfkobflpmaaGreatB19
import Derived.Test.YtglblfkobflpmaaGreatB23
import Derived.Test.YtglblfkobflpmaaGreatB24
import Derived.Test.YtglblfkobflpmaaGreatB27
namespace Go.Hp.T
open Go Go.RowKit Go.Slot Go.Hp Go.Slot.T
open Go.Proofs.Tryz (prog)
attribute [local irreducible] hide RH
set_option maxRecDepth 10000
set_option maxHeartbeats 4000000
variable {Γ:List (Nat×List Cell)}
abbrev zC (z:Int):List Cell:=[.raw (.int .i64 (sg z)),.ints .i64 (dig z.natAbs)]
theorem zhe (z:Int) (d:Nat) (hz:okZ z) (hd:d≠0) (hl:(dig d).length<=268435456):CallsD Γ prog 77 [.agg (zC z),.agg (zC d)] (.tup [.agg (Fc.of (Rat.divInt z d)).C,.one (cI 0)]):=by
 have:=toD (Γ:=Γ) (w2g z d hz hd hl)
 rw [Rat.divInt_ofNat];unfold zC;rw [zy9 hd];exact this
theorem ykb (z:Int) (d:Nat) (hz:okZ z) (hd:d≠0) (hl:(dig d).length<=268435456):CallsD Γ prog 77 [.agg (zC z),.agg (zC (-(d:Int)))] (.tup [.agg (Fc.of (Rat.divInt z (-(d:Int)))).C,.one (cI 0)]):=by
 have hdd:okZ (-(d:Int)):=by unfold okZ;rw [show (-(d:Int)).natAbs=d by omega];exact hl
 have hzz:okZ (-z):=by unfold okZ at hz ⊢;rw [Int.natAbs_neg];exact hz
 have hdz:okZ (d:Int):=hl;have hs:sg (-(d:Int)) = -1:=xk9 (by omega);have hgp:0<(Int.gcd (-z) d:Int):=(ygp (-z) hd).2.2;obtain ⟨p1,p2,p3⟩:=ygp (-z) hd;have hden:=vmx (mkRat (-z) d);rw [p2] at hden
 have hgl:okZ (Int.gcd (-z) d:Int):=by
  have:(Int.gcd (-z) d:Int).natAbs<=d:=by
   have:Int.gcd (-z) d ∣ d:=by have:=Int.gcd_dvd_natAbs_right (-z) d;simpa using this
   exact Nat.le_of_dvd (Nat.pos_of_ne_zero hd) this
  exact Nat.le_trans (xax this) hl
 have hn1:=zc3 (Γ:=Γ) z hz;have hn2:=zc3 (Γ:=Γ) (-(d:Int)) hdd;rw [Int.neg_neg,hs,zy9 hd] at hn2;have hr:=xt7 (Γ:=Γ) (-(d:Int)) hdd;rw [hs] at hr;have hg:=ydl (Γ:=Γ) (-z) d hzz hdz;have hd1:=xgs (Γ:=Γ) (-z) (Int.gcd (-z) d:Int) hzz hgl hgp;have hd2:=xgs (Γ:=Γ) d (Int.gcd (-z) d:Int) hdz hgl hgp;rw [zy9 hd] at hg hd2;rw [hden] at hd2
 have hden2:(mkRat (-z) d).den=((d:Int) / (Int.gcd (-z) d:Int)).natAbs:=by omega
 have hfin:(Fc.of (Rat.divInt z (-(d:Int)))).C=[.raw (.int .i64 (sg (-z / (Int.gcd (-z) d:Int)))),.ints .i64 (dig (-z / (Int.gcd (-z) d:Int)).natAbs),.raw (.int .i64 1),.ints .i64 (dig ((d:Int) / (Int.gcd (-z) d:Int)).natAbs)]:=by
  rw [Rat.divInt_neg',Rat.divInt_ofNat,<-p1,<-hden2];rfl
 rw [hfin];generalize (Int.gcd (-z) d:Int)=g at *;unfold zC;rw [hs];refine CallsD.run [] Go.Proofs.Tryz.func77 rfl rfl rfl ?_;simp only [Go.Proofs.Tryz.f77];refine hgR ?_
 repeat' ((first | refine hfk ?_ ?_<;>intros | refine hik ?_ | with_reducible first | refine wml (toD (xt7 z hz)) ?_ | refine ysi (toD (xt7 z hz)) ?_ | refine wml (toD hr) ?_ | refine ysi (toD hr) ?_ | refine wml (toD hn1) ?_ | refine ysi (toD hn1) ?_ | refine wml (toD hn2) ?_ | refine ysi (toD hn2) ?_ | refine wml (toD hg) ?_ | refine ysi (toD hg) ?_ | refine wml (toD hd1) ?_ | refine ysi (toD hd1) ?_ | refine wml (toD hd2) ?_ | refine ysi (toD hd2) ?_)<;>refine hgS ?_)
 exact RLe.ofEq rfl
theorem w1l (z q:Int) (hz:okZ z) (hq:q≠0) (hl:okZ q):CallsD Γ prog 77 [.agg (zC z),.agg (zC q)] (.tup [.agg (Fc.of (Rat.divInt z q)).C,.one (cI 0)]):=by
 unfold okZ at hl
 rcases Int.lt_or_gt_of_ne hq with h | h
 . have e:q = -((q.natAbs:Nat):Int):=by omega
   have:=ykb (Γ:=Γ) z q.natAbs hz (by omega) hl
   rw [<-e] at this;exact this
 . have e:((q.natAbs:Nat):Int)=q:=by omega
   have:=zhe (Γ:=Γ) z q.natAbs hz (by omega) hl
   rw [e] at this;exact this
theorem v33 (p q:Int) (hp:inI p) (hq:inI q) (hq0:q≠0):CallsD Γ prog 174 [.one (cI p),.one (cI q)] (.tup [.agg (Fc.of (Rat.divInt p q)).C,.one (cI 0)]):=by
 have okI:∀ n:Int,inI n->okZ n:=fun n hn=>by
  unfold okZ
  have:=y6j (n:=n.natAbs) (by unfold inI at hn;omega)
  omega
 refine CallsD.run [] Go.Proofs.Tryz.func174 rfl rfl rfl ?_;simp only [Go.Proofs.Tryz.f174];refine hgR ?_
 repeat' ((first | refine hfk ?_ ?_<;>intros | refine hik ?_ | with_reducible first | refine wml (toD (cOfZ p hp)) ?_ | refine ysi (toD (cOfZ p hp)) ?_ | refine wml (toD (cOfZ q hq)) ?_ | refine ysi (toD (cOfZ q hq)) ?_ | refine wml (w1l p q (okI p hp) hq0 (okI q hq)) ?_ | refine ysi (w1l p q (okI p hp) hq0 (okI q hq)) ?_)<;>refine hgS ?_)
 exact RLe.ofEq rfl
theorem vpm (x y:Rat):x / y=Rat.divInt (x.num*y.den) (x.den*y.num):=by
 rw [Rat.div_def,Rat.inv_def]
 conv=>lhs;rw [<-Rat.num_divInt_den x]
 rw [Rat.divInt_mul_divInt]
abbrev fQ (x:Rat):List Cell:=[.raw (.int .i64 (sg x.num)),.ints .i64 (dig x.num.natAbs),.raw (.int .i64 1),.ints .i64 (dig x.den)]
abbrev qs (x:Rat):Nat:=(Fc.of x).sz
theorem wlo (x:Rat) (h:qs x<=268435456):CallsD Γ prog 44 [.agg (fQ x)] (.one (cB true)):=toD (z6t x h)
theorem qMul (x y:Rat) (hx:qs x<=67108864) (hy:qs y<=67108864):CallsD Γ prog 38 [.agg (fQ x),.agg (fQ y)] (.tup [.agg (fQ (x*y)),.one (cI 0)]):=by
 have:=toD (Γ:=Γ) (zu5 (Fc.of x) (Fc.of y) hx hy)
 rw [Fc.x5c,Fc.wop ⟨Fc.xd3 x,Fc.xd3 y⟩] at this;exact this
theorem qInt (n:Int) (hn:inI n):CallsD Γ prog 37 [.one (cI n)] (.agg (fQ (n:Rat))):=toD (wma n hn)
theorem qOf (p q:Int) (hp:inI p) (hq:inI q) (hq0:q≠0):CallsD Γ prog 174 [.one (cI p),.one (cI q)] (.tup [.agg (fQ (Rat.divInt p q)),.one (cI 0)]):=v33 p q hp hq hq0
theorem qDiv (x y:Rat) (hy:y≠0) (hx:qs x<=67108864) (hyl:qs y<=67108864):CallsD Γ prog 106 [.agg (fQ x),.agg (fQ y)] (.tup [.agg (fQ (x / y)),.one (cI 0)]):=by
 have lx:=szO hx;have ly:=szO hyl;have l1:=z9n x.num y.den;have l4:=z9n (x.den:Int) y.num
 have hyn:y.num≠0:=fun h=>hy (Rat.num_eq_zero.1 h)
 have hsy:sg y.num≠0:=by have:=vvv y.num;omega
 have hD:okZ (x.den:Int):=by unfold okZ;have:=lx.2;simp only [Int.natAbs_natCast];omega
 have hDy:okZ (y.den:Int):=by unfold okZ;have:=ly.2;simp only [Int.natAbs_natCast];omega
 have t1:=vhe (Γ:=Γ) x.num y.den (by unfold okZ;omega) hDy;have t2:=vhe (Γ:=Γ) (x.den:Int) y.num hD (by unfold okZ;omega);rw [zy9 y.den_nz] at t1;rw [zy9 x.den_nz] at t2;simp only [Int.natAbs_natCast] at t1 t2;have hden:((x.den:Int)*y.num)≠0:=Int.mul_ne_zero (by have:=x.den_nz;omega) hyn;have hn:=w1l (Γ:=Γ) (x.num*y.den) (x.den*y.num) (by unfold okZ;simp only [Int.natAbs_natCast] at l1;omega) hden (by unfold okZ;simp only [Int.natAbs_natCast] at l4;omega);rw [vpm];refine CallsD.run [] Go.Proofs.Tryz.func106 rfl rfl rfl ?_;simp only [Go.Proofs.Tryz.f106];refine hgR ?_
 repeat' ((first | refine hfk ?_ ?_<;>intros | refine hik ?_ | with_reducible first | refine wml (wlo x (by omega)) ?_ | refine ysi (wlo x (by omega)) ?_ | refine wml (wlo y (by omega)) ?_ | refine ysi (wlo y (by omega)) ?_ | refine wml (toD t1) ?_ | refine ysi (toD t1) ?_ | refine wml (toD t2) ?_ | refine ysi (toD t2) ?_ | refine wml (hn) ?_ | refine ysi (hn) ?_)<;>refine hgS ?_)
 exact RLe.ofEq rfl
end Go.Hp.T
namespace Go.Hp.T
open Go Go.RowKit Go.Slot Go.Hp
set_option maxRecDepth 10000
structure Un where
 d:Dm
 f:Rat
abbrev unC (u:Un):List Cell:=[cI u.d.a,cI u.d.b,cI u.d.c,cI u.d.d,cI u.d.e,cI u.d.f,.raw (.int .i64 (sg u.f.num)),.ints .i64 (dig u.f.num.natAbs),.raw (.int .i64 1),.ints .i64 (dig u.f.den)]
abbrev unZ:List Cell:=[cI 0,cI 0,cI 0,cI 0,cI 0,cI 0,cI 0,.zc,cI 0,.zc]
def unO:Option Un->List Cell
 | some u=>unC u
 | none=>unZ
def y5z (b e:Int):Dm:=⟨bif decide (b=0) then e else 0,bif decide (b=1) then e else 0,bif decide (b=2) then e else 0,bif decide (b=3) then e else 0,bif decide (b=4) then e else 0,bif decide (b=5) then e else 0⟩
def unOf (b e p q:Int):Un:=⟨y5z b e,Rat.divInt p q⟩
def symF (s:ByteArray):Option Un:=
 bif seq s ⟨#[103]⟩ then some (unOf 0 1 1 1) else
 bif seq s ⟨#[116]⟩ then some (unOf 0 1 1000000 1) else
 bif seq s ⟨#[109]⟩ then some (unOf 1 1 1 1) else
 bif seq s ⟨#[108]⟩ then some (unOf 1 3 1 1000) else
 bif seq s ⟨#[115]⟩ then some (unOf 2 1 1 1) else
 bif seq s ⟨#[104]⟩ then some (unOf 2 1 3600 1) else
 bif seq s ⟨#[100]⟩ then some (unOf 2 1 86400 1) else
 bif seq s ⟨#[74]⟩ then some (unOf 3 1 1 1) else
 bif seq s ⟨#[87,104]⟩ then some (unOf 3 1 3600 1) else
 bif seq s ⟨#[99,101,110,116]⟩ then some (unOf 4 1 1 1) else
 bif seq s ⟨#[101,117,114]⟩ then some (unOf 4 1 100 1) else
 bif seq s ⟨#[112,99]⟩ then some (unOf 5 1 1 1) else none
def vp5 (s:ByteArray) (i:Nat):ByteArray:=s.extract i s.size
def wrv (s:ByteArray) (i:Nat):ByteArray:=s.extract 0 i
def preF (c:Int):Option (Int×Int):=bif decide (c=107) then some (1000,1) else bif decide (c=77) then some (1000000,1) else bif decide (c=71) then some (1000000000,1) else bif decide (c=109) then some (1,1000) else none
def preO:Option (Int×Int)->Int×Int
 | some p=>p
 | none=>(0,0)
def v2f (s:ByteArray):Bool:=seq s ⟨#[103]⟩||seq s ⟨#[109]⟩||seq s ⟨#[108]⟩||seq s ⟨#[115]⟩||seq s ⟨#[74]⟩||seq s ⟨#[87,104]⟩
theorem xu1 (s:ByteArray) (i:Nat):(vp5 s i).size=s.size-i:=by unfold vp5;simp
theorem xsl (s:ByteArray) (i:Nat) (h:i<=s.size):(wrv s i).size=i:=by unfold wrv;simp;omega
structure It where
 w:ByteArray
 e:Int
instance:Inhabited It:=⟨⟨⟨#[]⟩,0⟩⟩
def It.C (x:It):List Cell:=[cS x.w,cI x.e]
abbrev itC (x:It):List Cell:=[cS x.w,cI x.e]
theorem It.C_eq (x:It):x.C=itC x:=rfl
attribute [go_sem] It.C_eq
def zj9 (s:ByteArray):ByteArray:=vp5 s (xg6 wxl s)
def x5d (s:ByteArray):Bool:=decide (¬(zj9 s).size=0)&&decide (50<=yuk (zj9 s) 0)&&decide (yuk (zj9 s) 0<=57)
def wfb (s:ByteArray):It:=⟨wrv s (xg6 wxl s),bif x5d s then yuk (zj9 s) 0-48 else 1⟩
def yu4 (s:ByteArray):ByteArray:=bif x5d s then vp5 (zj9 s) 1 else zj9 s
def wau (s:ByteArray):Bool:=decide (0<(xg6 wxl s:Int))
def xle (s:ByteArray):Option Un:=
 bif (symF s).isSome then symF s else
 bif !(preF (yuk s 0)).isSome||!(symF (vp5 s 1)).isSome||!v2f (vp5 s 1) then none else
 match preF (yuk s 0),symF (vp5 s 1) with
 | some p,some u=>some ⟨u.d,u.f*Rat.divInt p.1 p.2⟩
 | _,_=>none
def iter {α:Type} (g:α->α):Nat->α->α
 | 0,a=>a
 | n+1,a=>iter g n (g a)
theorem xez {α:Type} (g:α->α):∀(n:Nat) (a:α),iter g (n+1) a=g (iter g n a)
 | 0,_=>rfl
 | n+1,a=>by rw [iter,xez g n (g a),iter]
def vhc (a f:Rat) (e:Int):Rat:=bif decide (0<e) then iter (· * f) e.natAbs a else iter (· / f) e.natAbs a
theorem vmu (x y:Rat):qs (x*y)<=qs x+qs y:=Fc.yob x y
theorem zxu (x:Rat):qs x⁻¹<=qs x+1:=by
 by_cases h:x=0
 . subst h;rw [Rat.inv_zero];exact Nat.le_succ _
 . show (Fc.of x⁻¹).sz<=(Fc.of x).sz+1
   have hn:x.num≠0:=fun e=>h (Rat.num_eq_zero.1 e)
   rw [Fc.zom,Fc.zom,Rat.num_inv,Rat.den_inv,if_neg hn]
   have:(x.num.sign*(x.den:Int)).natAbs=x.den:=by
    rw [Int.natAbs_mul,Int.natAbs_sign];simp [hn]
   rw [this];omega
theorem x6h (x y:Rat):qs (x / y)<=qs x+qs y+1:=by
 rw [Rat.div_def]
 have:=vmu x y⁻¹
 have:=zxu y
 omega
def Dm.in03 (d:Dm):Prop:=(0<=d.a/\d.a<=3)/\(0<=d.b/\d.b<=3)/\(0<=d.c/\d.c<=3)/\(0<=d.d/\d.d<=3)/\(0<=d.e/\d.e<=3)/\(0<=d.f/\d.f<=3)
theorem ysa {p q:Int} (hp:1<=p/\p<=1000000000) (hq:1<=q/\q<=1000000000):qs (Rat.divInt p q)<=4/\Rat.divInt p q≠0:=by
 obtain ⟨n,rfl⟩:∃ n:Nat,q=n:=⟨q.toNat,by omega⟩;rw [Rat.divInt_ofNat];refine ⟨?_,(Rat.mkRat_ne_zero (by omega)).2 (by omega)⟩
 have:=Fc.xpk p n (by omega)
 have h1:=y6j (n:=p.natAbs) (by omega);have h2:=y6j (n:=n) (by omega);show (Fc.of _).sz<=4;omega
theorem w6g {b e:Int} (he:0<=e/\e<=3):(y5z b e).in03:=by
 have key:∀ p:Bool,0<=(bif p then e else 0)/\(bif p then e else 0)<=3:=fun p=>by cases p<;>simp<;>omega
 exact ⟨key _,key _,key _,key _,key _,key _⟩
theorem yqx {b e p q:Int} (he:0<=e/\e<=3) (hp:1<=p/\p<=1000000000) (hq:1<=q/\q<=1000000000):(unOf b e p q).d.in03/\qs (unOf b e p q).f<=4/\(unOf b e p q).f≠0:=⟨w6g he,ysa hp hq⟩
theorem xnl {s:ByteArray} {u:Un} (h:symF s=some u):u.d.in03/\qs u.f<=4/\u.f≠0:=by
 unfold symF at h
 repeat' first
  | (cases h;exact yqx (by omega) (by omega) (by omega))
  | (cases hc:seq s _<;>rw [hc] at h<;>simp only [cond_true,cond_false] at h)
 cases h
theorem y3p {c:Int} {p:Int×Int} (h:preF c=some p):(1<=p.1/\p.1<=1000000000)/\(1<=p.2/\p.2<=1000000000):=by
 unfold preF at h
 repeat' first
  | (cases h;done)
  | (cases h;simp;done)
  | (cases hc:decide (c=_)<;>rw [hc] at h<;>simp only [cond_true,cond_false] at h)
theorem xid {s:ByteArray} {u:Un} (h:xle s=some u):u.d.in03/\qs u.f<=8/\u.f≠0:=by
 unfold xle at h
 cases h1:(symF s).isSome with
 | true=>
  rw [h1,cond_true] at h;obtain ⟨a,b,c⟩:=xnl h;exact ⟨a,by omega,c⟩
 | false=>
  rw [h1,cond_false] at h
  cases h2:(!(preF (yuk s 0)).isSome||!(symF (vp5 s 1)).isSome||!v2f (vp5 s 1)) with
  | true=>rw [h2,cond_true] at h;cases h
  | false=>
   rw [h2,cond_false] at h;split at h
   . rename_i p v hp hv
     cases h;obtain ⟨a,b,c⟩:=xnl hv;obtain ⟨d,e⟩:=y3p hp;obtain ⟨f,g⟩:=ysa d e;refine ⟨a,?_,?_⟩
     . have:=vmu v.f (Rat.divInt p.1 p.2)
       show qs (v.f*_)<=8;omega
     . exact fun h0=>by
        rcases Rat.mul_eq_zero.1 h0 with h0 | h0
        . exact c h0
        . exact g h0
   . cases h
def pw (a f:Rat) (x:Int) (i:Nat):Rat:=bif decide (0<x) then iter (· * f) i a else iter (· / f) i a
theorem w1n (a f:Rat) (x:Int):pw a f x 0=a:=by unfold pw;cases decide (0<x)<;>rfl
theorem zn4 {a f:Rat} {x:Int} (h:0<x) (i:Nat):pw a f x (i+1)=pw a f x i*f:=by unfold pw;rw [decide_eq_true h];exact xez _ _ _
theorem zik {a f:Rat} {x:Int} (h:¬0<x) (i:Nat):pw a f x (i+1)=pw a f x i / f:=by unfold pw;rw [decide_eq_false h];exact xez _ _ _
theorem zcx (a f:Rat) (x:Int):∀ i,qs (pw a f x i)<=qs a+i*(qs f+1)
 | 0=>by rw [w1n];omega
 | i+1=>by
  have ih:=zcx a f x i;rw [Nat.add_mul,Nat.one_mul];by_cases h:0<x
  . rw [zn4 h]
    have:=vmu (pw a f x i) f
    omega
  . rw [zik h]
    have:=x6h (pw a f x i) f
    omega
theorem zvw (a f:Rat) (x:Int):vhc a f x=pw a f x x.natAbs:=rfl
theorem xae (s:ByteArray):1<=(wfb s).e/\(wfb s).e<=9:=by
 unfold wfb
 cases h:x5d s with
 | false=>simp
 | true=>
  simp only [x5d,Bool.and_eq_true,decide_eq_true_eq] at h;simp only [cond_true];omega
theorem zhx (s:ByteArray):(yu4 s).size<=s.size:=by
 unfold yu4 zj9
 cases x5d s<;>simp only [cond_true,cond_false,xu1]<;>omega
def xsw (c:Int) (x:It):It:=bif decide (c=47) then ⟨x.w,0-x.e⟩ else x
def y88 (s p:ByteArray):Bool:=decide ((p.size:Int)<=s.size)&&seq (wrv s p.size) p
def y7w (s:ByteArray):ByteArray:=bif y88 s ⟨#[49]⟩ then vp5 s 1 else ⟨#[42]⟩++s
def zr7:Nat->ByteArray->List It->Option (List It)
 | 0,_,_=>none
 | n+1,r,acc=>bif decide (r.size=0) then some acc else
  bif !wau (vp5 r 1)||(decide (¬yuk r 0=42)&&decide (¬yuk r 0=47)) then none else
  zr7 n (yu4 (vp5 r 1)) (acc++[xsw (yuk r 0) (wfb (vp5 r 1))])
def w5k (s:ByteArray):Option (List It):=bif decide (s.size=0) then some [] else bif decide (40<(s.size:Int)) then none else zr7 (s.size+2) (y7w s) []
def itO:Option (List It)->List It
 | some l=>l
 | none=>[]
def It.ok (x:It):Prop:=1<=x.w.size/\x.w.size<=1000/\-9<=x.e/\x.e<=9
theorem w1e {r:ByteArray} (h:wau r=true) (hr:r.size<=1000) (c:Int):(xsw c (wfb r)).ok:=by
 have he:=xae r;have hw:(wfb r).w.size=xg6 wxl r:=xsl _ _ (wbx _ _);have hl:=wbx wxl r
 have h0:1<=xg6 wxl r:=by
  have:(0:Int)<(xg6 wxl r:Int):=by simpa [wau] using h
  omega
 unfold xsw
 cases decide (c=47)
 . exact ⟨by simp only [cond_false];omega,by simp only [cond_false];omega,by simp only [cond_false];omega,by simp only [cond_false];omega⟩
 . exact ⟨by simp only [cond_true];omega,by simp only [cond_true];omega,by simp only [cond_true];omega,by simp only [cond_true];omega⟩
theorem z6c : ∀ (n : Nat) (r : ByteArray) (acc l : List It), zr7 n r acc = some l → r.size ≤ 1000 → (∀ x ∈ acc, x.ok) → l.length ≤ acc.length + r.size ∧ ∀ x ∈ l, x.ok
 | 0,_,_,_,h,_,_=>by cases h
 | n + 1, r, acc, l, h, hr, ha => by
  rw [zr7] at h;by_cases h0:r.size=0
  . rw [decide_eq_true h0,cond_true] at h;cases h;exact ⟨by omega,ha⟩
  . rw [decide_eq_false h0, cond_false] at h
    cases hb:(!wau (vp5 r 1)||(decide (¬yuk r 0=42)&&decide (¬yuk r 0=47))) with
    | true=>rw [hb,cond_true] at h;cases h
    | false=>
     rw [hb,cond_false] at h
     have hok:wau (vp5 r 1)=true:=by
      cases hc:wau (vp5 r 1) with
      | true=>rfl
      | false=>rw [hc] at hb;simp at hb
     have hd:=xu1 r 1;have hcs:=zhx (vp5 r 1)
     obtain ⟨h1,h2⟩:=z6c n _ _ _ h (by omega) (fun x hx=>by
      rcases List.mem_append.1 hx with hx | hx
      . exact ha x hx
      . simp at hx;subst hx;exact w1e hok (by omega) _)
     refine ⟨?_,h2⟩;rw [List.length_append,List.length_singleton] at h1;omega
theorem v7b {s : ByteArray} {l : List It} (h : w5k s = some l) : l.length ≤ 41 ∧ ∀ x ∈ l, x.ok := by
 unfold w5k at h;by_cases h0:s.size=0
 . rw [decide_eq_true h0,cond_true] at h;cases h;simp
 . rw [decide_eq_false h0, cond_false] at h;by_cases h1:40<(s.size:Int)
   . rw [decide_eq_true h1,cond_true] at h;cases h
   . rw [decide_eq_false h1,cond_false] at h
     have hsz:(y7w s).size<=s.size+1:=by
      unfold y7w;have h42:(⟨#[42]⟩:ByteArray).size=1:=rfl
      cases y88 s ⟨#[49]⟩
      . simp only [cond_false,ByteArray.size_append];omega
      . simp only [cond_true,xu1];omega
     obtain ⟨a,b⟩:=z6c _ _ _ _ h (by omega) (fun x hx=>by cases hx);exact ⟨by simp at a;omega,b⟩
def Dm.acc (x y:Dm) (e:Int):Dm:=⟨x.a+y.a*e,x.b+y.b*e,x.c+y.c*e,x.d+y.d*e,x.e+y.e*e,x.f+y.f*e⟩
def xx0:List It->Un->Option Un
 | [],u=>some u
 | x::l,u=>match xle x.w with
  | none=>none
  | some v=>xx0 l ⟨u.d.acc v.d x.e,vhc u.f v.f x.e⟩
def xx7 (s:ByteArray):Option Un×Int:=match w5k s with
 | none=>(none,12)
 | some l=>match xx0 l ⟨Dm.zero,(1:Int)⟩ with
  | none=>(none,11)
  | some u=>bif ytl u.d then (some u,0) else (none,3)
def Dm.le (d:Dm) (n:Int):Prop:=(-n<=d.a/\d.a<=n)/\(-n<=d.b/\d.b<=n)/\(-n<=d.c/\d.c<=n)/\(-n<=d.d/\d.d<=n)/\(-n<=d.e/\d.e<=n)/\(-n<=d.f/\d.f<=n)
theorem xs8 {a e:Int} (ha:0<=a/\a<=3) (he:-9<=e/\e<=9):-27<=a*e/\a*e<=27:=by
 have:a=0\/a=1\/a=2\/a=3:=by omega
 rcases this with rfl | rfl | rfl | rfl<;>omega
theorem Dm.z2x {x y:Dm} {e n:Int} (hx:x.le n) (hy:y.in03) (he:-9<=e/\e<=9):(x.acc y e).le (n+27):=by
 obtain ⟨a1,a2,a3,a4,a5,a6⟩:=hx;obtain ⟨b1,b2,b3,b4,b5,b6⟩:=hy;have c1:=xs8 b1 he;have c2:=xs8 b2 he;have c3:=xs8 b3 he;have c4:=xs8 b4 he;have c5:=xs8 b5 he;have c6:=xs8 b6 he;unfold Dm.le Dm.acc;simp only;omega
theorem vvm:qs ((1:Int):Rat)<=1:=by
 show max (dig (1:Nat)).length (dig (1:Nat)).length<=1
 have:=w9k (n:=1) (k:=1) (by decide)
 omega
def dmO:Option Un->Dm
 | some u=>u.d
 | none=>Dm.zero
def fcO (i:Nat):Option Un->Cell
 | some u=>(fQ u.f).getD i .zc
 | none=>[cI 0,.zc,cI 0,.zc].getD i .zc
abbrev unX (o:Option Un):List Cell:=[cI (dmO o).a,cI (dmO o).b,cI (dmO o).c,cI (dmO o).d,cI (dmO o).e,cI (dmO o).f,fcO 0 o,fcO 1 o,fcO 2 o,fcO 3 o]
theorem zwu (o:Option Un):unO o=unX o:=by cases o<;>rfl
end Go.Hp.T
namespace Go.Hp.T
open Go Go.RowKit Go.Slot Go.Hp Go.Slot.T
open Go.Proofs.Tryz (prog)
attribute [local irreducible] hide RH
set_option maxRecDepth 10000
set_option maxHeartbeats 4000000
variable {Γ:List (Nat×List Cell)}
theorem xz2 (c:Int):CallsD Γ prog 185 [.one (c8 c)] (.one (cB (wxl c))):=by
 refine CallsD.run [] Go.Proofs.Tryz.func185 rfl rfl rfl ?_;simp only [Go.Proofs.Tryz.f185];refine hgR ?_
 repeat' ((first | refine hfk ?_ ?_<;>intros | refine hik ?_)<;>refine hgS ?_)
 all_goals refine lf1 @wxl.eq_def ?_;first | exact trivial | rfl
theorem wlf (b e p q:Int) (hb:b=0\/b=1\/b=2\/b=3\/b=4\/b=5) (hp:inI p) (hq:inI q) (hq0:q≠0):CallsD Γ prog 186 [.one (cI b),.one (cI e),.one (cI p),.one (cI q)] (.agg (unC (unOf b e p q))):=by
 rcases hb with rfl | rfl | rfl | rfl | rfl | rfl
 all_goals
  refine CallsD.run [] Go.Proofs.Tryz.func186 rfl rfl rfl ?_;simp only [Go.Proofs.Tryz.f186];refine hgR ?_
  repeat' ((first | refine hfk ?_ ?_<;>intros | refine hik ?_ | with_reducible first | refine wml (qOf p q hp hq hq0) ?_ | refine ysi (qOf p q hp hq hq0) ?_)<;>refine hgS ?_)
  exact RLe.ofEq rfl
theorem x1l (s:ByteArray):CallsD Γ prog 171 [.one (cS s)] (.tup [.agg (unO (symF s)),.one (cB (symF s).isSome)]):=by
 have h1:=wlf (Γ:=Γ) 0 1 1 1 (by decide) (by decide) (by decide) (by decide);have h2:=wlf (Γ:=Γ) 0 1 1000000 1 (by decide) (by decide) (by decide) (by decide);have h3:=wlf (Γ:=Γ) 1 1 1 1 (by decide) (by decide) (by decide) (by decide);have h4:=wlf (Γ:=Γ) 1 3 1 1000 (by decide) (by decide) (by decide) (by decide);have h5:=wlf (Γ:=Γ) 2 1 1 1 (by decide) (by decide) (by decide) (by decide);have h6:=wlf (Γ:=Γ) 2 1 3600 1 (by decide) (by decide) (by decide) (by decide);have h7:=wlf (Γ:=Γ) 2 1 86400 1 (by decide) (by decide) (by decide) (by decide);have h8:=wlf (Γ:=Γ) 3 1 1 1 (by decide) (by decide) (by decide) (by decide);have h9:=wlf (Γ:=Γ) 3 1 3600 1 (by decide) (by decide) (by decide) (by decide);have h10:=wlf (Γ:=Γ) 4 1 1 1 (by decide) (by decide) (by decide) (by decide);have h11:=wlf (Γ:=Γ) 4 1 100 1 (by decide) (by decide) (by decide) (by decide);have h12:=wlf (Γ:=Γ) 5 1 1 1 (by decide) (by decide) (by decide) (by decide);refine CallsD.run [] Go.Proofs.Tryz.func171 rfl rfl rfl ?_;simp only [Go.Proofs.Tryz.f171];refine hgR ?_
 repeat' ((first | refine hfk ?_ ?_<;>intros | refine hik ?_ | with_reducible first | refine wml (h1) ?_ | refine ysi (h1) ?_ | refine wml (h2) ?_ | refine ysi (h2) ?_ | refine wml (h3) ?_ | refine ysi (h3) ?_ | refine wml (h4) ?_ | refine ysi (h4) ?_ | refine wml (h5) ?_ | refine ysi (h5) ?_ | refine wml (h6) ?_ | refine ysi (h6) ?_ | refine wml (h7) ?_ | refine ysi (h7) ?_ | refine wml (h8) ?_ | refine ysi (h8) ?_ | refine wml (h9) ?_ | refine ysi (h9) ?_ | refine wml (h10) ?_ | refine ysi (h10) ?_ | refine wml (h11) ?_ | refine ysi (h11) ?_ | refine wml (h12) ?_ | refine ysi (h12) ?_)<;>refine hgS ?_)
 all_goals (refine RLe.ofEq ?_;conv=>simp only [Bool.and_true,Bool.true_and,Bool.and_false,Bool.false_and,Bool.or_true,Bool.true_or,Bool.or_false,Bool.false_or,Bool.not_true,Bool.not_false,decide_true,decide_false,not_true_eq_false,not_false_eq_true,wit,if_true,if_false,Bool.and_self,Bool.or_self,cond_true,cond_false,List.length_map,ne_eq,Int.reduceEq,Int.reduceLT,Int.reduceLE, *,symF,unO,Option.isSome]);first | exact trivial | rfl
theorem zdz (c:Int):CallsD Γ prog 172 [.one (c8 c)] (.tup [.one (cI (preO (preF c)).1),.one (cI (preO (preF c)).2),.one (cB (preF c).isSome)]):=by
 refine CallsD.run [] Go.Proofs.Tryz.func172 rfl rfl rfl ?_;simp only [Go.Proofs.Tryz.f172];refine hgR ?_
 repeat' ((first | refine hfk ?_ ?_<;>intros | refine hik ?_)<;>refine hgS ?_)
 all_goals (refine RLe.ofEq ?_;conv=>simp only [Bool.and_true,Bool.true_and,Bool.and_false,Bool.false_and,Bool.or_true,Bool.true_or,Bool.or_false,Bool.false_or,Bool.not_true,Bool.not_false,decide_true,decide_false,not_true_eq_false,not_false_eq_true,wit,if_true,if_false,Bool.and_self,Bool.or_self,cond_true,cond_false,List.length_map,ne_eq,Int.reduceEq,Int.reduceLT,Int.reduceLE, *,preF,preO,Option.isSome]);first | exact trivial | rfl
theorem yvn (s:ByteArray):CallsD Γ prog 173 [.one (cS s)] (.one (cB (v2f s))):=by
 refine CallsD.run [] Go.Proofs.Tryz.func173 rfl rfl rfl ?_;simp only [Go.Proofs.Tryz.f173];refine hgR ?_
 repeat' ((first | refine hfk ?_ ?_<;>intros | refine hik ?_)<;>refine hgS ?_)
 all_goals refine lf1 @v2f.eq_def ?_;first | exact trivial | rfl
theorem sExt (s:ByteArray) (i:Nat):s.extract 0 i=wrv s i:=rfl
theorem wkw (s:ByteArray) (i:Nat):s.extract i s.size=vp5 s i:=rfl
attribute [go_sem] sExt wkw
theorem v5a (s p:ByteArray) (_hs:s.size<=1073741824) (hp:p.size<=1073741824):CallsD Γ prog 192 [.one (cS s),.one (cS p)] (.one (cB (y88 s p))):=by
 refine CallsD.run [] Go.Proofs.Tryz.func192 rfl rfl rfl ?_;simp only [Go.Proofs.Tryz.f192];refine hgR ?_
 repeat' ((first | refine hfk ?_ ?_<;>intros | refine hik ?_)<;>refine hgS ?_)
 all_goals refine lf1 @y88.eq_def ?_;first | exact trivial | rfl
theorem y2f (s p:ByteArray) (hs:s.size<=1073741824) (hp:p.size<=1073741824):CallsD Γ prog 184 [.one (cS s),.one (cS p)] (.tup [.one (cS (bif y88 s p then vp5 s p.size else s)),.one (cB (y88 s p))]):=by
 refine CallsD.run [] Go.Proofs.Tryz.func184 rfl rfl rfl ?_;simp only [Go.Proofs.Tryz.f184];refine hgR ?_;refine wml (v5a s p hs hp) ?_;refine hg ?_;refine zqy (fun h=>?_) (fun h=>?_)
 . refine hg ?_
   refine lfE ?_;first | exact trivial | rfl
 . have hle:p.size<=s.size:=by
    simp only [y88,Bool.and_eq_true,decide_eq_true_eq] at h;omega
   refine hg ?_
   refine lfE ?_;first | exact trivial | rfl
theorem y55 (s p:ByteArray) (hs:s.size<=1073741824) (hp:p.size<=1073741824):CallsD Γ prog 169 [.one (cS s),.one (cS p)] (.tup [.one (cS (bif y88 s p then vp5 s p.size else s)),.one (cB (y88 s p))]):=by
 refine CallsD.run [] Go.Proofs.Tryz.func169 rfl rfl rfl ?_;simp only [Go.Proofs.Tryz.f169];refine hgR ?_
 repeat' ((first | refine hfk ?_ ?_<;>intros | refine hik ?_ | with_reducible first | refine wml (y2f s p hs hp) ?_ | refine ysi (y2f s p hs hp) ?_)<;>refine hgS ?_)
 all_goals refine lfE ?_;first | exact trivial | rfl
theorem cCut (s:ByteArray) (hs:s.size<=1073741824):CallsD Γ prog 170 [.one (cS s)] (.tup [.agg (itC (wfb s)),.one (cS (yu4 s)),.one (cB (wau s))]):=by
 refine CallsD.run [] Go.Proofs.Tryz.func170 rfl rfl rfl ?_;simp only [Go.Proofs.Tryz.f170];refine hgR ?_;refine x20 [0,2] (fun n:Nat=>[(5,.one (.dat (cI n)))]) (fun _=>[.box [.dat (cS ⟨⟨[]⟩⟩),.dat (cI 0)] (some 181)]) (fun n=>n<=s.size/\∀ j,j<n->wxl (yuk s j)=true) (fun n=>s.size-n) 0 ⟨Nat.zero_le _,fun j hj=>by omega⟩ ?_ ?_
 . refine hg ?_;exact StH.same svl rfl
 intro n hn;obtain ⟨hn,hj⟩:=hn;refine hg ?_;refine ywj (fun hlt hd=>?_) (fun hlt _=>?_)
 . refine hg1 @hd ?_;refine wml (xz2 _) ?_;refine hg ?_;refine zub (fun h1=>?_) (fun h1=>?_)
   . refine hg ?_;refine ⟨n+1,⟨by omega,fun j hj'=>?_⟩,by omega,StH.same svl rfl⟩
     rcases Nat.lt_or_eq_of_le (Nat.le_of_lt_succ hj') with h2 | h2
     . exact hj j h2
     . rw [h2];exact h1
   . have hsp:=yxq hn hj (.inr h1);clear h1;refine hg ?_
     repeat' ((first | refine hfk ?_ ?_<;>intros | refine hik ?_)<;>refine hgS ?_)
     all_goals (refine RLe.ofEq ?_;conv=>simp only [Bool.and_true,Bool.true_and,Bool.and_false,Bool.false_and,Bool.or_true,Bool.true_or,Bool.or_false,Bool.false_or,Bool.not_true,Bool.not_false,decide_true,decide_false,not_true_eq_false,not_false_eq_true,wit,if_true,if_false,Bool.and_self,Bool.or_self,cond_true,cond_false,List.length_map,ne_eq,Int.reduceEq,Int.reduceLT,Int.reduceLE, *,wfb,yu4,x5d,zj9,wau,hsp]);first | exact trivial | rfl
 . have hsp:=yxq hn hj (.inl (by omega));refine hgS ?_
   repeat' ((first | refine hfk ?_ ?_<;>intros | refine hik ?_)<;>refine hgS ?_)
   all_goals (refine RLe.ofEq ?_;conv=>simp only [Bool.and_true,Bool.true_and,Bool.and_false,Bool.false_and,Bool.or_true,Bool.true_or,Bool.or_false,Bool.false_or,Bool.not_true,Bool.not_false,decide_true,decide_false,not_true_eq_false,not_false_eq_true,wit,if_true,if_false,Bool.and_self,Bool.or_self,cond_true,cond_false,List.length_map,ne_eq,Int.reduceEq,Int.reduceLT,Int.reduceLE, *,wfb,yu4,x5d,zj9,wau,hsp]);first | exact trivial | rfl
theorem yvj (s:ByteArray) (hs:s.size<=1073741824) (h1:1<=s.size):CallsD Γ prog 138 [.one (cS s)] (.tup [.agg (unO (xle s)),.one (cB (xle s).isSome)]):=by
 refine CallsD.run [] Go.Proofs.Tryz.func138 rfl rfl rfl ?_;simp only [Go.Proofs.Tryz.f138];refine hgR ?_;refine wml (x1l s) ?_
 cases hy:symF s with
 | some u=>
  conv=>simp (maxSteps:=2000000) (disch:=omega) only [go_sem,Nat.reduceAdd,Nat.reduceSub,Nat.reduceMul,Int.reduceToNat,Nat.reduceEqDiff,Nat.reduceBEq,Nat.reduceBneDiff,Nat.reduceLT,Int.reduceEq,Int.reduceLT,Int.reduceLE,Int.reduceNeg,Int.reduceAdd,Int.reduceSub,Int.reduceMul,unO,Option.isSome]
  exact RLe.ofEq (by simp only [xle,hy];rfl)
 | none=>
  conv=>simp (maxSteps:=2000000) (disch:=omega) only [go_sem,Nat.reduceAdd,Nat.reduceSub,Nat.reduceMul,Int.reduceToNat,Nat.reduceEqDiff,Nat.reduceBEq,Nat.reduceBneDiff,Nat.reduceLT,Int.reduceEq,Int.reduceLT,Int.reduceLE,Int.reduceNeg,Int.reduceAdd,Int.reduceSub,Int.reduceMul,unO,Option.isSome]
  refine wml (zdz _) ?_;refine hg ?_;refine wml (x1l _) ?_
  cases hp:preF (yuk s 0) with
  | none=>
   cases hy2:symF (vp5 s 1)<;>
   . conv=>simp (maxSteps:=2000000) (disch:=omega) only [go_sem,Nat.reduceAdd,Nat.reduceSub,Nat.reduceMul,Int.reduceToNat,Nat.reduceEqDiff,Nat.reduceBEq,Nat.reduceBneDiff,Nat.reduceLT,Int.reduceEq,Int.reduceLT,Int.reduceLE,Int.reduceNeg,Int.reduceAdd,Int.reduceSub,Int.reduceMul,unO,Option.isSome]
     exact RLe.ofEq (by simp only [xle,hy,hp];rfl)
  | some p=>
   cases hy2:symF (vp5 s 1) with
   | none=>
    conv=>simp (maxSteps:=2000000) (disch:=omega) only [go_sem,Nat.reduceAdd,Nat.reduceSub,Nat.reduceMul,Int.reduceToNat,Nat.reduceEqDiff,Nat.reduceBEq,Nat.reduceBneDiff,Nat.reduceLT,Int.reduceEq,Int.reduceLT,Int.reduceLE,Int.reduceNeg,Int.reduceAdd,Int.reduceSub,Int.reduceMul,unO,Option.isSome]
    exact RLe.ofEq (by simp only [xle,hy,hp,hy2];rfl)
   | some u=>
    obtain ⟨_,hu1,_⟩:=xnl hy2;obtain ⟨hp1,hp2⟩:=y3p hp;obtain ⟨hf1,_⟩:=ysa hp1 hp2
    conv=>simp (maxSteps:=2000000) (disch:=omega) only [go_sem,Nat.reduceAdd,Nat.reduceSub,Nat.reduceMul,Int.reduceToNat,Nat.reduceEqDiff,Nat.reduceBEq,Nat.reduceBneDiff,Nat.reduceLT,Int.reduceEq,Int.reduceLT,Int.reduceLE,Int.reduceNeg,Int.reduceAdd,Int.reduceSub,Int.reduceMul,unO,Option.isSome,preO]
    repeat' ((first | refine hfk ?_ ?_<;>intros | refine hik ?_ | with_reducible first | refine wml (yvn _) ?_ | refine ysi (yvn _) ?_ | refine wml (qOf p.1 p.2 (by unfold inI;omega) (by unfold inI;omega) (by omega)) ?_ | refine ysi (qOf p.1 p.2 (by unfold inI;omega) (by unfold inI;omega) (by omega)) ?_ | refine wml (qMul _ _ (Nat.le_trans hu1 (by decide)) (Nat.le_trans hf1 (by decide))) ?_ | refine ysi (qMul _ _ (Nat.le_trans hu1 (by decide)) (Nat.le_trans hf1 (by decide))) ?_)<;>refine hgS ?_)
    all_goals rename_i hq
    all_goals exact RLe.ofEq (by simp only [xle,hy,hp,hy2,hq];rfl)
theorem x6q (a f:Rat) (x:Int) (hx:x.natAbs<=1000) (ha:qs a<=100000) (hf:qs f<=1000) (hf0:f≠0):CallsD Γ prog 139 [.agg (fQ a),.agg (fQ f),.one (cI x)] (.agg (fQ (vhc a f x))):=by
 refine CallsD.run [] Go.Proofs.Tryz.func139 rfl rfl rfl ?_;simp only [Go.Proofs.Tryz.f139];refine hgR ?_;refine x20 [2,3,4,6,10] (fun i:Nat=>[(11,.one (.dat (cI i)))]) (fun i=>[.box ((fQ (pw a f x i)).map .dat) (some 34),.box ((fQ f).map .dat) (some 34),.box [.dat (cI 0),.dat .zc,.dat (cI 0),.dat .zc] (some 34)]) (fun i=>i<=x.natAbs) (fun i=>x.natAbs-i) 0 (Nat.zero_le _) ?_ ?_
 . refine hg ?_;exact StH.same svl (by rw [w1n])
 intro i hi;have hq:=zcx a f x i;have hm:i*(qs f+1)<=1000*1001:=Nat.mul_le_mul (by omega) (by omega);refine hg ?_;refine vt2 (fun hlt _=>?_) (fun hlt _=>?_)
 . refine hg ?_;refine vt2 (fun hp hd=>?_) (fun hp hd=>?_)
   . refine hg ?_;refine wml (qMul (pw a f x i) f (by omega) (by omega)) ?_;refine hg ?_;exact ⟨i+1,by omega,by omega,StH.same svl (by rw [zn4 hp])⟩
   . refine hg ?_;refine wml (qDiv (pw a f x i) f hf0 (by omega) (by omega)) ?_;refine hg ?_;exact ⟨i+1,by omega,by omega,StH.same svl (by rw [zik hp])⟩
 . refine hg ?_
   have e:i=x.natAbs:=by omega
   subst e;exact RLe.ofEq rfl
theorem y8w (s:ByteArray) (hs:s.size<=1073741824):CallsD Γ prog 137 [.one (cS s)] (.tup [.one (.sl 2 ((itO (w5k s)).map It.C)),.one (cB (w5k s).isSome)]):=by
 have bad:∀ b,w5k s=none->b=false->RLe (.tup [.one (.raw (.slice none 0 0)),.one (cB b)]) (.tup [.one (.sl 2 ((itO (w5k s)).map It.C)),.one (cB (w5k s).isSome)]):=fun b h hb=>by
  rw [h,hb];exact .tup (.cons (.one (.nilSl 2)) (.cons (.refl _) .nil))
 refine CallsD.run [(9,[.join])] Go.Proofs.Tryz.func137 rfl rfl rfl ?_;simp only [Go.Proofs.Tryz.f137];refine hgR ?_
 repeat' ((first | refine hfk ?_ ?_<;>intros | refine hik ?_)<;>refine hgS ?_)
 . exact .tup (.cons (.one (by rename_i h;simp only [w5k,h];exact .nilSl 2)) (.cons (by rename_i h;simp only [w5k,h];exact .refl _) .nil))
 . refine bad _ (by simp only [w5k, *];rfl) rfl
 refine wml (y55 _ _ hs (by decide)) ?_;refine hgS ?_;refine wvz [2,3,4] (fun r:ByteArray=>[(5,.one (.dat (cS r)))]) (fun _=>[]) (fun r=>r=y7w s) ?_ ?_
 . refine hg ?_;refine zqy (fun h=>?_) (fun h=>?_)
   . refine hg ?_;refine ⟨_,rfl,?_⟩;simp only [y7w,h];exact StH.same svl rfl
   . refine hg ?_;refine ⟨_,rfl,?_⟩;simp only [y7w,h];exact StH.same svl rfl
 intro r0 hr0
 have h0:w5k s=zr7 (s.size+2) r0 []:=by simp only [w5k, *];rfl
 have hsz:r0.size<=s.size+1:=by
  rw [hr0];unfold y7w;have h42:(⟨#[42]⟩:ByteArray).size=1:=rfl
  cases y88 s ⟨#[49]⟩
  . simp only [cond_false,ByteArray.size_append];omega
  . simp only [cond_true,xu1];omega
 clear hr0;refine hg ?_;refine x20 [2,3] (fun p:Nat×ByteArray×List It=>[(4,.one (.sl 0 2 0 p.2.2.length)),(5,.one (.dat (cS p.2.1)))]) (fun p=>[.arr (.sl 2 (p.2.2.map It.C)) 0 (some 181)])
  (fun p=>p.2.1.size<p.1/\p.2.1.size<=1073741824/\p.2.2.length+p.2.1.size<=100/\zr7 p.1 p.2.1 p.2.2=w5k s) (fun p=>p.2.1.size) (s.size+2,r0,[]) ⟨by simp only;omega,by simp only;omega,by simp only [List.length_nil];omega,h0.symm⟩ ?_ ?_
 . refine hg ?_;refine StH.trans (StH.empty (d:=4) (es:=2) (c:=.sl 2 []) (T:=some 181) rfl rfl (fun r hr=>by cases hr) rfl) ?_;refine hg ?_;exact StH.same svl rfl
 rintro ⟨k,r,acc⟩ ⟨h1,h2,h3,h4⟩;simp only at h1 h2 h3 h4;clear h0 hsz;obtain ⟨k,rfl⟩:∃ m,k=m+1:=⟨k-1,by omega⟩;rw [zr7] at h4;refine hg ?_;refine vt2 (fun hne _=>?_) (fun he _=>?_)
 . have hne':=decide_eq_false hne;rw [hne',cond_false] at h4;have hd':=xu1 r 1;refine hg ?_;have hcs:=zhx (vp5 r 1);have hce:=xae (vp5 r 1);rw [hd'] at hcs;refine wml (cCut (vp5 r 1) (by rw [hd'];omega)) ?_;refine hg ?_
   have g1:(yu4 (vp5 r 1)).size<k:=by omega
   have g2:(yu4 (vp5 r 1)).size<=1073741824:=by omega
   have g3:∀ x:It,(acc++[x]).length+(yu4 (vp5 r 1)).size<=100:=fun x=>by rw [List.length_append,List.length_singleton];omega
   have g4:(yu4 (vp5 r 1)).size<r.size:=by omega
   have hmap:∀ x:It,acc.map It.C++[itC x]=(acc++[x]).map It.C:=fun x=>by simp;rfl
   repeat' ((first | refine hfk ?_ ?_<;>intros | refine hik ?_)<;>refine hgS ?_)
   . exact bad _ (by rw [<-h4];simp only [*];rfl) rfl
   . rename_i h47 _
     have h4':zr7 k (yu4 (vp5 r 1)) (acc++[⟨(wfb (vp5 r 1)).w,0-(wfb (vp5 r 1)).e⟩])=w5k s:=by
      rw [<-h4];simp only [*,xsw];rfl
     refine ⟨(k,yu4 (vp5 r 1),acc++[⟨(wfb (vp5 r 1)).w,0-(wfb (vp5 r 1)).e⟩]),?_,?_,?_⟩
     . dsimp only;exact ⟨g1,g2,g3 _,h4'⟩
     . dsimp only;exact g4
     rw [hmap ⟨(wfb (vp5 r 1)).w,0-(wfb (vp5 r 1)).e⟩];refine StH.back [2,3,4,5] 0 2 1 rfl rfl rfl rfl rfl (by kernel_rfl) ?_;refine hg ?_;exact StH.same svl rfl
   . exfalso;omega
   . exfalso;omega
   . have h4':zr7 k (yu4 (vp5 r 1)) (acc++[wfb (vp5 r 1)])=w5k s:=by
      rw [<-h4];simp only [*,xsw];rfl
     refine ⟨(k,yu4 (vp5 r 1),acc++[wfb (vp5 r 1)]),?_,?_,?_⟩
     . dsimp only;exact ⟨g1,g2,g3 _,h4'⟩
     . dsimp only;exact g4
     try rw [hmap (wfb (vp5 r 1))]
     refine StH.back [2,3,4,5] 0 2 1 rfl rfl rfl rfl rfl (by kernel_rfl) ?_;refine hg ?_;exact StH.same svl rfl
   . exact bad _ (by rw [<-h4];simp only [*];rfl) rfl
 . refine hg ?_;have he':decide (r.size=0)=true:=decide_eq_true (by omega);rw [he',cond_true] at h4;rw [<-h4];exact RLe.ofEq rfl
theorem zh1 (s:ByteArray) (hs:s.size<=1073741824):CallsD Γ prog 98 [.one (cS s)] (.tup [.agg (unO (xx7 s).1),.one (cI (xx7 s).2)]):=by
 refine CallsD.run [] Go.Proofs.Tryz.func98 rfl rfl rfl ?_;simp only [Go.Proofs.Tryz.f98];refine hgR ?_;refine wml (y8w s hs) ?_
 cases hi:w5k s with
 | none=>
  conv=>simp (maxSteps:=2000000) (disch:=omega) only [go_sem,Nat.reduceAdd,Nat.reduceSub,Nat.reduceMul,Int.reduceToNat,Nat.reduceEqDiff,Nat.reduceBEq,Nat.reduceBneDiff,Nat.reduceLT,Int.reduceEq,Int.reduceLT,Int.reduceLE,Int.reduceNeg,Int.reduceAdd,Int.reduceSub,Int.reduceMul,Option.isSome,itO]
  exact RLe.ofEq (by simp only [xx7,hi];rfl)
 | some l=>
  obtain ⟨hl,hx⟩:=v7b hi
  conv=>simp (maxSteps:=2000000) (disch:=omega) only [go_sem,Nat.reduceAdd,Nat.reduceSub,Nat.reduceMul,Int.reduceToNat,Nat.reduceEqDiff,Nat.reduceBEq,Nat.reduceBneDiff,Nat.reduceLT,Int.reduceEq,Int.reduceLT,Int.reduceLE,Int.reduceNeg,Int.reduceAdd,Int.reduceSub,Int.reduceMul,Option.isSome,itO]
  refine wml (qInt 1 (by decide)) ?_;refine hg ?_;refine x20 [2,6,23,24] (fun p:Nat×Un=>[(25,.one (.dat (cI p.1)))]) (fun p=>[.box (unZ.map .dat) (some 142),.box ((unC p.2).map .dat) (some 142)])
   (fun p=>p.1<=l.length/\p.2.d.le (27*p.1)/\qs p.2.f<=1+100*p.1/\xx0 (l.drop p.1) p.2=xx0 l ⟨Dm.zero,(1:Int)⟩) (fun p=>l.length-p.1) (0,⟨Dm.zero,(1:Int)⟩) ⟨Nat.zero_le _,by unfold Dm.le;decide,vvm,rfl⟩ ?_ ?_
  . refine hg ?_;exact StH.same svl rfl
  rintro ⟨i,u⟩ ⟨h1,h2,h3,h4⟩;simp only at h1 h2 h3 h4;refine hg ?_;refine vt2 (fun hlt _=>?_) (fun hlt _=>?_)
  . have hlt':i<l.length:=by omega
    have hok:=hx _ (y7p hlt');rw [xfc hlt',xx0] at h4;refine hg ?_;refine wml (yvj _ (by have:=hok.2.1;omega) hok.1) ?_
    cases hw:xle (l.getD i default).w with
    | none=>
     conv=>simp (maxSteps:=2000000) (disch:=omega) only [go_sem,Nat.reduceAdd,Nat.reduceSub,Nat.reduceMul,Int.reduceToNat,Nat.reduceEqDiff,Nat.reduceBEq,Nat.reduceBneDiff,Nat.reduceLT,Int.reduceEq,Int.reduceLT,Int.reduceLE,Int.reduceNeg,Int.reduceAdd,Int.reduceSub,Int.reduceMul,Option.isSome,unO]
     rw [hw] at h4;exact RLe.ofEq (by simp only [xx7,hi,<-h4])
    | some v=>
     obtain ⟨hv1,hv2,hv3⟩:=xid hw;rw [hw] at h4;obtain ⟨b1,b2,b3,b4,b5,b6⟩:=h2;obtain ⟨d1,d2,d3,d4,d5,d6⟩:=hv1;have he:=hok.2.2;have c1:=xs8 d1 he;have c2:=xs8 d2 he;have c3:=xs8 d3 he;have c4:=xs8 d4 he;have c5:=xs8 d5 he;have c6:=xs8 d6 he
     have hq:qs (vhc u.f v.f (l.getD i default).e)<=qs u.f+9*(qs v.f+1):=by
      have:=zcx u.f v.f (l.getD i default).e (l.getD i default).e.natAbs
      rw [<-zvw] at this;have h9:(l.getD i default).e.natAbs*(qs v.f+1)<=9*(qs v.f+1):=Nat.mul_le_mul_right _ (by omega);omega
     have hle:(u.d.acc v.d (l.getD i default).e).le (27*(i+1:Nat)):=by
      have:=Dm.z2x (x:=u.d) ⟨b1,b2,b3,b4,b5,b6⟩ ⟨d1,d2,d3,d4,d5,d6⟩ he
      rw [show (27*((i+1:Nat):Int))=27*i+27 from by omega];exact this
     conv=>simp (maxSteps:=2000000) (disch:=omega) only [go_sem,Nat.reduceAdd,Nat.reduceSub,Nat.reduceMul,Int.reduceToNat,Nat.reduceEqDiff,Nat.reduceBEq,Nat.reduceBneDiff,Nat.reduceLT,Int.reduceEq,Int.reduceLT,Int.reduceLE,Int.reduceNeg,Int.reduceAdd,Int.reduceSub,Int.reduceMul,Option.isSome,unO]
     repeat' ((first | refine hfk ?_ ?_<;>intros | refine hik ?_ | with_reducible refine v6k ?_ | with_reducible refine yp8 ?_ | with_reducible first | refine wml (x6q u.f v.f (l.getD i default).e (by omega) (by omega) (by omega) hv3) ?_ | refine ysi (x6q u.f v.f (l.getD i default).e (by omega) (by omega) (by omega) hv3) ?_)<;>refine hgS ?_)
     refine ⟨(i+1,⟨u.d.acc v.d (l.getD i default).e,vhc u.f v.f (l.getD i default).e⟩),?_,?_,?_⟩
     . dsimp only;exact ⟨by omega,hle,by omega,h4⟩
     . dsimp only;omega
     refine StH.back [2,6,23,24,25] 2 2 2 rfl rfl rfl rfl rfl (by kernel_rfl) ?_;refine hg ?_;exact StH.same svl rfl
  . have h4':xx0 l ⟨Dm.zero,(1:Int)⟩=some u:=by rw [<-h4,List.drop_eq_nil_of_le (by omega)];rfl
    refine hg ?_
    repeat' ((first | refine hfk ?_ ?_<;>intros | refine hik ?_ | with_reducible first | refine wml (wuc _) ?_ | refine ysi (wuc _) ?_)<;>refine hgS ?_)
    all_goals
     rename_i hd;exact RLe.ofEq (by simp only [xx7,hi,h4',hd];rfl)
end Go.Hp.T
