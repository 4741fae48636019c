/- The proof, part R31: Fd, Ig, Nd. -/
import Derived.Test.YtmegdbbbllffkaaGreatDoorR26
import Derived.Test.YtmegdbbbllffkaaGreatDoorR30
import Derived.Test.YtmegdbbbllffkaaGreatDoorR27
namespace Go.Hp.T
open Go Go.RowKit Go.Slot Go.Hp Go.Slot.T
open Go.Proofs.Tryz (prog)
set_option maxRecDepth 10000
set_option maxHeartbeats 4000000
variable {Γ:List (Nat×List Cell)}
abbrev zC (z:Int):List Cell:=[.raw (.int .i64 (sg z)),.ints .i64 (dig z.natAbs)]
theorem y67 (z:Int) (d:Nat) (hz:okZ z) (hd:d≠0) (hl:(dig d).length<=268435456):CallsD Γ prog 43 [.agg (zC z),.agg (zC d)] (.tup [.agg (Fc.of (Rat.divInt z d)).C,.one (cI 0)]):=by
 have:=toD (Γ:=Γ) (xph z d hz hd hl)
 rw [Rat.divInt_ofNat];unfold zC;rw [wwm hd];exact this
theorem wfo (z:Int) (d:Nat) (hz:okZ z) (hd:d≠0) (hl:(dig d).length<=268435456):CallsD Γ prog 43 [.agg (zC z),.agg (zC (-(d:Int)))] (.tup [.agg (Fc.of (Rat.divInt z (-(d:Int)))).C,.one (cI 0)]):=by
 have hdd:okZ (-(d:Int)):=by unfold okZ;rw [show (-(d:Int)).natAbs=d by omega];exact hl
 have hzz:okZ (-z):=by unfold okZ at hz ⊢;rw [Int.natAbs_neg];exact hz
 have hdz:okZ (d:Int):=hl;have hs:sg (-(d:Int)) = -1:=xxz (by omega);have hgp:0<(Int.gcd (-z) d:Int):=(zr2 (-z) hd).2.2;obtain ⟨p1,p2,p3⟩:=zr2 (-z) hd;have hden:=w2p (mkRat (-z) d);rw [p2] at hden
 have hgl:okZ (Int.gcd (-z) d:Int):=by
  have:(Int.gcd (-z) d:Int).natAbs<=d:=by
   have:Int.gcd (-z) d ∣ d:=by have:=Int.gcd_dvd_natAbs_right (-z) d;simpa using this
   exact Nat.le_of_dvd (Nat.pos_of_ne_zero hd) this
  exact Nat.le_trans (wxv this) hl
 have hn1:=yvd z hz;have hn2:=yvd (-(d:Int)) hdd;rw [Int.neg_neg,hs,wwm hd] at hn2;have hr:=zcq (-(d:Int)) hdd;rw [hs] at hr;have hg:=xuv (-z) d hzz hdz;have hd1:=vjt (-z) (Int.gcd (-z) d:Int) hzz hgl hgp;have hd2:=vjt d (Int.gcd (-z) d:Int) hdz hgl hgp;rw [wwm hd] at hg hd2;rw [hden] at hd2
 have hden2:(mkRat (-z) d).den=((d:Int) / (Int.gcd (-z) d:Int)).natAbs:=by omega
 have hfin:(Fc.of (Rat.divInt z (-(d:Int)))).C=[.raw (.int .i64 (sg (-z / (Int.gcd (-z) d:Int)))),.ints .i64 (dig (-z / (Int.gcd (-z) d:Int)).natAbs),.raw (.int .i64 1),.ints .i64 (dig ((d:Int) / (Int.gcd (-z) d:Int)).natAbs)]:=by
  rw [Rat.divInt_neg',Rat.divInt_ofNat,<-p1,<-hden2];rfl
 rw [hfin];generalize (Int.gcd (-z) d:Int)=g at *;unfold zC;rw [hs];refine CallsD.run [] Go.Proofs.Tryz.func43 rfl rfl rfl ?_;simp only [Go.Proofs.Tryz.f43];refine hgR ?_
 repeat' ((first | refine hfk ?_ ?_<;>intros | refine hik ?_ | with_reducible first | refine v6l (toD (zcq z hz)) ?_ | refine vgi (toD (zcq z hz)) ?_ | refine v6l (toD hr) ?_ | refine vgi (toD hr) ?_ | refine v6l (toD hn1) ?_ | refine vgi (toD hn1) ?_ | refine v6l (toD hn2) ?_ | refine vgi (toD hn2) ?_ | refine v6l (toD hg) ?_ | refine vgi (toD hg) ?_ | refine v6l (toD hd1) ?_ | refine vgi (toD hd1) ?_ | refine v6l (toD hd2) ?_ | refine vgi (toD hd2) ?_)<;>refine hgS ?_)
 exact RLe.ofEq rfl
theorem yy9 (z q:Int) (hz:okZ z) (hq:q≠0) (hl:okZ q):CallsD Γ prog 43 [.agg (zC z),.agg (zC q)] (.tup [.agg (Fc.of (Rat.divInt z q)).C,.one (cI 0)]):=by
 unfold okZ at hl
 rcases Int.lt_or_gt_of_ne hq with h | h
 . have e:q = -((q.natAbs:Nat):Int):=by omega
   have:=wfo (Γ:=Γ) z q.natAbs hz (by omega) hl
   rw [<-e] at this;exact this
 . have e:((q.natAbs:Nat):Int)=q:=by omega
   have:=y67 (Γ:=Γ) z q.natAbs hz (by omega) hl
   rw [e] at this;exact this
theorem zl0 (p q:Int) (hp:inI p) (hq:inI q) (hq0:q≠0):CallsD Γ prog 87 [.one (cI p),.one (cI q)] (.tup [.agg (Fc.of (Rat.divInt p q)).C,.one (cI 0)]):=by
 have okI:∀ n:Int,inI n->okZ n:=fun n hn=>by
  unfold okZ
  have:=vun (n:=n.natAbs) (by unfold inI at hn;omega)
  omega
 refine CallsD.run [] Go.Proofs.Tryz.func87 rfl rfl rfl ?_;simp only [Go.Proofs.Tryz.f87];refine hgR ?_
 repeat' ((first | refine hfk ?_ ?_<;>intros | refine hik ?_ | with_reducible first | refine v6l (toD (cOf p hp)) ?_ | refine vgi (toD (cOf p hp)) ?_ | refine v6l (toD (cOf q hq)) ?_ | refine vgi (toD (cOf q hq)) ?_ | refine v6l (yy9 p q (okI p hp) hq0 (okI q hq)) ?_ | refine vgi (yy9 p q (okI p hp) hq0 (okI q hq)) ?_)<;>refine hgS ?_)
 exact RLe.ofEq rfl
theorem zgz (x y:Rat):x / y=Rat.divInt (x.num*y.den) (x.den*y.num):=by
 rw [Rat.div_def,Rat.inv_def]
 conv=>lhs;rw [<-Rat.num_divInt_den x]
 rw [Rat.divInt_mul_divInt]
abbrev fQ (x:Rat):List Cell:=[.raw (.int .i64 (sg x.num)),.ints .i64 (dig x.num.natAbs),.raw (.int .i64 1),.ints .i64 (dig x.den)]
abbrev qs (x:Rat):Nat:=(Fc.of x).sz
theorem xib (x:Rat) (h:qs x<=268435456):CallsD Γ prog 26 [.agg (fQ x)] (.one (cB true)):=toD (w4o x h)
theorem qMul (x y:Rat) (hx:qs x<=67108864) (hy:qs y<=67108864):CallsD Γ prog 16 [.agg (fQ x),.agg (fQ y)] (.tup [.agg (fQ (x*y)),.one (cI 0)]):=by
 have:=toD (Γ:=Γ) (xxk (Fc.of x) (Fc.of y) hx hy)
 rw [Fc.ymd,Fc.v2c ⟨Fc.zav x,Fc.zav y⟩] at this;exact this
theorem qInt (n:Int) (hn:inI n):CallsD Γ prog 39 [.one (cI n)] (.agg (fQ (n:Rat))):=toD (x4e n hn)
theorem qOf (p q:Int) (hp:inI p) (hq:inI q) (hq0:q≠0):CallsD Γ prog 87 [.one (cI p),.one (cI q)] (.tup [.agg (fQ (Rat.divInt p q)),.one (cI 0)]):=zl0 p q hp hq hq0
theorem qDiv (x y:Rat) (hy:y≠0) (hx:qs x<=67108864) (hyl:qs y<=67108864):CallsD Γ prog 88 [.agg (fQ x),.agg (fQ y)] (.tup [.agg (fQ (x / y)),.one (cI 0)]):=by
 have lx:=szO hx;have ly:=szO hyl;have l1:=wm8 x.num y.den;have l4:=wm8 (x.den:Int) y.num
 have hyn:y.num≠0:=fun h=>hy (Rat.num_eq_zero.1 h)
 have hsy:sg y.num≠0:=by have:=wzq y.num;omega
 have hD:okZ (x.den:Int):=by unfold okZ;have:=lx.2;simp only [Int.natAbs_natCast];omega
 have hDy:okZ (y.den:Int):=by unfold okZ;have:=ly.2;simp only [Int.natAbs_natCast];omega
 have t1:=xhe x.num y.den (by unfold okZ;omega) hDy;have t2:=xhe (x.den:Int) y.num hD (by unfold okZ;omega);rw [wwm y.den_nz] at t1;rw [wwm x.den_nz] at t2;simp only [Int.natAbs_natCast] at t1 t2;have hden:((x.den:Int)*y.num)≠0:=Int.mul_ne_zero (by have:=x.den_nz;omega) hyn;have hn:=yy9 (Γ:=Γ) (x.num*y.den) (x.den*y.num) (by unfold okZ;simp only [Int.natAbs_natCast] at l1;omega) hden (by unfold okZ;simp only [Int.natAbs_natCast] at l4;omega);rw [zgz];refine CallsD.run [] Go.Proofs.Tryz.func88 rfl rfl rfl ?_;simp only [Go.Proofs.Tryz.f88];refine hgR ?_
 repeat' ((first | refine hfk ?_ ?_<;>intros | refine hik ?_ | with_reducible first | refine v6l (xib x (by omega)) ?_ | refine vgi (xib x (by omega)) ?_ | refine v6l (xib y (by omega)) ?_ | refine vgi (xib y (by omega)) ?_ | refine v6l (toD t1) ?_ | refine vgi (toD t1) ?_ | refine v6l (toD t2) ?_ | refine vgi (toD t2) ?_ | refine v6l (hn) ?_ | refine vgi (hn) ?_)<;>refine hgS ?_)
 exact RLe.ofEq rfl
end Go.Hp.T
namespace Go.Hp.T
open Go Go.RowKit Go.Slot Go.Hp
set_option maxRecDepth 10000
variable {q b e x:Int} {a f:Rat}
structure Un where
 d:Dm
 f:Rat
abbrev unC (u:Un):List Cell:=[cI u.d.a,cI u.d.b,cI u.d.c,cI u.d.d,cI u.d.e,cI u.d.f,.raw (.int .i64 (sg u.f.num)),.ints .i64 (dig u.f.num.natAbs),.raw (.int .i64 1),.ints .i64 (dig u.f.den)]
abbrev unZ:List Cell:=[cI 0,cI 0,cI 0,cI 0,cI 0,cI 0,cI 0,.zc,cI 0,.zc]
def unO:Option Un->List Cell
 | some u=>unC u
 | none=>unZ
def xkq (b e:Int):Dm:=⟨bif decide (b=0) then e else 0,bif decide (b=1) then e else 0,bif decide (b=2) then e else 0,bif decide (b=3) then e else 0,bif decide (b=4) then e else 0,bif decide (b=5) then e else 0⟩
def unOf (b e p q:Int):Un:=⟨xkq b e,Rat.divInt p q⟩
def symF (s:ByteArray):Option Un:=
 bif seq s ⟨#[103]⟩ then some (unOf 0 1 1 1) else
 bif seq s ⟨#[116]⟩ then some (unOf 0 1 1000000 1) else
 bif seq s ⟨#[109]⟩ then some (unOf 1 1 1 1) else
 bif seq s ⟨#[108]⟩ then some (unOf 1 3 1 1000) else
 bif seq s ⟨#[115]⟩ then some (unOf 2 1 1 1) else
 bif seq s ⟨#[104]⟩ then some (unOf 2 1 3600 1) else
 bif seq s ⟨#[100]⟩ then some (unOf 2 1 86400 1) else
 bif seq s ⟨#[74]⟩ then some (unOf 3 1 1 1) else
 bif seq s ⟨#[87,104]⟩ then some (unOf 3 1 3600 1) else
 bif seq s ⟨#[99,101,110,116]⟩ then some (unOf 4 1 1 1) else
 bif seq s ⟨#[101,117,114]⟩ then some (unOf 4 1 100 1) else
 bif seq s ⟨#[112,99]⟩ then some (unOf 5 1 1 1) else none
def wcu (s:ByteArray) (i:Nat):ByteArray:=s.extract i s.size
def zt0 (s:ByteArray) (i:Nat):ByteArray:=s.extract 0 i
def preF (c:Int):Option (Int×Int):=bif decide (c=107) then some (1000,1) else bif decide (c=77) then some (1000000,1) else bif decide (c=71) then some (1000000000,1) else bif decide (c=109) then some (1,1000) else none
def preO:Option (Int×Int)->Int×Int
 | some p=>p
 | none=>(0,0)
def wem (s:ByteArray):Bool:=seq s ⟨#[103]⟩||seq s ⟨#[109]⟩||seq s ⟨#[108]⟩||seq s ⟨#[115]⟩||seq s ⟨#[74]⟩||seq s ⟨#[87,104]⟩
theorem yxt (s:ByteArray) (i:Nat):(wcu s i).size=s.size-i:=by unfold wcu;simp
theorem v1j (s:ByteArray) (i:Nat) (h:i<=s.size):(zt0 s i).size=i:=by unfold zt0;simp;omega
structure It where
 w:ByteArray
 e:Int
instance:Inhabited It:=⟨⟨⟨#[]⟩,0⟩⟩
def It.C (x:It):List Cell:=[cS x.w,cI x.e]
abbrev itC (x:It):List Cell:=[cS x.w,cI x.e]
theorem It.C_eq (x:It):x.C=itC x:=rfl
attribute [go_sem] It.C_eq
def y6h (s:ByteArray):ByteArray:=wcu s (z1a yio s)
def x6x (s:ByteArray):Bool:=decide (¬(y6h s).size=0)&&decide (50<=x41 (y6h s) 0)&&decide (x41 (y6h s) 0<=57)
def vl9 (s:ByteArray):It:=⟨zt0 s (z1a yio s),bif x6x s then x41 (y6h s) 0-48 else 1⟩
def x9p (s:ByteArray):ByteArray:=bif x6x s then wcu (y6h s) 1 else y6h s
def zr8 (s:ByteArray):Bool:=decide (0<(z1a yio s:Int))
def ykz (s:ByteArray):Option Un:=
 bif (symF s).isSome then symF s else
 bif !(preF (x41 s 0)).isSome||!(symF (wcu s 1)).isSome||!wem (wcu s 1) then none else
 match preF (x41 s 0),symF (wcu s 1) with
 | some p,some u=>some ⟨u.d,u.f*Rat.divInt p.1 p.2⟩
 | _,_=>none
def iter {α:Type} (g:α->α):Nat->α->α
 | 0,a=>a
 | n+1,a=>iter g n (g a)
theorem xp7 {α:Type} (g:α->α):∀(n:Nat) (a:α),iter g (n+1) a=g (iter g n a)
 | 0,_=>rfl
 | n+1,a=>by rw [iter,xp7 g n (g a),iter]
def ymb (a f:Rat) (e:Int):Rat:=bif decide (0<e) then iter (· * f) e.natAbs a else iter (· / f) e.natAbs a
theorem yfd (x y:Rat):qs (x*y)<=qs x+qs y:=Fc.zxl x y
theorem z7q (x:Rat):qs x⁻¹<=qs x+1:=by
 by_cases h:x=0
 . subst h;rw [Rat.inv_zero];exact Nat.le_succ _
 . show (Fc.of x⁻¹).sz<=(Fc.of x).sz+1
   have hn:x.num≠0:=fun e=>h (Rat.num_eq_zero.1 e)
   rw [Fc.xx5,Fc.xx5,Rat.num_inv,Rat.den_inv,if_neg hn]
   have:(x.num.sign*(x.den:Int)).natAbs=x.den:=by
    rw [Int.natAbs_mul,Int.natAbs_sign];simp [hn]
   rw [this];omega
theorem x3w (x y:Rat):qs (x / y)<=qs x+qs y+1:=by
 rw [Rat.div_def]
 have:=yfd x y⁻¹
 have:=z7q y
 omega
def Dm.in03 (d:Dm):Prop:=(0<=d.a/\d.a<=3)/\(0<=d.b/\d.b<=3)/\(0<=d.c/\d.c<=3)/\(0<=d.d/\d.d<=3)/\(0<=d.e/\d.e<=3)/\(0<=d.f/\d.f<=3)
theorem x8s {p:Int} (hp:1<=p/\p<=1000000000) (hq:1<=q/\q<=1000000000):qs (Rat.divInt p q)<=4/\Rat.divInt p q≠0:=by
 obtain ⟨n,rfl⟩:∃ n:Nat,q=n:=⟨q.toNat,by omega⟩;rw [Rat.divInt_ofNat];refine ⟨?_,(Rat.mkRat_ne_zero (by omega)).2 (by omega)⟩
 have:=Fc.x60 p n (by omega)
 have h1:=Slot.T.vun (n:=p.natAbs) (by omega);have h2:=Slot.T.vun (n:=n) (by omega);show (Fc.of _).sz<=4;omega
theorem vgb (he:0<=e/\e<=3):(xkq b e).in03:=by
 have key:∀ p:Bool,0<=(bif p then e else 0)/\(bif p then e else 0)<=3:=fun p=>by cases p<;>simp<;>omega
 exact ⟨key _,key _,key _,key _,key _,key _⟩
theorem zd3 {p:Int} (he:0<=e/\e<=3) (hp:1<=p/\p<=1000000000) (hq:1<=q/\q<=1000000000):(unOf b e p q).d.in03/\qs (unOf b e p q).f<=4/\(unOf b e p q).f≠0:=⟨vgb he,x8s hp hq⟩
theorem xhk {s:ByteArray} {u:Un} (h:symF s=some u):u.d.in03/\qs u.f<=4/\u.f≠0:=by
 unfold symF at h
 repeat' first
  | (cases h;exact zd3 (by omega) (by omega) (by omega))
  | (cases hc:seq s _<;>rw [hc] at h<;>simp only [cond_true,cond_false] at h)
 cases h
theorem zz1 {c:Int} {p:Int×Int} (h:preF c=some p):(1<=p.1/\p.1<=1000000000)/\(1<=p.2/\p.2<=1000000000):=by
 unfold preF at h
 repeat' first
  | (cases h;done)
  | (cases h;simp;done)
  | (cases hc:decide (c=_)<;>rw [hc] at h<;>simp only [cond_true,cond_false] at h)
theorem xk3 {s:ByteArray} {u:Un} (h:ykz s=some u):u.d.in03/\qs u.f<=8/\u.f≠0:=by
 unfold ykz at h
 cases h1:(symF s).isSome with
 | true=>
  rw [h1,cond_true] at h;obtain ⟨a,b,c⟩:=xhk h;exact ⟨a,by omega,c⟩
 | false=>
  rw [h1,cond_false] at h
  cases h2:(!(preF (x41 s 0)).isSome||!(symF (wcu s 1)).isSome||!wem (wcu s 1)) with
  | true=>rw [h2,cond_true] at h;cases h
  | false=>
   rw [h2,cond_false] at h;split at h
   . rename_i p v hp hv
     cases h;obtain ⟨a,b,c⟩:=xhk hv;obtain ⟨d,e⟩:=zz1 hp;obtain ⟨f,g⟩:=x8s d e;refine ⟨a,?_,?_⟩
     . have:=yfd v.f (Rat.divInt p.1 p.2)
       show qs (v.f*_)<=8;omega
     . exact fun h0=>by
        rcases Rat.mul_eq_zero.1 h0 with h0 | h0
        . exact c h0
        . exact g h0
   . cases h
def pw (a f:Rat) (x:Int) (i:Nat):Rat:=bif decide (0<x) then iter (· * f) i a else iter (· / f) i a
theorem wuy (a f:Rat) (x:Int):pw a f x 0=a:=by unfold pw;cases decide (0<x)<;>rfl
theorem xg5 (h:0<x) (i:Nat):pw a f x (i+1)=pw a f x i*f:=by unfold pw;rw [decide_eq_true h];exact xp7 _ _ _
theorem zqi (h:¬0<x) (i:Nat):pw a f x (i+1)=pw a f x i / f:=by unfold pw;rw [decide_eq_false h];exact xp7 _ _ _
theorem zki (a f:Rat) (x:Int):∀ i,qs (pw a f x i)<=qs a+i*(qs f+1)
 | 0=>by rw [wuy];omega
 | i+1=>by
  have ih:=zki a f x i;rw [Nat.add_mul,Nat.one_mul];by_cases h:0<x
  . rw [xg5 h]
    have:=yfd (pw a f x i) f
    omega
  . rw [zqi h]
    have:=x3w (pw a f x i) f
    omega
theorem xbq (a f:Rat) (x:Int):ymb a f x=pw a f x x.natAbs:=rfl
theorem z0m (s:ByteArray):1<=(vl9 s).e/\(vl9 s).e<=9:=by
 unfold vl9
 cases h:x6x s with
 | false=>simp
 | true=>
  simp only [x6x,Bool.and_eq_true,decide_eq_true_eq] at h;simp only [cond_true];omega
theorem x87 (s:ByteArray):(x9p s).size<=s.size:=by
 unfold x9p y6h
 cases x6x s<;>simp only [cond_true,cond_false,yxt]<;>omega
def y5c (c:Int) (x:It):It:=bif decide (c=47) then ⟨x.w,0-x.e⟩ else x
def vhb (s p:ByteArray):Bool:=decide ((p.size:Int)<=s.size)&&seq (zt0 s p.size) p
def ztm (s:ByteArray):ByteArray:=bif vhb s ⟨#[49]⟩ then wcu s 1 else ⟨#[42]⟩++s
def ymw:Nat->ByteArray->List It->Option (List It)
 | 0,_,_=>none
 | n+1,r,acc=>bif decide (r.size=0) then some acc else
  bif !zr8 (wcu r 1)||(decide (¬x41 r 0=42)&&decide (¬x41 r 0=47)) then none else
  ymw n (x9p (wcu r 1)) (acc++[y5c (x41 r 0) (vl9 (wcu r 1))])
def vhi (s:ByteArray):Option (List It):=bif decide (s.size=0) then some [] else bif decide (40<(s.size:Int)) then none else ymw (s.size+2) (ztm s) []
def itO:Option (List It)->List It
 | some l=>l
 | none=>[]
def It.ok (x:It):Prop:=1<=x.w.size/\x.w.size<=1000/\-9<=x.e/\x.e<=9
theorem y7h {r:ByteArray} (h:zr8 r=true) (hr:r.size<=1000) (c:Int):(y5c c (vl9 r)).ok:=by
 have he:=z0m r;have hw:(vl9 r).w.size=z1a yio r:=v1j _ _ (wtz _ _);have hl:=wtz yio r
 have h0:1<=z1a yio r:=by
  have:(0:Int)<(z1a yio r:Int):=by simpa [zr8] using h
  omega
 unfold y5c
 cases decide (c=47)
 . exact ⟨by simp only [cond_false];omega,by simp only [cond_false];omega,by simp only [cond_false];omega,by simp only [cond_false];omega⟩
 . exact ⟨by simp only [cond_true];omega,by simp only [cond_true];omega,by simp only [cond_true];omega,by simp only [cond_true];omega⟩
theorem yev : ∀ (n : Nat) (r : ByteArray) (acc l : List It), ymw n r acc = some l → r.size ≤ 1000 → (∀ x ∈ acc, x.ok) → l.length ≤ acc.length + r.size ∧ ∀ x ∈ l, x.ok
 | 0,_,_,_,h,_,_=>by cases h
 | n + 1, r, acc, l, h, hr, ha => by
  rw [ymw] at h;by_cases h0:r.size=0
  . rw [decide_eq_true h0,cond_true] at h;cases h;exact ⟨by omega,ha⟩
  . rw [decide_eq_false h0, cond_false] at h
    cases hb:(!zr8 (wcu r 1)||(decide (¬x41 r 0=42)&&decide (¬x41 r 0=47))) with
    | true=>rw [hb,cond_true] at h;cases h
    | false=>
     rw [hb,cond_false] at h
     have hok:zr8 (wcu r 1)=true:=by
      cases hc:zr8 (wcu r 1) with
      | true=>rfl
      | false=>rw [hc] at hb;simp at hb
     have hd:=yxt r 1;have hcs:=x87 (wcu r 1)
     obtain ⟨h1,h2⟩:=yev n _ _ _ h (by omega) (fun x hx=>by
      rcases List.mem_append.1 hx with hx | hx
      . exact ha x hx
      . simp at hx;subst hx;exact y7h hok (by omega) _)
     refine ⟨?_,h2⟩;rw [List.length_append,List.length_singleton] at h1;omega
theorem yqi {s : ByteArray} {l : List It} (h : vhi s = some l) : l.length ≤ 41 ∧ ∀ x ∈ l, x.ok := by
 unfold vhi at h;by_cases h0:s.size=0
 . rw [decide_eq_true h0,cond_true] at h;cases h;simp
 . rw [decide_eq_false h0, cond_false] at h;by_cases h1:40<(s.size:Int)
   . rw [decide_eq_true h1,cond_true] at h;cases h
   . rw [decide_eq_false h1,cond_false] at h
     have hsz:(ztm s).size<=s.size+1:=by
      unfold ztm;have h42:(⟨#[42]⟩:ByteArray).size=1:=rfl
      cases vhb s ⟨#[49]⟩
      . simp only [cond_false,ByteArray.size_append];omega
      . simp only [cond_true,yxt];omega
     obtain ⟨a,b⟩:=yev _ _ _ _ h (by omega) (fun x hx=>by cases hx);exact ⟨by simp at a;omega,b⟩
def Dm.acc (x y:Dm) (e:Int):Dm:=⟨x.a+y.a*e,x.b+y.b*e,x.c+y.c*e,x.d+y.d*e,x.e+y.e*e,x.f+y.f*e⟩
def wf3:List It->Un->Option Un
 | [],u=>some u
 | x::l,u=>match ykz x.w with
  | none=>none
  | some v=>wf3 l ⟨u.d.acc v.d x.e,ymb u.f v.f x.e⟩
def zth (s:ByteArray):Option Un×Int:=match vhi s with
 | none=>(none,12)
 | some l=>match wf3 l ⟨Dm.zero,(1:Int)⟩ with
  | none=>(none,11)
  | some u=>bif zmf u.d then (some u,0) else (none,3)
def Dm.le (d:Dm) (n:Int):Prop:=(-n<=d.a/\d.a<=n)/\(-n<=d.b/\d.b<=n)/\(-n<=d.c/\d.c<=n)/\(-n<=d.d/\d.d<=n)/\(-n<=d.e/\d.e<=n)/\(-n<=d.f/\d.f<=n)
theorem yos {a:Int} (ha:0<=a/\a<=3) (he:-9<=e/\e<=9):-27<=a*e/\a*e<=27:=by
 have:a=0\/a=1\/a=2\/a=3:=by omega
 rcases this with rfl | rfl | rfl | rfl<;>omega
theorem Dm.v1r {x y:Dm} {n:Int} (hx:x.le n) (hy:y.in03) (he:-9<=e/\e<=9):(x.acc y e).le (n+27):=by
 obtain ⟨a1,a2,a3,a4,a5,a6⟩:=hx;obtain ⟨b1,b2,b3,b4,b5,b6⟩:=hy;have c1:=yos b1 he;have c2:=yos b2 he;have c3:=yos b3 he;have c4:=yos b4 he;have c5:=yos b5 he;have c6:=yos b6 he;unfold Dm.le Dm.acc;simp only;omega
theorem zn6:qs ((1:Int):Rat)<=1:=by
 show max (dig (1:Nat)).length (dig (1:Nat)).length<=1
 have:=vwv (n:=1) (k:=1) (by decide)
 omega
def dmO:Option Un->Dm
 | some u=>u.d
 | none=>Dm.zero
def fcO (i:Nat):Option Un->Cell
 | some u=>(fQ u.f).getD i .zc
 | none=>[cI 0,.zc,cI 0,.zc].getD i .zc
abbrev unX (o:Option Un):List Cell:=[cI (dmO o).a,cI (dmO o).b,cI (dmO o).c,cI (dmO o).d,cI (dmO o).e,cI (dmO o).f,fcO 0 o,fcO 1 o,fcO 2 o,fcO 3 o]
theorem vtx (o:Option Un):unO o=unX o:=by cases o<;>rfl
end Go.Hp.T
namespace Go.Hp.T
open Go Go.RowKit Go.Slot Go.Hp Go.Slot.T
open Go.Proofs.Tryz (prog)
set_option maxRecDepth 10000
set_option maxHeartbeats 4000000
variable {Γ:List (Nat×List Cell)}
theorem wte (c:Int):CallsD Γ prog 136 [.one (c8 c)] (.one (cB (yio c))):=by
 refine CallsD.run [] Go.Proofs.Tryz.func136 rfl rfl rfl ?_;simp only [Go.Proofs.Tryz.f136];refine hgR ?_
 repeat' ((first | refine hfk ?_ ?_<;>intros | refine hik ?_)<;>refine hgS ?_)
 all_goals refine lf1 @yio.eq_def ?_;first | exact trivial | rfl
theorem y7z (b e p q:Int) (hb:b=0\/b=1\/b=2\/b=3\/b=4\/b=5) (hp:inI p) (hq:inI q) (hq0:q≠0):CallsD Γ prog 137 [.one (cI b),.one (cI e),.one (cI p),.one (cI q)] (.agg (unC (unOf b e p q))):=by
 rcases hb with rfl | rfl | rfl | rfl | rfl | rfl
 all_goals
  refine CallsD.run [] Go.Proofs.Tryz.func137 rfl rfl rfl ?_;simp only [Go.Proofs.Tryz.f137];refine hgR ?_
  repeat' ((first | refine hfk ?_ ?_<;>intros | refine hik ?_ | with_reducible first | refine v6l (qOf p q hp hq hq0) ?_ | refine vgi (qOf p q hp hq hq0) ?_)<;>refine hgS ?_)
  exact RLe.ofEq rfl
theorem vq6 (s:ByteArray):CallsD Γ prog 84 [.one (cS s)] (.tup [.agg (unO (symF s)),.one (cB (symF s).isSome)]):=by
 have h1:=y7z (Γ:=Γ) 0 1 1 1 (by decide) (by decide) (by decide) (by decide);have h2:=y7z (Γ:=Γ) 0 1 1000000 1 (by decide) (by decide) (by decide) (by decide);have h3:=y7z (Γ:=Γ) 1 1 1 1 (by decide) (by decide) (by decide) (by decide);have h4:=y7z (Γ:=Γ) 1 3 1 1000 (by decide) (by decide) (by decide) (by decide);have h5:=y7z (Γ:=Γ) 2 1 1 1 (by decide) (by decide) (by decide) (by decide);have h6:=y7z (Γ:=Γ) 2 1 3600 1 (by decide) (by decide) (by decide) (by decide);have h7:=y7z (Γ:=Γ) 2 1 86400 1 (by decide) (by decide) (by decide) (by decide);have h8:=y7z (Γ:=Γ) 3 1 1 1 (by decide) (by decide) (by decide) (by decide);have h9:=y7z (Γ:=Γ) 3 1 3600 1 (by decide) (by decide) (by decide) (by decide);have h10:=y7z (Γ:=Γ) 4 1 1 1 (by decide) (by decide) (by decide) (by decide);have h11:=y7z (Γ:=Γ) 4 1 100 1 (by decide) (by decide) (by decide) (by decide);have h12:=y7z (Γ:=Γ) 5 1 1 1 (by decide) (by decide) (by decide) (by decide);refine CallsD.run [] Go.Proofs.Tryz.func84 rfl rfl rfl ?_;simp only [Go.Proofs.Tryz.f84];refine hgR ?_
 repeat' ((first | refine hfk ?_ ?_<;>intros | refine hik ?_ | with_reducible first | refine v6l (h1) ?_ | refine vgi (h1) ?_ | refine v6l (h2) ?_ | refine vgi (h2) ?_ | refine v6l (h3) ?_ | refine vgi (h3) ?_ | refine v6l (h4) ?_ | refine vgi (h4) ?_ | refine v6l (h5) ?_ | refine vgi (h5) ?_ | refine v6l (h6) ?_ | refine vgi (h6) ?_ | refine v6l (h7) ?_ | refine vgi (h7) ?_ | refine v6l (h8) ?_ | refine vgi (h8) ?_ | refine v6l (h9) ?_ | refine vgi (h9) ?_ | refine v6l (h10) ?_ | refine vgi (h10) ?_ | refine v6l (h11) ?_ | refine vgi (h11) ?_ | refine v6l (h12) ?_ | refine vgi (h12) ?_)<;>refine hgS ?_)
 all_goals (refine RLe.ofEq ?_;conv=>simp only [Bool.and_true,Bool.true_and,Bool.and_false,Bool.false_and,Bool.or_true,Bool.true_or,Bool.or_false,Bool.false_or,Bool.not_true,Bool.not_false,decide_true,decide_false,not_true_eq_false,not_false_eq_true,wgp,if_true,if_false,Bool.and_self,Bool.or_self,cond_true,cond_false,List.length_map,ne_eq,Int.reduceEq,Int.reduceLT,Int.reduceLE, *,symF,unO,Option.isSome]);first | exact trivial | rfl
theorem yr4 (c:Int):CallsD Γ prog 85 [.one (c8 c)] (.tup [.one (cI (preO (preF c)).1),.one (cI (preO (preF c)).2),.one (cB (preF c).isSome)]):=by
 refine CallsD.run [] Go.Proofs.Tryz.func85 rfl rfl rfl ?_;simp only [Go.Proofs.Tryz.f85];refine hgR ?_
 repeat' ((first | refine hfk ?_ ?_<;>intros | refine hik ?_)<;>refine hgS ?_)
 all_goals (refine RLe.ofEq ?_;conv=>simp only [Bool.and_true,Bool.true_and,Bool.and_false,Bool.false_and,Bool.or_true,Bool.true_or,Bool.or_false,Bool.false_or,Bool.not_true,Bool.not_false,decide_true,decide_false,not_true_eq_false,not_false_eq_true,wgp,if_true,if_false,Bool.and_self,Bool.or_self,cond_true,cond_false,List.length_map,ne_eq,Int.reduceEq,Int.reduceLT,Int.reduceLE, *,preF,preO,Option.isSome]);first | exact trivial | rfl
theorem zma (s:ByteArray):CallsD Γ prog 86 [.one (cS s)] (.one (cB (wem s))):=by
 refine CallsD.run [] Go.Proofs.Tryz.func86 rfl rfl rfl ?_;simp only [Go.Proofs.Tryz.f86];refine hgR ?_
 repeat' ((first | refine hfk ?_ ?_<;>intros | refine hik ?_)<;>refine hgS ?_)
 all_goals refine lf1 @wem.eq_def ?_;first | exact trivial | rfl
theorem sExt (s:ByteArray) (i:Nat):s.extract 0 i=zt0 s i:=rfl
theorem z7x (s:ByteArray) (i:Nat):s.extract i s.size=wcu s i:=rfl
attribute [go_sem] sExt z7x
theorem w6h (s p:ByteArray) (_hs:s.size<=1073741824) (hp:p.size<=1073741824):CallsD Γ prog 182 [.one (cS s),.one (cS p)] (.one (cB (vhb s p))):=by
 refine CallsD.run [] Go.Proofs.Tryz.func182 rfl rfl rfl ?_;simp only [Go.Proofs.Tryz.f182];refine hgR ?_
 repeat' ((first | refine hfk ?_ ?_<;>intros | refine hik ?_)<;>refine hgS ?_)
 all_goals refine lf1 @vhb.eq_def ?_;first | exact trivial | rfl
theorem vz2 (s p:ByteArray) (hs:s.size<=1073741824) (hp:p.size<=1073741824):CallsD Γ prog 135 [.one (cS s),.one (cS p)] (.tup [.one (cS (bif vhb s p then wcu s p.size else s)),.one (cB (vhb s p))]):=by
 refine CallsD.run [] Go.Proofs.Tryz.func135 rfl rfl rfl ?_;simp only [Go.Proofs.Tryz.f135];refine hgR ?_;refine v6l (w6h s p hs hp) ?_;refine hg ?_;refine wzf (fun h=>?_) (fun h=>?_)
 . refine hg ?_
   refine lfE ?_;first | exact trivial | rfl
 . have hle:p.size<=s.size:=by
    simp only [vhb,Bool.and_eq_true,decide_eq_true_eq] at h;omega
   refine hg ?_
   refine lfE ?_;first | exact trivial | rfl
theorem xs0 (s p:ByteArray) (hs:s.size<=1073741824) (hp:p.size<=1073741824):CallsD Γ prog 81 [.one (cS s),.one (cS p)] (.tup [.one (cS (bif vhb s p then wcu s p.size else s)),.one (cB (vhb s p))]):=by
 refine CallsD.run [] Go.Proofs.Tryz.func81 rfl rfl rfl ?_;simp only [Go.Proofs.Tryz.f81];refine hgR ?_
 repeat' ((first | refine hfk ?_ ?_<;>intros | refine hik ?_ | with_reducible first | refine v6l (vz2 s p hs hp) ?_ | refine vgi (vz2 s p hs hp) ?_)<;>refine hgS ?_)
 all_goals refine lfE ?_;first | exact trivial | rfl
theorem cCut (s:ByteArray) (hs:s.size<=1073741824):CallsD Γ prog 82 [.one (cS s)] (.tup [.agg (itC (vl9 s)),.one (cS (x9p s)),.one (cB (zr8 s))]):=by
 refine CallsD.run [] Go.Proofs.Tryz.func82 rfl rfl rfl ?_;simp only [Go.Proofs.Tryz.f82];refine hgR ?_;refine y55 [0,2] (fun n:Nat=>[(5,.one (.dat (cI n)))]) (fun _=>[.box [.dat (cS ⟨⟨[]⟩⟩),.dat (cI 0)] (some 88)]) (fun n=>n<=s.size/\∀ j,j<n->yio (x41 s j)=true) (fun n=>s.size-n) 0 ⟨Nat.zero_le _,fun j hj=>by omega⟩ ?_ ?_
 . refine hg ?_;exact StH.same svl rfl
 intro n hn;obtain ⟨hn,hj⟩:=hn;refine hg ?_;refine vtf (fun hlt hd=>?_) (fun hlt _=>?_)
 . refine hg1 @hd ?_;refine v6l (wte _) ?_;refine hg ?_;refine wdg (fun h1=>?_) (fun h1=>?_)
   . refine hg ?_;refine ⟨n+1,⟨by omega,fun j hj'=>?_⟩,by omega,StH.same svl rfl⟩
     rcases Nat.lt_or_eq_of_le (Nat.le_of_lt_succ hj') with h2 | h2
     . exact hj j h2
     . rw [h2];exact h1
   . have hsp:=xwo hn hj (.inr h1);clear h1;refine hg ?_
     repeat' ((first | refine hfk ?_ ?_<;>intros | refine hik ?_)<;>refine hgS ?_)
     all_goals (refine RLe.ofEq ?_;conv=>simp only [Bool.and_true,Bool.true_and,Bool.and_false,Bool.false_and,Bool.or_true,Bool.true_or,Bool.or_false,Bool.false_or,Bool.not_true,Bool.not_false,decide_true,decide_false,not_true_eq_false,not_false_eq_true,wgp,if_true,if_false,Bool.and_self,Bool.or_self,cond_true,cond_false,List.length_map,ne_eq,Int.reduceEq,Int.reduceLT,Int.reduceLE, *,vl9,x9p,x6x,y6h,zr8,hsp]);first | exact trivial | rfl
 . have hsp:=xwo hn hj (.inl (by omega));refine hgS ?_
   repeat' ((first | refine hfk ?_ ?_<;>intros | refine hik ?_)<;>refine hgS ?_)
   all_goals (refine RLe.ofEq ?_;conv=>simp only [Bool.and_true,Bool.true_and,Bool.and_false,Bool.false_and,Bool.or_true,Bool.true_or,Bool.or_false,Bool.false_or,Bool.not_true,Bool.not_false,decide_true,decide_false,not_true_eq_false,not_false_eq_true,wgp,if_true,if_false,Bool.and_self,Bool.or_self,cond_true,cond_false,List.length_map,ne_eq,Int.reduceEq,Int.reduceLT,Int.reduceLE, *,vl9,x9p,x6x,y6h,zr8,hsp]);first | exact trivial | rfl
theorem v1o (s:ByteArray) (hs:s.size<=1073741824) (h1:1<=s.size):CallsD Γ prog 40 [.one (cS s)] (.tup [.agg (unO (ykz s)),.one (cB (ykz s).isSome)]):=by
 refine CallsD.run [] Go.Proofs.Tryz.func40 rfl rfl rfl ?_;simp only [Go.Proofs.Tryz.f40];refine hgR ?_;refine v6l (vq6 s) ?_
 cases hy:symF s with
 | some u=>
  conv=>simp (maxSteps:=2000000) (disch:=omega) only [go_sem,Nat.reduceAdd,Nat.reduceSub,Nat.reduceMul,Int.reduceToNat,Nat.reduceEqDiff,Nat.reduceBEq,Nat.reduceBneDiff,Nat.reduceLT,Int.reduceEq,Int.reduceLT,Int.reduceLE,Int.reduceNeg,Int.reduceAdd,Int.reduceSub,Int.reduceMul,unO,Option.isSome]
  exact RLe.ofEq (by simp only [ykz,hy];rfl)
 | none=>
  conv=>simp (maxSteps:=2000000) (disch:=omega) only [go_sem,Nat.reduceAdd,Nat.reduceSub,Nat.reduceMul,Int.reduceToNat,Nat.reduceEqDiff,Nat.reduceBEq,Nat.reduceBneDiff,Nat.reduceLT,Int.reduceEq,Int.reduceLT,Int.reduceLE,Int.reduceNeg,Int.reduceAdd,Int.reduceSub,Int.reduceMul,unO,Option.isSome]
  refine v6l (yr4 _) ?_;refine hg ?_;refine v6l (vq6 _) ?_
  cases hp:preF (x41 s 0) with
  | none=>
   cases hy2:symF (wcu s 1)<;>
   . conv=>simp (maxSteps:=2000000) (disch:=omega) only [go_sem,Nat.reduceAdd,Nat.reduceSub,Nat.reduceMul,Int.reduceToNat,Nat.reduceEqDiff,Nat.reduceBEq,Nat.reduceBneDiff,Nat.reduceLT,Int.reduceEq,Int.reduceLT,Int.reduceLE,Int.reduceNeg,Int.reduceAdd,Int.reduceSub,Int.reduceMul,unO,Option.isSome]
     exact RLe.ofEq (by simp only [ykz,hy,hp];rfl)
  | some p=>
   cases hy2:symF (wcu s 1) with
   | none=>
    conv=>simp (maxSteps:=2000000) (disch:=omega) only [go_sem,Nat.reduceAdd,Nat.reduceSub,Nat.reduceMul,Int.reduceToNat,Nat.reduceEqDiff,Nat.reduceBEq,Nat.reduceBneDiff,Nat.reduceLT,Int.reduceEq,Int.reduceLT,Int.reduceLE,Int.reduceNeg,Int.reduceAdd,Int.reduceSub,Int.reduceMul,unO,Option.isSome]
    exact RLe.ofEq (by simp only [ykz,hy,hp,hy2];rfl)
   | some u=>
    obtain ⟨_,hu1,_⟩:=xhk hy2;obtain ⟨hp1,hp2⟩:=zz1 hp;obtain ⟨hf1,_⟩:=x8s hp1 hp2
    conv=>simp (maxSteps:=2000000) (disch:=omega) only [go_sem,Nat.reduceAdd,Nat.reduceSub,Nat.reduceMul,Int.reduceToNat,Nat.reduceEqDiff,Nat.reduceBEq,Nat.reduceBneDiff,Nat.reduceLT,Int.reduceEq,Int.reduceLT,Int.reduceLE,Int.reduceNeg,Int.reduceAdd,Int.reduceSub,Int.reduceMul,unO,Option.isSome,preO]
    repeat' ((first | refine hfk ?_ ?_<;>intros | refine hik ?_ | with_reducible first | refine v6l (zma _) ?_ | refine vgi (zma _) ?_ | refine v6l (qOf p.1 p.2 (by unfold inI;omega) (by unfold inI;omega) (by omega)) ?_ | refine vgi (qOf p.1 p.2 (by unfold inI;omega) (by unfold inI;omega) (by omega)) ?_ | refine v6l (qMul _ _ (Nat.le_trans hu1 (by decide)) (Nat.le_trans hf1 (by decide))) ?_ | refine vgi (qMul _ _ (Nat.le_trans hu1 (by decide)) (Nat.le_trans hf1 (by decide))) ?_)<;>refine hgS ?_)
    all_goals rename_i hq
    all_goals exact RLe.ofEq (by simp only [ykz,hy,hp,hy2,hq];rfl)
theorem xhe (a f:Rat) (x:Int) (hx:x.natAbs<=1000) (ha:qs a<=100000) (hf:qs f<=1000) (hf0:f≠0):CallsD Γ prog 41 [.agg (fQ a),.agg (fQ f),.one (cI x)] (.agg (fQ (ymb a f x))):=by
 refine CallsD.run [] Go.Proofs.Tryz.func41 rfl rfl rfl ?_;simp only [Go.Proofs.Tryz.f41];refine hgR ?_;refine y55 [2,3,4,6,10] (fun i:Nat=>[(11,.one (.dat (cI i)))]) (fun i=>[.box ((fQ (pw a f x i)).map .dat) (some 33),.box ((fQ f).map .dat) (some 33),.box [.dat (cI 0),.dat .zc,.dat (cI 0),.dat .zc] (some 33)]) (fun i=>i<=x.natAbs) (fun i=>x.natAbs-i) 0 (Nat.zero_le _) ?_ ?_
 . refine hg ?_;exact StH.same svl (by rw [wuy])
 intro i hi;have hq:=zki a f x i;have hm:i*(qs f+1)<=1000*1001:=Nat.mul_le_mul (by omega) (by omega);refine hg ?_;refine vnx (fun hlt _=>?_) (fun hlt _=>?_)
 . refine hg ?_;refine vnx (fun hp hd=>?_) (fun hp hd=>?_)
   . refine hg ?_;refine v6l (qMul (pw a f x i) f (by omega) (by omega)) ?_;refine hg ?_;exact ⟨i+1,by omega,by omega,StH.same svl (by rw [xg5 hp])⟩
   . refine hg ?_;refine v6l (qDiv (pw a f x i) f hf0 (by omega) (by omega)) ?_;refine hg ?_;exact ⟨i+1,by omega,by omega,StH.same svl (by rw [zqi hp])⟩
 . refine hg ?_
   have e:i=x.natAbs:=by omega
   subst e;exact RLe.ofEq rfl
theorem zfe (s:ByteArray) (hs:s.size<=1073741824):CallsD Γ prog 38 [.one (cS s)] (.tup [.one (.sl 2 ((itO (vhi s)).map It.C)),.one (cB (vhi s).isSome)]):=by
 have bad:∀ b,vhi s=none->b=false->RLe (.tup [.one (.raw (.slice none 0 0)),.one (cB b)]) (.tup [.one (.sl 2 ((itO (vhi s)).map It.C)),.one (cB (vhi s).isSome)]):=fun b h hb=>by
  rw [h,hb];exact .tup (.cons (.one (.nilSl 2)) (.cons (.refl _) .nil))
 refine CallsD.run [(9,[.join])] Go.Proofs.Tryz.func38 rfl rfl rfl ?_;simp only [Go.Proofs.Tryz.f38];refine hgR ?_
 repeat' ((first | refine hfk ?_ ?_<;>intros | refine hik ?_)<;>refine hgS ?_)
 . exact .tup (.cons (.one (by rename_i h;simp only [vhi,h];exact .nilSl 2)) (.cons (by rename_i h;simp only [vhi,h];exact .refl _) .nil))
 . refine bad _ (by simp only [vhi, *];rfl) rfl
 refine v6l (xs0 _ _ hs (by decide)) ?_;refine hgS ?_;refine ztg [2,3,4] (fun r:ByteArray=>[(5,.one (.dat (cS r)))]) (fun _=>[]) (fun r=>r=ztm s) ?_ ?_
 . refine hg ?_;refine wzf (fun h=>?_) (fun h=>?_)
   . refine hg ?_;refine ⟨_,rfl,?_⟩;simp only [ztm,h];exact StH.same svl rfl
   . refine hg ?_;refine ⟨_,rfl,?_⟩;simp only [ztm,h];exact StH.same svl rfl
 intro r0 hr0
 have h0:vhi s=ymw (s.size+2) r0 []:=by simp only [vhi, *];rfl
 have hsz:r0.size<=s.size+1:=by
  rw [hr0];unfold ztm;have h42:(⟨#[42]⟩:ByteArray).size=1:=rfl
  cases vhb s ⟨#[49]⟩
  . simp only [cond_false,ByteArray.size_append];omega
  . simp only [cond_true,yxt];omega
 clear hr0;refine hg ?_;refine y55 [2,3] (fun p:Nat×ByteArray×List It=>[(4,.one (.sl 0 2 0 p.2.2.length)),(5,.one (.dat (cS p.2.1)))]) (fun p=>[.arr (.sl 2 (p.2.2.map It.C)) 0 (some 88)])
  (fun p=>p.2.1.size<p.1/\p.2.1.size<=1073741824/\p.2.2.length+p.2.1.size<=100/\ymw p.1 p.2.1 p.2.2=vhi s) (fun p=>p.2.1.size) (s.size+2,r0,[]) ⟨by simp only;omega,by simp only;omega,by simp only [List.length_nil];omega,h0.symm⟩ ?_ ?_
 . refine hg ?_;refine StH.trans (StH.empty (d:=4) (es:=2) (c:=.sl 2 []) (T:=some 88) rfl rfl (fun r hr=>by cases hr) rfl) ?_;refine hg ?_;exact StH.same svl rfl
 rintro ⟨k,r,acc⟩ ⟨h1,h2,h3,h4⟩;simp only at h1 h2 h3 h4;clear h0 hsz;obtain ⟨k,rfl⟩:∃ m,k=m+1:=⟨k-1,by omega⟩;rw [ymw] at h4;refine hg ?_;refine vnx (fun hne _=>?_) (fun he _=>?_)
 . have hne':=decide_eq_false hne;rw [hne',cond_false] at h4;have hd':=yxt r 1;refine hg ?_;have hcs:=x87 (wcu r 1);have hce:=z0m (wcu r 1);rw [hd'] at hcs;refine v6l (cCut (wcu r 1) (by rw [hd'];omega)) ?_;refine hg ?_
   have g1:(x9p (wcu r 1)).size<k:=by omega
   have g2:(x9p (wcu r 1)).size<=1073741824:=by omega
   have g3:∀ x:It,(acc++[x]).length+(x9p (wcu r 1)).size<=100:=fun x=>by rw [List.length_append,List.length_singleton];omega
   have g4:(x9p (wcu r 1)).size<r.size:=by omega
   have hmap:∀ x:It,acc.map It.C++[itC x]=(acc++[x]).map It.C:=fun x=>by simp;rfl
   repeat' ((first | refine hfk ?_ ?_<;>intros | refine hik ?_)<;>refine hgS ?_)
   . exact bad _ (by rw [<-h4];simp only [*];rfl) rfl
   . rename_i h47 _
     have h4':ymw k (x9p (wcu r 1)) (acc++[⟨(vl9 (wcu r 1)).w,0-(vl9 (wcu r 1)).e⟩])=vhi s:=by
      rw [<-h4];simp only [*,y5c];rfl
     refine ⟨(k,x9p (wcu r 1),acc++[⟨(vl9 (wcu r 1)).w,0-(vl9 (wcu r 1)).e⟩]),?_,?_,?_⟩
     . dsimp only;exact ⟨g1,g2,g3 _,h4'⟩
     . dsimp only;exact g4
     rw [hmap ⟨(vl9 (wcu r 1)).w,0-(vl9 (wcu r 1)).e⟩];refine StH.back [2,3,4,5] 0 2 1 rfl rfl rfl rfl rfl (by kernel_rfl) ?_;refine hg ?_;exact StH.same svl rfl
   . exfalso;omega
   . exfalso;omega
   . have h4':ymw k (x9p (wcu r 1)) (acc++[vl9 (wcu r 1)])=vhi s:=by
      rw [<-h4];simp only [*,y5c];rfl
     refine ⟨(k,x9p (wcu r 1),acc++[vl9 (wcu r 1)]),?_,?_,?_⟩
     . dsimp only;exact ⟨g1,g2,g3 _,h4'⟩
     . dsimp only;exact g4
     try rw [hmap (vl9 (wcu r 1))]
     refine StH.back [2,3,4,5] 0 2 1 rfl rfl rfl rfl rfl (by kernel_rfl) ?_;refine hg ?_;exact StH.same svl rfl
   . exact bad _ (by rw [<-h4];simp only [*];rfl) rfl
 . refine hg ?_;have he':decide (r.size=0)=true:=decide_eq_true (by omega);rw [he',cond_true] at h4;rw [<-h4];exact RLe.ofEq rfl
theorem zhn (s:ByteArray) (hs:s.size<=1073741824):CallsD Γ prog 15 [.one (cS s)] (.tup [.agg (unO (zth s).1),.one (cI (zth s).2)]):=by
 refine CallsD.run [] Go.Proofs.Tryz.func15 rfl rfl rfl ?_;simp only [Go.Proofs.Tryz.f15];refine hgR ?_;refine v6l (zfe s hs) ?_
 cases hi:vhi s with
 | none=>
  conv=>simp (maxSteps:=2000000) (disch:=omega) only [go_sem,Nat.reduceAdd,Nat.reduceSub,Nat.reduceMul,Int.reduceToNat,Nat.reduceEqDiff,Nat.reduceBEq,Nat.reduceBneDiff,Nat.reduceLT,Int.reduceEq,Int.reduceLT,Int.reduceLE,Int.reduceNeg,Int.reduceAdd,Int.reduceSub,Int.reduceMul,Option.isSome,itO]
  exact RLe.ofEq (by simp only [zth,hi];rfl)
 | some l=>
  obtain ⟨hl,hx⟩:=yqi hi
  conv=>simp (maxSteps:=2000000) (disch:=omega) only [go_sem,Nat.reduceAdd,Nat.reduceSub,Nat.reduceMul,Int.reduceToNat,Nat.reduceEqDiff,Nat.reduceBEq,Nat.reduceBneDiff,Nat.reduceLT,Int.reduceEq,Int.reduceLT,Int.reduceLE,Int.reduceNeg,Int.reduceAdd,Int.reduceSub,Int.reduceMul,Option.isSome,itO]
  refine v6l (qInt 1 (by decide)) ?_;refine hg ?_;refine y55 [2,6,23,24] (fun p:Nat×Un=>[(25,.one (.dat (cI p.1)))]) (fun p=>[.box (unZ.map .dat) (some 44),.box ((unC p.2).map .dat) (some 44)])
   (fun p=>p.1<=l.length/\p.2.d.le (27*p.1)/\qs p.2.f<=1+100*p.1/\wf3 (l.drop p.1) p.2=wf3 l ⟨Dm.zero,(1:Int)⟩) (fun p=>l.length-p.1) (0,⟨Dm.zero,(1:Int)⟩) ⟨Nat.zero_le _,by unfold Dm.le;decide,zn6,rfl⟩ ?_ ?_
  . refine hg ?_;exact StH.same svl rfl
  rintro ⟨i,u⟩ ⟨h1,h2,h3,h4⟩;simp only at h1 h2 h3 h4;refine hg ?_;refine vnx (fun hlt _=>?_) (fun hlt _=>?_)
  . have hlt':i<l.length:=by omega
    have hok:=hx _ (w4t hlt');rw [xqz hlt',wf3] at h4;refine hg ?_;refine v6l (v1o _ (by have:=hok.2.1;omega) hok.1) ?_
    cases hw:ykz (l.getD i default).w with
    | none=>
     conv=>simp (maxSteps:=2000000) (disch:=omega) only [go_sem,Nat.reduceAdd,Nat.reduceSub,Nat.reduceMul,Int.reduceToNat,Nat.reduceEqDiff,Nat.reduceBEq,Nat.reduceBneDiff,Nat.reduceLT,Int.reduceEq,Int.reduceLT,Int.reduceLE,Int.reduceNeg,Int.reduceAdd,Int.reduceSub,Int.reduceMul,Option.isSome,unO]
     rw [hw] at h4;exact RLe.ofEq (by simp only [zth,hi,<-h4])
    | some v=>
     obtain ⟨hv1,hv2,hv3⟩:=xk3 hw;rw [hw] at h4;obtain ⟨b1,b2,b3,b4,b5,b6⟩:=h2;obtain ⟨d1,d2,d3,d4,d5,d6⟩:=hv1;have he:=hok.2.2;have c1:=yos d1 he;have c2:=yos d2 he;have c3:=yos d3 he;have c4:=yos d4 he;have c5:=yos d5 he;have c6:=yos d6 he
     have hq:qs (ymb u.f v.f (l.getD i default).e)<=qs u.f+9*(qs v.f+1):=by
      have:=zki u.f v.f (l.getD i default).e (l.getD i default).e.natAbs
      rw [<-xbq] at this;have h9:(l.getD i default).e.natAbs*(qs v.f+1)<=9*(qs v.f+1):=Nat.mul_le_mul_right _ (by omega);omega
     have hle:(u.d.acc v.d (l.getD i default).e).le (27*(i+1:Nat)):=by
      have:=Dm.v1r (x:=u.d) ⟨b1,b2,b3,b4,b5,b6⟩ ⟨d1,d2,d3,d4,d5,d6⟩ he
      rw [show (27*((i+1:Nat):Int))=27*i+27 from by omega];exact this
     conv=>simp (maxSteps:=2000000) (disch:=omega) only [go_sem,Nat.reduceAdd,Nat.reduceSub,Nat.reduceMul,Int.reduceToNat,Nat.reduceEqDiff,Nat.reduceBEq,Nat.reduceBneDiff,Nat.reduceLT,Int.reduceEq,Int.reduceLT,Int.reduceLE,Int.reduceNeg,Int.reduceAdd,Int.reduceSub,Int.reduceMul,Option.isSome,unO]
     repeat' ((first | refine hfk ?_ ?_<;>intros | refine hik ?_ | with_reducible refine zum ?_ | with_reducible refine v3j ?_ | with_reducible first | refine v6l (xhe u.f v.f (l.getD i default).e (by omega) (by omega) (by omega) hv3) ?_ | refine vgi (xhe u.f v.f (l.getD i default).e (by omega) (by omega) (by omega) hv3) ?_)<;>refine hgS ?_)
     refine ⟨(i+1,⟨u.d.acc v.d (l.getD i default).e,ymb u.f v.f (l.getD i default).e⟩),?_,?_,?_⟩
     . dsimp only;exact ⟨by omega,hle,by omega,h4⟩
     . dsimp only;omega
     refine StH.back [2,6,23,24,25] 2 2 2 rfl rfl rfl rfl rfl (by kernel_rfl) ?_;refine hg ?_;exact StH.same svl rfl
  . have h4':wf3 l ⟨Dm.zero,(1:Int)⟩=some u:=by rw [<-h4,List.drop_eq_nil_of_le (by omega)];rfl
    refine hg ?_
    repeat' ((first | refine hfk ?_ ?_<;>intros | refine hik ?_ | with_reducible first | refine v6l (ygx _) ?_ | refine vgi (ygx _) ?_)<;>refine hgS ?_)
    all_goals
     rename_i hd;exact RLe.ofEq (by simp only [zth,hi,h4',hd];rfl)
end Go.Hp.T
