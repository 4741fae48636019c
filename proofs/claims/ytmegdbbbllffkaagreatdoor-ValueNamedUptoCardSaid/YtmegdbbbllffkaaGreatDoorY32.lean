/- The proof, part Y32: Fd, Ig, Nd. -/
import Derived.Test.YtmegdbbbllffkaaGreatDoorY27
import Derived.Test.YtmegdbbbllffkaaGreatDoorY31
import Derived.Test.YtmegdbbbllffkaaGreatDoorY28
namespace Go.Hp.T
open Go Go.RowKit Go.Slot Go.Hp Go.Slot.T
open Go.Proofs.Tryz (prog)
set_option maxRecDepth 10000
set_option maxHeartbeats 4000000
variable {Γ:List (Nat×List Cell)}
abbrev zC (z:Int):List Cell:=[.raw (.int .i64 (sg z)),.ints .i64 (dig z.natAbs)]
theorem yy4 (z:Int) (d:Nat) (hz:okZ z) (hd:d≠0) (hl:(dig d).length<=268435456):CallsD Γ prog 43 [.agg (zC z),.agg (zC d)] (.tup [.agg (Fc.of (Rat.divInt z d)).C,.one (cI 0)]):=by
 have:=toD (Γ:=Γ) (v47 z d hz hd hl)
 rw [Rat.divInt_ofNat];unfold zC;rw [x69 hd];exact this
theorem xyp (z:Int) (d:Nat) (hz:okZ z) (hd:d≠0) (hl:(dig d).length<=268435456):CallsD Γ prog 43 [.agg (zC z),.agg (zC (-(d:Int)))] (.tup [.agg (Fc.of (Rat.divInt z (-(d:Int)))).C,.one (cI 0)]):=by
 have hdd:okZ (-(d:Int)):=by unfold okZ;rw [show (-(d:Int)).natAbs=d by omega];exact hl
 have hzz:okZ (-z):=by unfold okZ at hz ⊢;rw [Int.natAbs_neg];exact hz
 have hdz:okZ (d:Int):=hl;have hs:sg (-(d:Int)) = -1:=vwi (by omega);have hgp:0<(Int.gcd (-z) d:Int):=(zbk (-z) hd).2.2;obtain ⟨p1,p2,p3⟩:=zbk (-z) hd;have hden:=v1d (mkRat (-z) d);rw [p2] at hden
 have hgl:okZ (Int.gcd (-z) d:Int):=by
  have:(Int.gcd (-z) d:Int).natAbs<=d:=by
   have:Int.gcd (-z) d ∣ d:=by have:=Int.gcd_dvd_natAbs_right (-z) d;simpa using this
   exact Nat.le_of_dvd (Nat.pos_of_ne_zero hd) this
  exact Nat.le_trans (zui this) hl
 have hn1:=v7b z hz;have hn2:=v7b (-(d:Int)) hdd;rw [Int.neg_neg,hs,x69 hd] at hn2;have hr:=y3y (-(d:Int)) hdd;rw [hs] at hr;have hg:=vs2 (-z) d hzz hdz;have hd1:=zdj (-z) (Int.gcd (-z) d:Int) hzz hgl hgp;have hd2:=zdj d (Int.gcd (-z) d:Int) hdz hgl hgp;rw [x69 hd] at hg hd2;rw [hden] at hd2
 have hden2:(mkRat (-z) d).den=((d:Int) / (Int.gcd (-z) d:Int)).natAbs:=by omega
 have hfin:(Fc.of (Rat.divInt z (-(d:Int)))).C=[.raw (.int .i64 (sg (-z / (Int.gcd (-z) d:Int)))),.ints .i64 (dig (-z / (Int.gcd (-z) d:Int)).natAbs),.raw (.int .i64 1),.ints .i64 (dig ((d:Int) / (Int.gcd (-z) d:Int)).natAbs)]:=by
  rw [Rat.divInt_neg',Rat.divInt_ofNat,<-p1,<-hden2];rfl
 rw [hfin];generalize (Int.gcd (-z) d:Int)=g at *;unfold zC;rw [hs];refine CallsD.run [] Go.Proofs.Tryz.func43 rfl rfl rfl ?_;simp only [Go.Proofs.Tryz.f43];refine hgR ?_
 repeat' ((first | refine hfk ?_ ?_<;>intros | refine hik ?_ | with_reducible first | refine y5m (toD (y3y z hz)) ?_ | refine vtc (toD (y3y z hz)) ?_ | refine y5m (toD hr) ?_ | refine vtc (toD hr) ?_ | refine y5m (toD hn1) ?_ | refine vtc (toD hn1) ?_ | refine y5m (toD hn2) ?_ | refine vtc (toD hn2) ?_ | refine y5m (toD hg) ?_ | refine vtc (toD hg) ?_ | refine y5m (toD hd1) ?_ | refine vtc (toD hd1) ?_ | refine y5m (toD hd2) ?_ | refine vtc (toD hd2) ?_)<;>refine hgS ?_)
 exact RLe.ofEq rfl
theorem xys (z q:Int) (hz:okZ z) (hq:q≠0) (hl:okZ q):CallsD Γ prog 43 [.agg (zC z),.agg (zC q)] (.tup [.agg (Fc.of (Rat.divInt z q)).C,.one (cI 0)]):=by
 unfold okZ at hl
 rcases Int.lt_or_gt_of_ne hq with h | h
 . have e:q = -((q.natAbs:Nat):Int):=by omega
   have:=xyp (Γ:=Γ) z q.natAbs hz (by omega) hl
   rw [<-e] at this;exact this
 . have e:((q.natAbs:Nat):Int)=q:=by omega
   have:=yy4 (Γ:=Γ) z q.natAbs hz (by omega) hl
   rw [e] at this;exact this
theorem zsl (p q:Int) (hp:inI p) (hq:inI q) (hq0:q≠0):CallsD Γ prog 87 [.one (cI p),.one (cI q)] (.tup [.agg (Fc.of (Rat.divInt p q)).C,.one (cI 0)]):=by
 have okI:∀ n:Int,inI n->okZ n:=fun n hn=>by
  unfold okZ
  have:=wbp (n:=n.natAbs) (by unfold inI at hn;omega)
  omega
 refine CallsD.run [] Go.Proofs.Tryz.func87 rfl rfl rfl ?_;simp only [Go.Proofs.Tryz.f87];refine hgR ?_
 repeat' ((first | refine hfk ?_ ?_<;>intros | refine hik ?_ | with_reducible first | refine y5m (toD (cOf p hp)) ?_ | refine vtc (toD (cOf p hp)) ?_ | refine y5m (toD (cOf q hq)) ?_ | refine vtc (toD (cOf q hq)) ?_ | refine y5m (xys p q (okI p hp) hq0 (okI q hq)) ?_ | refine vtc (xys p q (okI p hp) hq0 (okI q hq)) ?_)<;>refine hgS ?_)
 exact RLe.ofEq rfl
theorem z0q (x y:Rat):x / y=Rat.divInt (x.num*y.den) (x.den*y.num):=by
 rw [Rat.div_def,Rat.inv_def]
 conv=>lhs;rw [<-Rat.num_divInt_den x]
 rw [Rat.divInt_mul_divInt]
abbrev fQ (x:Rat):List Cell:=[.raw (.int .i64 (sg x.num)),.ints .i64 (dig x.num.natAbs),.raw (.int .i64 1),.ints .i64 (dig x.den)]
abbrev qs (x:Rat):Nat:=(Fc.of x).sz
theorem whi (x:Rat) (h:qs x<=268435456):CallsD Γ prog 26 [.agg (fQ x)] (.one (cB true)):=toD (xtz x h)
theorem qMul (x y:Rat) (hx:qs x<=67108864) (hy:qs y<=67108864):CallsD Γ prog 16 [.agg (fQ x),.agg (fQ y)] (.tup [.agg (fQ (x*y)),.one (cI 0)]):=by
 have:=toD (Γ:=Γ) (yer (Fc.of x) (Fc.of y) hx hy)
 rw [Fc.xd0,Fc.xg5 ⟨Fc.v55 x,Fc.v55 y⟩] at this;exact this
theorem qInt (n:Int) (hn:inI n):CallsD Γ prog 39 [.one (cI n)] (.agg (fQ (n:Rat))):=toD (xkx n hn)
theorem qOf (p q:Int) (hp:inI p) (hq:inI q) (hq0:q≠0):CallsD Γ prog 87 [.one (cI p),.one (cI q)] (.tup [.agg (fQ (Rat.divInt p q)),.one (cI 0)]):=zsl p q hp hq hq0
theorem qDiv (x y:Rat) (hy:y≠0) (hx:qs x<=67108864) (hyl:qs y<=67108864):CallsD Γ prog 88 [.agg (fQ x),.agg (fQ y)] (.tup [.agg (fQ (x / y)),.one (cI 0)]):=by
 have lx:=szO hx;have ly:=szO hyl;have l1:=ynf x.num y.den;have l4:=ynf (x.den:Int) y.num
 have hyn:y.num≠0:=fun h=>hy (Rat.num_eq_zero.1 h)
 have hsy:sg y.num≠0:=by have:=vcl y.num;omega
 have hD:okZ (x.den:Int):=by unfold okZ;have:=lx.2;simp only [Int.natAbs_natCast];omega
 have hDy:okZ (y.den:Int):=by unfold okZ;have:=ly.2;simp only [Int.natAbs_natCast];omega
 have t1:=yaa x.num y.den (by unfold okZ;omega) hDy;have t2:=yaa (x.den:Int) y.num hD (by unfold okZ;omega);rw [x69 y.den_nz] at t1;rw [x69 x.den_nz] at t2;simp only [Int.natAbs_natCast] at t1 t2;have hden:((x.den:Int)*y.num)≠0:=Int.mul_ne_zero (by have:=x.den_nz;omega) hyn;have hn:=xys (Γ:=Γ) (x.num*y.den) (x.den*y.num) (by unfold okZ;simp only [Int.natAbs_natCast] at l1;omega) hden (by unfold okZ;simp only [Int.natAbs_natCast] at l4;omega);rw [z0q];refine CallsD.run [] Go.Proofs.Tryz.func88 rfl rfl rfl ?_;simp only [Go.Proofs.Tryz.f88];refine hgR ?_
 repeat' ((first | refine hfk ?_ ?_<;>intros | refine hik ?_ | with_reducible first | refine y5m (whi x (by omega)) ?_ | refine vtc (whi x (by omega)) ?_ | refine y5m (whi y (by omega)) ?_ | refine vtc (whi y (by omega)) ?_ | refine y5m (toD t1) ?_ | refine vtc (toD t1) ?_ | refine y5m (toD t2) ?_ | refine vtc (toD t2) ?_ | refine y5m (hn) ?_ | refine vtc (hn) ?_)<;>refine hgS ?_)
 exact RLe.ofEq rfl
end Go.Hp.T
namespace Go.Hp.T
open Go Go.RowKit Go.Slot Go.Hp
set_option maxRecDepth 10000
structure Un where
 d:Dm
 f:Rat
abbrev unC (u:Un):List Cell:=[cI u.d.a,cI u.d.b,cI u.d.c,cI u.d.d,cI u.d.e,cI u.d.f,.raw (.int .i64 (sg u.f.num)),.ints .i64 (dig u.f.num.natAbs),.raw (.int .i64 1),.ints .i64 (dig u.f.den)]
abbrev unZ:List Cell:=[cI 0,cI 0,cI 0,cI 0,cI 0,cI 0,cI 0,.zc,cI 0,.zc]
def unO:Option Un->List Cell
 | some u=>unC u
 | none=>unZ
def vks (b e:Int):Dm:=⟨bif decide (b=0) then e else 0,bif decide (b=1) then e else 0,bif decide (b=2) then e else 0,bif decide (b=3) then e else 0,bif decide (b=4) then e else 0,bif decide (b=5) then e else 0⟩
def unOf (b e p q:Int):Un:=⟨vks b e,Rat.divInt p q⟩
def symF (s:ByteArray):Option Un:=
 bif seq s ⟨#[103]⟩ then some (unOf 0 1 1 1) else
 bif seq s ⟨#[116]⟩ then some (unOf 0 1 1000000 1) else
 bif seq s ⟨#[109]⟩ then some (unOf 1 1 1 1) else
 bif seq s ⟨#[108]⟩ then some (unOf 1 3 1 1000) else
 bif seq s ⟨#[115]⟩ then some (unOf 2 1 1 1) else
 bif seq s ⟨#[104]⟩ then some (unOf 2 1 3600 1) else
 bif seq s ⟨#[100]⟩ then some (unOf 2 1 86400 1) else
 bif seq s ⟨#[74]⟩ then some (unOf 3 1 1 1) else
 bif seq s ⟨#[87,104]⟩ then some (unOf 3 1 3600 1) else
 bif seq s ⟨#[99,101,110,116]⟩ then some (unOf 4 1 1 1) else
 bif seq s ⟨#[101,117,114]⟩ then some (unOf 4 1 100 1) else
 bif seq s ⟨#[112,99]⟩ then some (unOf 5 1 1 1) else none
def vae (s:ByteArray) (i:Nat):ByteArray:=s.extract i s.size
def wen (s:ByteArray) (i:Nat):ByteArray:=s.extract 0 i
def preF (c:Int):Option (Int×Int):=bif decide (c=107) then some (1000,1) else bif decide (c=77) then some (1000000,1) else bif decide (c=71) then some (1000000000,1) else bif decide (c=109) then some (1,1000) else none
def preO:Option (Int×Int)->Int×Int
 | some p=>p
 | none=>(0,0)
def xg4 (s:ByteArray):Bool:=seq s ⟨#[103]⟩||seq s ⟨#[109]⟩||seq s ⟨#[108]⟩||seq s ⟨#[115]⟩||seq s ⟨#[74]⟩||seq s ⟨#[87,104]⟩
theorem vtp (s:ByteArray) (i:Nat):(vae s i).size=s.size-i:=by unfold vae;simp
theorem yg6 (s:ByteArray) (i:Nat) (h:i<=s.size):(wen s i).size=i:=by unfold wen;simp;omega
structure It where
 w:ByteArray
 e:Int
instance:Inhabited It:=⟨⟨⟨#[]⟩,0⟩⟩
def It.C (x:It):List Cell:=[cS x.w,cI x.e]
abbrev itC (x:It):List Cell:=[cS x.w,cI x.e]
theorem It.C_eq (x:It):x.C=itC x:=rfl
attribute [go_sem] It.C_eq
def y20 (s:ByteArray):ByteArray:=vae s (xyw yf0 s)
def zaj (s:ByteArray):Bool:=decide (¬(y20 s).size=0)&&decide (50<=v7r (y20 s) 0)&&decide (v7r (y20 s) 0<=57)
def wn0 (s:ByteArray):It:=⟨wen s (xyw yf0 s),bif zaj s then v7r (y20 s) 0-48 else 1⟩
def y7g (s:ByteArray):ByteArray:=bif zaj s then vae (y20 s) 1 else y20 s
def xu7 (s:ByteArray):Bool:=decide (0<(xyw yf0 s:Int))
def wb0 (s:ByteArray):Option Un:=
 bif (symF s).isSome then symF s else
 bif !(preF (v7r s 0)).isSome||!(symF (vae s 1)).isSome||!xg4 (vae s 1) then none else
 match preF (v7r s 0),symF (vae s 1) with
 | some p,some u=>some ⟨u.d,u.f*Rat.divInt p.1 p.2⟩
 | _,_=>none
def iter {α:Type} (g:α->α):Nat->α->α
 | 0,a=>a
 | n+1,a=>iter g n (g a)
theorem y28 {α:Type} (g:α->α):∀(n:Nat) (a:α),iter g (n+1) a=g (iter g n a)
 | 0,_=>rfl
 | n+1,a=>by rw [iter,y28 g n (g a),iter]
def v8c (a f:Rat) (e:Int):Rat:=bif decide (0<e) then iter (· * f) e.natAbs a else iter (· / f) e.natAbs a
theorem ykf (x y:Rat):qs (x*y)<=qs x+qs y:=Fc.z17 x y
theorem z5p (x:Rat):qs x⁻¹<=qs x+1:=by
 by_cases h:x=0
 . subst h;rw [Rat.inv_zero];exact Nat.le_succ _
 . show (Fc.of x⁻¹).sz<=(Fc.of x).sz+1
   have hn:x.num≠0:=fun e=>h (Rat.num_eq_zero.1 e)
   rw [Fc.zt6,Fc.zt6,Rat.num_inv,Rat.den_inv,if_neg hn]
   have:(x.num.sign*(x.den:Int)).natAbs=x.den:=by
    rw [Int.natAbs_mul,Int.natAbs_sign];simp [hn]
   rw [this];omega
theorem xr5 (x y:Rat):qs (x / y)<=qs x+qs y+1:=by
 rw [Rat.div_def]
 have:=ykf x y⁻¹
 have:=z5p y
 omega
def Dm.in03 (d:Dm):Prop:=(0<=d.a/\d.a<=3)/\(0<=d.b/\d.b<=3)/\(0<=d.c/\d.c<=3)/\(0<=d.d/\d.d<=3)/\(0<=d.e/\d.e<=3)/\(0<=d.f/\d.f<=3)
theorem vmj {p q:Int} (hp:1<=p/\p<=1000000000) (hq:1<=q/\q<=1000000000):qs (Rat.divInt p q)<=4/\Rat.divInt p q≠0:=by
 obtain ⟨n,rfl⟩:∃ n:Nat,q=n:=⟨q.toNat,by omega⟩;rw [Rat.divInt_ofNat];refine ⟨?_,(Rat.mkRat_ne_zero (by omega)).2 (by omega)⟩
 have:=Fc.yh3 p n (by omega)
 have h1:=Slot.T.wbp (n:=p.natAbs) (by omega);have h2:=Slot.T.wbp (n:=n) (by omega);show (Fc.of _).sz<=4;omega
theorem ynh {b e:Int} (he:0<=e/\e<=3):(vks b e).in03:=by
 have key:∀ p:Bool,0<=(bif p then e else 0)/\(bif p then e else 0)<=3:=fun p=>by cases p<;>simp<;>omega
 exact ⟨key _,key _,key _,key _,key _,key _⟩
theorem xv2 {b e p q:Int} (he:0<=e/\e<=3) (hp:1<=p/\p<=1000000000) (hq:1<=q/\q<=1000000000):(unOf b e p q).d.in03/\qs (unOf b e p q).f<=4/\(unOf b e p q).f≠0:=⟨ynh he,vmj hp hq⟩
theorem wf0 {s:ByteArray} {u:Un} (h:symF s=some u):u.d.in03/\qs u.f<=4/\u.f≠0:=by
 unfold symF at h
 repeat' first
  | (cases h;exact xv2 (by omega) (by omega) (by omega))
  | (cases hc:seq s _<;>rw [hc] at h<;>simp only [cond_true,cond_false] at h)
 cases h
theorem w94 {c:Int} {p:Int×Int} (h:preF c=some p):(1<=p.1/\p.1<=1000000000)/\(1<=p.2/\p.2<=1000000000):=by
 unfold preF at h
 repeat' first
  | (cases h;done)
  | (cases h;simp;done)
  | (cases hc:decide (c=_)<;>rw [hc] at h<;>simp only [cond_true,cond_false] at h)
theorem yw3 {s:ByteArray} {u:Un} (h:wb0 s=some u):u.d.in03/\qs u.f<=8/\u.f≠0:=by
 unfold wb0 at h
 cases h1:(symF s).isSome with
 | true=>
  rw [h1,cond_true] at h;obtain ⟨a,b,c⟩:=wf0 h;exact ⟨a,by omega,c⟩
 | false=>
  rw [h1,cond_false] at h
  cases h2:(!(preF (v7r s 0)).isSome||!(symF (vae s 1)).isSome||!xg4 (vae s 1)) with
  | true=>rw [h2,cond_true] at h;cases h
  | false=>
   rw [h2,cond_false] at h;split at h
   . rename_i p v hp hv
     cases h;obtain ⟨a,b,c⟩:=wf0 hv;obtain ⟨d,e⟩:=w94 hp;obtain ⟨f,g⟩:=vmj d e;refine ⟨a,?_,?_⟩
     . have:=ykf v.f (Rat.divInt p.1 p.2)
       show qs (v.f*_)<=8;omega
     . exact fun h0=>by
        rcases Rat.mul_eq_zero.1 h0 with h0 | h0
        . exact c h0
        . exact g h0
   . cases h
def pw (a f:Rat) (x:Int) (i:Nat):Rat:=bif decide (0<x) then iter (· * f) i a else iter (· / f) i a
theorem v23 (a f:Rat) (x:Int):pw a f x 0=a:=by unfold pw;cases decide (0<x)<;>rfl
theorem wi6 {a f:Rat} {x:Int} (h:0<x) (i:Nat):pw a f x (i+1)=pw a f x i*f:=by unfold pw;rw [decide_eq_true h];exact y28 _ _ _
theorem xi3 {a f:Rat} {x:Int} (h:¬0<x) (i:Nat):pw a f x (i+1)=pw a f x i / f:=by unfold pw;rw [decide_eq_false h];exact y28 _ _ _
theorem wma (a f:Rat) (x:Int):∀ i,qs (pw a f x i)<=qs a+i*(qs f+1)
 | 0=>by rw [v23];omega
 | i+1=>by
  have ih:=wma a f x i;rw [Nat.add_mul,Nat.one_mul];by_cases h:0<x
  . rw [wi6 h]
    have:=ykf (pw a f x i) f
    omega
  . rw [xi3 h]
    have:=xr5 (pw a f x i) f
    omega
theorem wgm (a f:Rat) (x:Int):v8c a f x=pw a f x x.natAbs:=rfl
theorem voq (s:ByteArray):1<=(wn0 s).e/\(wn0 s).e<=9:=by
 unfold wn0
 cases h:zaj s with
 | false=>simp
 | true=>
  simp only [zaj,Bool.and_eq_true,decide_eq_true_eq] at h;simp only [cond_true];omega
theorem xhh (s:ByteArray):(y7g s).size<=s.size:=by
 unfold y7g y20
 cases zaj s<;>simp only [cond_true,cond_false,vtp]<;>omega
def ve0 (c:Int) (x:It):It:=bif decide (c=47) then ⟨x.w,0-x.e⟩ else x
def xb1 (s p:ByteArray):Bool:=decide ((p.size:Int)<=s.size)&&seq (wen s p.size) p
def x1f (s:ByteArray):ByteArray:=bif xb1 s ⟨#[49]⟩ then vae s 1 else ⟨#[42]⟩++s
def y3g:Nat->ByteArray->List It->Option (List It)
 | 0,_,_=>none
 | n+1,r,acc=>bif decide (r.size=0) then some acc else
  bif !xu7 (vae r 1)||(decide (¬v7r r 0=42)&&decide (¬v7r r 0=47)) then none else
  y3g n (y7g (vae r 1)) (acc++[ve0 (v7r r 0) (wn0 (vae r 1))])
def vdu (s:ByteArray):Option (List It):=bif decide (s.size=0) then some [] else bif decide (40<(s.size:Int)) then none else y3g (s.size+2) (x1f s) []
def itO:Option (List It)->List It
 | some l=>l
 | none=>[]
def It.ok (x:It):Prop:=1<=x.w.size/\x.w.size<=1000/\-9<=x.e/\x.e<=9
theorem yuq {r:ByteArray} (h:xu7 r=true) (hr:r.size<=1000) (c:Int):(ve0 c (wn0 r)).ok:=by
 have he:=voq r;have hw:(wn0 r).w.size=xyw yf0 r:=yg6 _ _ (w5w _ _);have hl:=w5w yf0 r
 have h0:1<=xyw yf0 r:=by
  have:(0:Int)<(xyw yf0 r:Int):=by simpa [xu7] using h
  omega
 unfold ve0
 cases decide (c=47)
 . exact ⟨by simp only [cond_false];omega,by simp only [cond_false];omega,by simp only [cond_false];omega,by simp only [cond_false];omega⟩
 . exact ⟨by simp only [cond_true];omega,by simp only [cond_true];omega,by simp only [cond_true];omega,by simp only [cond_true];omega⟩
theorem wre : ∀ (n : Nat) (r : ByteArray) (acc l : List It), y3g n r acc = some l → r.size ≤ 1000 → (∀ x ∈ acc, x.ok) → l.length ≤ acc.length + r.size ∧ ∀ x ∈ l, x.ok
 | 0,_,_,_,h,_,_=>by cases h
 | n + 1, r, acc, l, h, hr, ha => by
  rw [y3g] at h;by_cases h0:r.size=0
  . rw [decide_eq_true h0,cond_true] at h;cases h;exact ⟨by omega,ha⟩
  . rw [decide_eq_false h0, cond_false] at h
    cases hb:(!xu7 (vae r 1)||(decide (¬v7r r 0=42)&&decide (¬v7r r 0=47))) with
    | true=>rw [hb,cond_true] at h;cases h
    | false=>
     rw [hb,cond_false] at h
     have hok:xu7 (vae r 1)=true:=by
      cases hc:xu7 (vae r 1) with
      | true=>rfl
      | false=>rw [hc] at hb;simp at hb
     have hd:=vtp r 1;have hcs:=xhh (vae r 1)
     obtain ⟨h1,h2⟩:=wre n _ _ _ h (by omega) (fun x hx=>by
      rcases List.mem_append.1 hx with hx | hx
      . exact ha x hx
      . simp at hx;subst hx;exact yuq hok (by omega) _)
     refine ⟨?_,h2⟩;rw [List.length_append,List.length_singleton] at h1;omega
theorem zi4 {s : ByteArray} {l : List It} (h : vdu s = some l) : l.length ≤ 41 ∧ ∀ x ∈ l, x.ok := by
 unfold vdu at h;by_cases h0:s.size=0
 . rw [decide_eq_true h0,cond_true] at h;cases h;simp
 . rw [decide_eq_false h0, cond_false] at h;by_cases h1:40<(s.size:Int)
   . rw [decide_eq_true h1,cond_true] at h;cases h
   . rw [decide_eq_false h1,cond_false] at h
     have hsz:(x1f s).size<=s.size+1:=by
      unfold x1f;have h42:(⟨#[42]⟩:ByteArray).size=1:=rfl
      cases xb1 s ⟨#[49]⟩
      . simp only [cond_false,ByteArray.size_append];omega
      . simp only [cond_true,vtp];omega
     obtain ⟨a,b⟩:=wre _ _ _ _ h (by omega) (fun x hx=>by cases hx);exact ⟨by simp at a;omega,b⟩
def Dm.acc (x y:Dm) (e:Int):Dm:=⟨x.a+y.a*e,x.b+y.b*e,x.c+y.c*e,x.d+y.d*e,x.e+y.e*e,x.f+y.f*e⟩
def v8n:List It->Un->Option Un
 | [],u=>some u
 | x::l,u=>match wb0 x.w with
  | none=>none
  | some v=>v8n l ⟨u.d.acc v.d x.e,v8c u.f v.f x.e⟩
def wrt (s:ByteArray):Option Un×Int:=match vdu s with
 | none=>(none,12)
 | some l=>match v8n l ⟨Dm.zero,(1:Int)⟩ with
  | none=>(none,11)
  | some u=>bif wpm u.d then (some u,0) else (none,3)
def Dm.le (d:Dm) (n:Int):Prop:=(-n<=d.a/\d.a<=n)/\(-n<=d.b/\d.b<=n)/\(-n<=d.c/\d.c<=n)/\(-n<=d.d/\d.d<=n)/\(-n<=d.e/\d.e<=n)/\(-n<=d.f/\d.f<=n)
theorem x9p {a e:Int} (ha:0<=a/\a<=3) (he:-9<=e/\e<=9):-27<=a*e/\a*e<=27:=by
 have:a=0\/a=1\/a=2\/a=3:=by omega
 rcases this with rfl | rfl | rfl | rfl<;>omega
theorem Dm.vfd {x y:Dm} {e n:Int} (hx:x.le n) (hy:y.in03) (he:-9<=e/\e<=9):(x.acc y e).le (n+27):=by
 obtain ⟨a1,a2,a3,a4,a5,a6⟩:=hx;obtain ⟨b1,b2,b3,b4,b5,b6⟩:=hy;have c1:=x9p b1 he;have c2:=x9p b2 he;have c3:=x9p b3 he;have c4:=x9p b4 he;have c5:=x9p b5 he;have c6:=x9p b6 he;unfold Dm.le Dm.acc;simp only;omega
theorem w5z:qs ((1:Int):Rat)<=1:=by
 show max (dig (1:Nat)).length (dig (1:Nat)).length<=1
 have:=yep (n:=1) (k:=1) (by decide)
 omega
def dmO:Option Un->Dm
 | some u=>u.d
 | none=>Dm.zero
def fcO (i:Nat):Option Un->Cell
 | some u=>(fQ u.f).getD i .zc
 | none=>[cI 0,.zc,cI 0,.zc].getD i .zc
abbrev unX (o:Option Un):List Cell:=[cI (dmO o).a,cI (dmO o).b,cI (dmO o).c,cI (dmO o).d,cI (dmO o).e,cI (dmO o).f,fcO 0 o,fcO 1 o,fcO 2 o,fcO 3 o]
theorem z51 (o:Option Un):unO o=unX o:=by cases o<;>rfl
end Go.Hp.T
namespace Go.Hp.T
open Go Go.RowKit Go.Slot Go.Hp Go.Slot.T
open Go.Proofs.Tryz (prog)
set_option maxRecDepth 10000
set_option maxHeartbeats 4000000
variable {Γ:List (Nat×List Cell)}
theorem zkx (c:Int):CallsD Γ prog 136 [.one (c8 c)] (.one (cB (yf0 c))):=by
 refine CallsD.run [] Go.Proofs.Tryz.func136 rfl rfl rfl ?_;simp only [Go.Proofs.Tryz.f136];refine hgR ?_
 repeat' ((first | refine hfk ?_ ?_<;>intros | refine hik ?_)<;>refine hgS ?_)
 all_goals (refine RLe.ofEq ?_;conv=>simp only [Bool.and_true,Bool.true_and,Bool.and_false,Bool.false_and,Bool.or_true,Bool.true_or,Bool.or_false,Bool.false_or,Bool.not_true,Bool.not_false,decide_true,decide_false,not_true_eq_false,not_false_eq_true,x9k,if_true,if_false,Bool.and_self,Bool.or_self,cond_true,cond_false,List.length_map,ne_eq,Int.reduceEq,Int.reduceLT,Int.reduceLE, *,yf0]);first | exact trivial | rfl
theorem xev (b e p q:Int) (hb:b=0\/b=1\/b=2\/b=3\/b=4\/b=5) (hp:inI p) (hq:inI q) (hq0:q≠0):CallsD Γ prog 137 [.one (cI b),.one (cI e),.one (cI p),.one (cI q)] (.agg (unC (unOf b e p q))):=by
 rcases hb with rfl | rfl | rfl | rfl | rfl | rfl
 all_goals
  refine CallsD.run [] Go.Proofs.Tryz.func137 rfl rfl rfl ?_;simp only [Go.Proofs.Tryz.f137];refine hgR ?_
  repeat' ((first | refine hfk ?_ ?_<;>intros | refine hik ?_ | with_reducible first | refine y5m (qOf p q hp hq hq0) ?_ | refine vtc (qOf p q hp hq hq0) ?_)<;>refine hgS ?_)
  exact RLe.ofEq rfl
theorem vly (s:ByteArray):CallsD Γ prog 84 [.one (cS s)] (.tup [.agg (unO (symF s)),.one (cB (symF s).isSome)]):=by
 have h1:=xev (Γ:=Γ) 0 1 1 1 (by decide) (by decide) (by decide) (by decide);have h2:=xev (Γ:=Γ) 0 1 1000000 1 (by decide) (by decide) (by decide) (by decide);have h3:=xev (Γ:=Γ) 1 1 1 1 (by decide) (by decide) (by decide) (by decide);have h4:=xev (Γ:=Γ) 1 3 1 1000 (by decide) (by decide) (by decide) (by decide);have h5:=xev (Γ:=Γ) 2 1 1 1 (by decide) (by decide) (by decide) (by decide);have h6:=xev (Γ:=Γ) 2 1 3600 1 (by decide) (by decide) (by decide) (by decide);have h7:=xev (Γ:=Γ) 2 1 86400 1 (by decide) (by decide) (by decide) (by decide);have h8:=xev (Γ:=Γ) 3 1 1 1 (by decide) (by decide) (by decide) (by decide);have h9:=xev (Γ:=Γ) 3 1 3600 1 (by decide) (by decide) (by decide) (by decide);have h10:=xev (Γ:=Γ) 4 1 1 1 (by decide) (by decide) (by decide) (by decide);have h11:=xev (Γ:=Γ) 4 1 100 1 (by decide) (by decide) (by decide) (by decide);have h12:=xev (Γ:=Γ) 5 1 1 1 (by decide) (by decide) (by decide) (by decide);refine CallsD.run [] Go.Proofs.Tryz.func84 rfl rfl rfl ?_;simp only [Go.Proofs.Tryz.f84];refine hgR ?_
 repeat' ((first | refine hfk ?_ ?_<;>intros | refine hik ?_ | with_reducible first | refine y5m (h1) ?_ | refine vtc (h1) ?_ | refine y5m (h2) ?_ | refine vtc (h2) ?_ | refine y5m (h3) ?_ | refine vtc (h3) ?_ | refine y5m (h4) ?_ | refine vtc (h4) ?_ | refine y5m (h5) ?_ | refine vtc (h5) ?_ | refine y5m (h6) ?_ | refine vtc (h6) ?_ | refine y5m (h7) ?_ | refine vtc (h7) ?_ | refine y5m (h8) ?_ | refine vtc (h8) ?_ | refine y5m (h9) ?_ | refine vtc (h9) ?_ | refine y5m (h10) ?_ | refine vtc (h10) ?_ | refine y5m (h11) ?_ | refine vtc (h11) ?_ | refine y5m (h12) ?_ | refine vtc (h12) ?_)<;>refine hgS ?_)
 all_goals (refine RLe.ofEq ?_;conv=>simp only [Bool.and_true,Bool.true_and,Bool.and_false,Bool.false_and,Bool.or_true,Bool.true_or,Bool.or_false,Bool.false_or,Bool.not_true,Bool.not_false,decide_true,decide_false,not_true_eq_false,not_false_eq_true,x9k,if_true,if_false,Bool.and_self,Bool.or_self,cond_true,cond_false,List.length_map,ne_eq,Int.reduceEq,Int.reduceLT,Int.reduceLE, *,symF,unO,Option.isSome]);first | exact trivial | rfl
theorem wgn (c:Int):CallsD Γ prog 85 [.one (c8 c)] (.tup [.one (cI (preO (preF c)).1),.one (cI (preO (preF c)).2),.one (cB (preF c).isSome)]):=by
 refine CallsD.run [] Go.Proofs.Tryz.func85 rfl rfl rfl ?_;simp only [Go.Proofs.Tryz.f85];refine hgR ?_
 repeat' ((first | refine hfk ?_ ?_<;>intros | refine hik ?_)<;>refine hgS ?_)
 all_goals (refine RLe.ofEq ?_;conv=>simp only [Bool.and_true,Bool.true_and,Bool.and_false,Bool.false_and,Bool.or_true,Bool.true_or,Bool.or_false,Bool.false_or,Bool.not_true,Bool.not_false,decide_true,decide_false,not_true_eq_false,not_false_eq_true,x9k,if_true,if_false,Bool.and_self,Bool.or_self,cond_true,cond_false,List.length_map,ne_eq,Int.reduceEq,Int.reduceLT,Int.reduceLE, *,preF,preO,Option.isSome]);first | exact trivial | rfl
theorem zdt (s:ByteArray):CallsD Γ prog 86 [.one (cS s)] (.one (cB (xg4 s))):=by
 refine CallsD.run [] Go.Proofs.Tryz.func86 rfl rfl rfl ?_;simp only [Go.Proofs.Tryz.f86];refine hgR ?_
 repeat' ((first | refine hfk ?_ ?_<;>intros | refine hik ?_)<;>refine hgS ?_)
 all_goals (refine RLe.ofEq ?_;conv=>simp only [Bool.and_true,Bool.true_and,Bool.and_false,Bool.false_and,Bool.or_true,Bool.true_or,Bool.or_false,Bool.false_or,Bool.not_true,Bool.not_false,decide_true,decide_false,not_true_eq_false,not_false_eq_true,x9k,if_true,if_false,Bool.and_self,Bool.or_self,cond_true,cond_false,List.length_map,ne_eq,Int.reduceEq,Int.reduceLT,Int.reduceLE, *,xg4]);first | exact trivial | rfl
theorem sExt (s:ByteArray) (i:Nat):s.extract 0 i=wen s i:=rfl
theorem zh8 (s:ByteArray) (i:Nat):s.extract i s.size=vae s i:=rfl
attribute [go_sem] sExt zh8
theorem ysd (s p:ByteArray) (_hs:s.size<=1073741824) (hp:p.size<=1073741824):CallsD Γ prog 182 [.one (cS s),.one (cS p)] (.one (cB (xb1 s p))):=by
 refine CallsD.run [] Go.Proofs.Tryz.func182 rfl rfl rfl ?_;simp only [Go.Proofs.Tryz.f182];refine hgR ?_
 repeat' ((first | refine hfk ?_ ?_<;>intros | refine hik ?_)<;>refine hgS ?_)
 all_goals (refine RLe.ofEq ?_;conv=>simp only [Bool.and_true,Bool.true_and,Bool.and_false,Bool.false_and,Bool.or_true,Bool.true_or,Bool.or_false,Bool.false_or,Bool.not_true,Bool.not_false,decide_true,decide_false,not_true_eq_false,not_false_eq_true,x9k,if_true,if_false,Bool.and_self,Bool.or_self,cond_true,cond_false,List.length_map,ne_eq,Int.reduceEq,Int.reduceLT,Int.reduceLE, *,xb1]);first | exact trivial | rfl
theorem weu (s p:ByteArray) (hs:s.size<=1073741824) (hp:p.size<=1073741824):CallsD Γ prog 135 [.one (cS s),.one (cS p)] (.tup [.one (cS (bif xb1 s p then vae s p.size else s)),.one (cB (xb1 s p))]):=by
 refine CallsD.run [] Go.Proofs.Tryz.func135 rfl rfl rfl ?_;simp only [Go.Proofs.Tryz.f135];refine hgR ?_;refine y5m (ysd s p hs hp) ?_;refine hg ?_;refine whn (fun h=>?_) (fun h=>?_)
 . refine hg ?_
   (refine RLe.ofEq ?_;conv=>simp only [Bool.and_true,Bool.true_and,Bool.and_false,Bool.false_and,Bool.or_true,Bool.true_or,Bool.or_false,Bool.false_or,Bool.not_true,Bool.not_false,decide_true,decide_false,not_true_eq_false,not_false_eq_true,x9k,if_true,if_false,Bool.and_self,Bool.or_self,cond_true,cond_false,List.length_map,ne_eq,Int.reduceEq,Int.reduceLT,Int.reduceLE, *]);first | exact trivial | rfl
 . have hle:p.size<=s.size:=by
    simp only [xb1,Bool.and_eq_true,decide_eq_true_eq] at h;omega
   refine hg ?_
   (refine RLe.ofEq ?_;conv=>simp only [Bool.and_true,Bool.true_and,Bool.and_false,Bool.false_and,Bool.or_true,Bool.true_or,Bool.or_false,Bool.false_or,Bool.not_true,Bool.not_false,decide_true,decide_false,not_true_eq_false,not_false_eq_true,x9k,if_true,if_false,Bool.and_self,Bool.or_self,cond_true,cond_false,List.length_map,ne_eq,Int.reduceEq,Int.reduceLT,Int.reduceLE, *]);first | exact trivial | rfl
theorem vp5 (s p:ByteArray) (hs:s.size<=1073741824) (hp:p.size<=1073741824):CallsD Γ prog 81 [.one (cS s),.one (cS p)] (.tup [.one (cS (bif xb1 s p then vae s p.size else s)),.one (cB (xb1 s p))]):=by
 refine CallsD.run [] Go.Proofs.Tryz.func81 rfl rfl rfl ?_;simp only [Go.Proofs.Tryz.f81];refine hgR ?_
 repeat' ((first | refine hfk ?_ ?_<;>intros | refine hik ?_ | with_reducible first | refine y5m (weu s p hs hp) ?_ | refine vtc (weu s p hs hp) ?_)<;>refine hgS ?_)
 all_goals (refine RLe.ofEq ?_;conv=>simp only [Bool.and_true,Bool.true_and,Bool.and_false,Bool.false_and,Bool.or_true,Bool.true_or,Bool.or_false,Bool.false_or,Bool.not_true,Bool.not_false,decide_true,decide_false,not_true_eq_false,not_false_eq_true,x9k,if_true,if_false,Bool.and_self,Bool.or_self,cond_true,cond_false,List.length_map,ne_eq,Int.reduceEq,Int.reduceLT,Int.reduceLE, *]);first | exact trivial | rfl
theorem cCut (s:ByteArray) (hs:s.size<=1073741824):CallsD Γ prog 82 [.one (cS s)] (.tup [.agg (itC (wn0 s)),.one (cS (y7g s)),.one (cB (xu7 s))]):=by
 refine CallsD.run [] Go.Proofs.Tryz.func82 rfl rfl rfl ?_;simp only [Go.Proofs.Tryz.f82];refine hgR ?_;refine y31 [0,2] (fun n:Nat=>[(5,.one (.dat (cI n)))]) (fun _=>[.box [.dat (cS ⟨⟨[]⟩⟩),.dat (cI 0)] (some 88)]) (fun n=>n<=s.size/\∀ j,j<n->yf0 (v7r s j)=true) (fun n=>s.size-n) 0 ⟨Nat.zero_le _,fun j hj=>by omega⟩ ?_ ?_
 . refine hg ?_;exact StH.same svl rfl
 intro n hn;obtain ⟨hn,hj⟩:=hn;refine hg ?_;refine xtq (fun hlt hd=>?_) (fun hlt _=>?_)
 . conv=>simp (maxSteps:=2000000) (disch:=omega) only [go_sem,Nat.reduceAdd,Nat.reduceSub,Nat.reduceMul,Int.reduceToNat,Nat.reduceEqDiff,Nat.reduceBEq,Nat.reduceBneDiff,Nat.reduceLT,Int.reduceEq,Int.reduceLT,Int.reduceLE,Int.reduceNeg,Int.reduceAdd,Int.reduceSub,Int.reduceMul,hd]
   refine y5m (zkx _) ?_;refine hg ?_;refine x7y (fun h1=>?_) (fun h1=>?_)
   . refine hg ?_;refine ⟨n+1,⟨by omega,fun j hj'=>?_⟩,by omega,StH.same svl rfl⟩
     rcases Nat.lt_or_eq_of_le (Nat.le_of_lt_succ hj') with h2 | h2
     . exact hj j h2
     . rw [h2];exact h1
   . have hsp:=zpd hn hj (.inr h1);clear h1;refine hg ?_
     repeat' ((first | refine hfk ?_ ?_<;>intros | refine hik ?_)<;>refine hgS ?_)
     all_goals (refine RLe.ofEq ?_;conv=>simp only [Bool.and_true,Bool.true_and,Bool.and_false,Bool.false_and,Bool.or_true,Bool.true_or,Bool.or_false,Bool.false_or,Bool.not_true,Bool.not_false,decide_true,decide_false,not_true_eq_false,not_false_eq_true,x9k,if_true,if_false,Bool.and_self,Bool.or_self,cond_true,cond_false,List.length_map,ne_eq,Int.reduceEq,Int.reduceLT,Int.reduceLE, *,wn0,y7g,zaj,y20,xu7,hsp]);first | exact trivial | rfl
 . have hsp:=zpd hn hj (.inl (by omega));refine hgS ?_
   repeat' ((first | refine hfk ?_ ?_<;>intros | refine hik ?_)<;>refine hgS ?_)
   all_goals (refine RLe.ofEq ?_;conv=>simp only [Bool.and_true,Bool.true_and,Bool.and_false,Bool.false_and,Bool.or_true,Bool.true_or,Bool.or_false,Bool.false_or,Bool.not_true,Bool.not_false,decide_true,decide_false,not_true_eq_false,not_false_eq_true,x9k,if_true,if_false,Bool.and_self,Bool.or_self,cond_true,cond_false,List.length_map,ne_eq,Int.reduceEq,Int.reduceLT,Int.reduceLE, *,wn0,y7g,zaj,y20,xu7,hsp]);first | exact trivial | rfl
theorem wxi (s:ByteArray) (hs:s.size<=1073741824) (h1:1<=s.size):CallsD Γ prog 40 [.one (cS s)] (.tup [.agg (unO (wb0 s)),.one (cB (wb0 s).isSome)]):=by
 refine CallsD.run [] Go.Proofs.Tryz.func40 rfl rfl rfl ?_;simp only [Go.Proofs.Tryz.f40];refine hgR ?_;refine y5m (vly s) ?_
 cases hy:symF s with
 | some u=>
  conv=>simp (maxSteps:=2000000) (disch:=omega) only [go_sem,Nat.reduceAdd,Nat.reduceSub,Nat.reduceMul,Int.reduceToNat,Nat.reduceEqDiff,Nat.reduceBEq,Nat.reduceBneDiff,Nat.reduceLT,Int.reduceEq,Int.reduceLT,Int.reduceLE,Int.reduceNeg,Int.reduceAdd,Int.reduceSub,Int.reduceMul,unO,Option.isSome]
  exact RLe.ofEq (by simp only [wb0,hy];rfl)
 | none=>
  conv=>simp (maxSteps:=2000000) (disch:=omega) only [go_sem,Nat.reduceAdd,Nat.reduceSub,Nat.reduceMul,Int.reduceToNat,Nat.reduceEqDiff,Nat.reduceBEq,Nat.reduceBneDiff,Nat.reduceLT,Int.reduceEq,Int.reduceLT,Int.reduceLE,Int.reduceNeg,Int.reduceAdd,Int.reduceSub,Int.reduceMul,unO,Option.isSome]
  refine y5m (wgn _) ?_;refine hg ?_;refine y5m (vly _) ?_
  cases hp:preF (v7r s 0) with
  | none=>
   cases hy2:symF (vae s 1)<;>
   . conv=>simp (maxSteps:=2000000) (disch:=omega) only [go_sem,Nat.reduceAdd,Nat.reduceSub,Nat.reduceMul,Int.reduceToNat,Nat.reduceEqDiff,Nat.reduceBEq,Nat.reduceBneDiff,Nat.reduceLT,Int.reduceEq,Int.reduceLT,Int.reduceLE,Int.reduceNeg,Int.reduceAdd,Int.reduceSub,Int.reduceMul,unO,Option.isSome]
     exact RLe.ofEq (by simp only [wb0,hy,hp];rfl)
  | some p=>
   cases hy2:symF (vae s 1) with
   | none=>
    conv=>simp (maxSteps:=2000000) (disch:=omega) only [go_sem,Nat.reduceAdd,Nat.reduceSub,Nat.reduceMul,Int.reduceToNat,Nat.reduceEqDiff,Nat.reduceBEq,Nat.reduceBneDiff,Nat.reduceLT,Int.reduceEq,Int.reduceLT,Int.reduceLE,Int.reduceNeg,Int.reduceAdd,Int.reduceSub,Int.reduceMul,unO,Option.isSome]
    exact RLe.ofEq (by simp only [wb0,hy,hp,hy2];rfl)
   | some u=>
    obtain ⟨_,hu1,_⟩:=wf0 hy2;obtain ⟨hp1,hp2⟩:=w94 hp;obtain ⟨hf1,_⟩:=vmj hp1 hp2
    conv=>simp (maxSteps:=2000000) (disch:=omega) only [go_sem,Nat.reduceAdd,Nat.reduceSub,Nat.reduceMul,Int.reduceToNat,Nat.reduceEqDiff,Nat.reduceBEq,Nat.reduceBneDiff,Nat.reduceLT,Int.reduceEq,Int.reduceLT,Int.reduceLE,Int.reduceNeg,Int.reduceAdd,Int.reduceSub,Int.reduceMul,unO,Option.isSome,preO]
    repeat' ((first | refine hfk ?_ ?_<;>intros | refine hik ?_ | with_reducible first | refine y5m (zdt _) ?_ | refine vtc (zdt _) ?_ | refine y5m (qOf p.1 p.2 (by unfold inI;omega) (by unfold inI;omega) (by omega)) ?_ | refine vtc (qOf p.1 p.2 (by unfold inI;omega) (by unfold inI;omega) (by omega)) ?_ | refine y5m (qMul _ _ (Nat.le_trans hu1 (by decide)) (Nat.le_trans hf1 (by decide))) ?_ | refine vtc (qMul _ _ (Nat.le_trans hu1 (by decide)) (Nat.le_trans hf1 (by decide))) ?_)<;>refine hgS ?_)
    all_goals rename_i hq
    all_goals exact RLe.ofEq (by simp only [wb0,hy,hp,hy2,hq];rfl)
theorem yaa (a f:Rat) (x:Int) (hx:x.natAbs<=1000) (ha:qs a<=100000) (hf:qs f<=1000) (hf0:f≠0):CallsD Γ prog 41 [.agg (fQ a),.agg (fQ f),.one (cI x)] (.agg (fQ (v8c a f x))):=by
 refine CallsD.run [] Go.Proofs.Tryz.func41 rfl rfl rfl ?_;simp only [Go.Proofs.Tryz.f41];refine hgR ?_;refine y31 [2,3,4,6,10] (fun i:Nat=>[(11,.one (.dat (cI i)))]) (fun i=>[.box ((fQ (pw a f x i)).map .dat) (some 33),.box ((fQ f).map .dat) (some 33),.box [.dat (cI 0),.dat .zc,.dat (cI 0),.dat .zc] (some 33)]) (fun i=>i<=x.natAbs) (fun i=>x.natAbs-i) 0 (Nat.zero_le _) ?_ ?_
 . refine hg ?_;exact StH.same svl (by rw [v23])
 intro i hi;have hq:=wma a f x i;have hm:i*(qs f+1)<=1000*1001:=Nat.mul_le_mul (by omega) (by omega);refine hg ?_;refine zkv (fun hlt _=>?_) (fun hlt _=>?_)
 . refine hg ?_;refine zkv (fun hp hd=>?_) (fun hp hd=>?_)
   . refine hg ?_;refine y5m (qMul (pw a f x i) f (by omega) (by omega)) ?_;refine hg ?_;exact ⟨i+1,by omega,by omega,StH.same svl (by rw [wi6 hp])⟩
   . refine hg ?_;refine y5m (qDiv (pw a f x i) f hf0 (by omega) (by omega)) ?_;refine hg ?_;exact ⟨i+1,by omega,by omega,StH.same svl (by rw [xi3 hp])⟩
 . refine hg ?_
   have e:i=x.natAbs:=by omega
   subst e;exact RLe.ofEq rfl
theorem xoq (s:ByteArray) (hs:s.size<=1073741824):CallsD Γ prog 38 [.one (cS s)] (.tup [.one (.sl 2 ((itO (vdu s)).map It.C)),.one (cB (vdu s).isSome)]):=by
 have bad:∀ b,vdu s=none->b=false->RLe (.tup [.one (.raw (.slice none 0 0)),.one (cB b)]) (.tup [.one (.sl 2 ((itO (vdu s)).map It.C)),.one (cB (vdu s).isSome)]):=fun b h hb=>by
  rw [h,hb];exact .tup (.cons (.one (.nilSl 2)) (.cons (.refl _) .nil))
 refine CallsD.run [(9,[.join])] Go.Proofs.Tryz.func38 rfl rfl rfl ?_;simp only [Go.Proofs.Tryz.f38];refine hgR ?_
 repeat' ((first | refine hfk ?_ ?_<;>intros | refine hik ?_)<;>refine hgS ?_)
 . exact .tup (.cons (.one (by rename_i h;simp only [vdu,h];exact .nilSl 2)) (.cons (by rename_i h;simp only [vdu,h];exact .refl _) .nil))
 . refine bad _ (by simp only [vdu, *];rfl) rfl
 refine y5m (vp5 _ _ hs (by decide)) ?_;refine hgS ?_;refine x62 [2,3,4] (fun r:ByteArray=>[(5,.one (.dat (cS r)))]) (fun _=>[]) (fun r=>r=x1f s) ?_ ?_
 . refine hg ?_;refine whn (fun h=>?_) (fun h=>?_)
   . refine hg ?_;refine ⟨_,rfl,?_⟩;simp only [x1f,h];exact StH.same svl rfl
   . refine hg ?_;refine ⟨_,rfl,?_⟩;simp only [x1f,h];exact StH.same svl rfl
 intro r0 hr0
 have h0:vdu s=y3g (s.size+2) r0 []:=by simp only [vdu, *];rfl
 have hsz:r0.size<=s.size+1:=by
  rw [hr0];unfold x1f;have h42:(⟨#[42]⟩:ByteArray).size=1:=rfl
  cases xb1 s ⟨#[49]⟩
  . simp only [cond_false,ByteArray.size_append];omega
  . simp only [cond_true,vtp];omega
 clear hr0;refine hg ?_;refine y31 [2,3] (fun p:Nat×ByteArray×List It=>[(4,.one (.sl 0 2 0 p.2.2.length)),(5,.one (.dat (cS p.2.1)))]) (fun p=>[.arr (.sl 2 (p.2.2.map It.C)) 0 (some 88)])
  (fun p=>p.2.1.size<p.1/\p.2.1.size<=1073741824/\p.2.2.length+p.2.1.size<=100/\y3g p.1 p.2.1 p.2.2=vdu s) (fun p=>p.2.1.size) (s.size+2,r0,[]) ⟨by simp only;omega,by simp only;omega,by simp only [List.length_nil];omega,h0.symm⟩ ?_ ?_
 . refine hg ?_;refine StH.trans (StH.empty (d:=4) (es:=2) (c:=.sl 2 []) (T:=some 88) rfl rfl (fun r hr=>by cases hr) rfl) ?_;refine hg ?_;exact StH.same svl rfl
 rintro ⟨k,r,acc⟩ ⟨h1,h2,h3,h4⟩;simp only at h1 h2 h3 h4;clear h0 hsz;obtain ⟨k,rfl⟩:∃ m,k=m+1:=⟨k-1,by omega⟩;rw [y3g] at h4;refine hg ?_;refine zkv (fun hne _=>?_) (fun he _=>?_)
 . have hne':=decide_eq_false hne;rw [hne',cond_false] at h4;have hd':=vtp r 1;refine hg ?_;have hcs:=xhh (vae r 1);have hce:=voq (vae r 1);rw [hd'] at hcs;refine y5m (cCut (vae r 1) (by rw [hd'];omega)) ?_;refine hg ?_
   have g1:(y7g (vae r 1)).size<k:=by omega
   have g2:(y7g (vae r 1)).size<=1073741824:=by omega
   have g3:∀ x:It,(acc++[x]).length+(y7g (vae r 1)).size<=100:=fun x=>by rw [List.length_append,List.length_singleton];omega
   have g4:(y7g (vae r 1)).size<r.size:=by omega
   have hmap:∀ x:It,acc.map It.C++[itC x]=(acc++[x]).map It.C:=fun x=>by simp;rfl
   repeat' ((first | refine hfk ?_ ?_<;>intros | refine hik ?_)<;>refine hgS ?_)
   . exact bad _ (by rw [<-h4];simp only [*];rfl) rfl
   . rename_i h47 _
     have h4':y3g k (y7g (vae r 1)) (acc++[⟨(wn0 (vae r 1)).w,0-(wn0 (vae r 1)).e⟩])=vdu s:=by
      rw [<-h4];simp only [*,ve0];rfl
     refine ⟨(k,y7g (vae r 1),acc++[⟨(wn0 (vae r 1)).w,0-(wn0 (vae r 1)).e⟩]),?_,?_,?_⟩
     . dsimp only;exact ⟨g1,g2,g3 _,h4'⟩
     . dsimp only;exact g4
     rw [hmap ⟨(wn0 (vae r 1)).w,0-(wn0 (vae r 1)).e⟩];refine StH.back [2,3,4,5] 0 2 1 rfl rfl rfl rfl rfl (by kernel_rfl) ?_;refine hg ?_;exact StH.same svl rfl
   . exfalso;omega
   . exfalso;omega
   . have h4':y3g k (y7g (vae r 1)) (acc++[wn0 (vae r 1)])=vdu s:=by
      rw [<-h4];simp only [*,ve0];rfl
     refine ⟨(k,y7g (vae r 1),acc++[wn0 (vae r 1)]),?_,?_,?_⟩
     . dsimp only;exact ⟨g1,g2,g3 _,h4'⟩
     . dsimp only;exact g4
     try rw [hmap (wn0 (vae r 1))]
     refine StH.back [2,3,4,5] 0 2 1 rfl rfl rfl rfl rfl (by kernel_rfl) ?_;refine hg ?_;exact StH.same svl rfl
   . exact bad _ (by rw [<-h4];simp only [*];rfl) rfl
 . refine hg ?_;have he':decide (r.size=0)=true:=decide_eq_true (by omega);rw [he',cond_true] at h4;rw [<-h4];exact RLe.ofEq rfl
theorem xle (s:ByteArray) (hs:s.size<=1073741824):CallsD Γ prog 15 [.one (cS s)] (.tup [.agg (unO (wrt s).1),.one (cI (wrt s).2)]):=by
 refine CallsD.run [] Go.Proofs.Tryz.func15 rfl rfl rfl ?_;simp only [Go.Proofs.Tryz.f15];refine hgR ?_;refine y5m (xoq s hs) ?_
 cases hi:vdu s with
 | none=>
  conv=>simp (maxSteps:=2000000) (disch:=omega) only [go_sem,Nat.reduceAdd,Nat.reduceSub,Nat.reduceMul,Int.reduceToNat,Nat.reduceEqDiff,Nat.reduceBEq,Nat.reduceBneDiff,Nat.reduceLT,Int.reduceEq,Int.reduceLT,Int.reduceLE,Int.reduceNeg,Int.reduceAdd,Int.reduceSub,Int.reduceMul,Option.isSome,itO]
  exact RLe.ofEq (by simp only [wrt,hi];rfl)
 | some l=>
  obtain ⟨hl,hx⟩:=zi4 hi
  conv=>simp (maxSteps:=2000000) (disch:=omega) only [go_sem,Nat.reduceAdd,Nat.reduceSub,Nat.reduceMul,Int.reduceToNat,Nat.reduceEqDiff,Nat.reduceBEq,Nat.reduceBneDiff,Nat.reduceLT,Int.reduceEq,Int.reduceLT,Int.reduceLE,Int.reduceNeg,Int.reduceAdd,Int.reduceSub,Int.reduceMul,Option.isSome,itO]
  refine y5m (qInt 1 (by decide)) ?_;refine hg ?_;refine y31 [2,6,23,24] (fun p:Nat×Un=>[(25,.one (.dat (cI p.1)))]) (fun p=>[.box (unZ.map .dat) (some 44),.box ((unC p.2).map .dat) (some 44)])
   (fun p=>p.1<=l.length/\p.2.d.le (27*p.1)/\qs p.2.f<=1+100*p.1/\v8n (l.drop p.1) p.2=v8n l ⟨Dm.zero,(1:Int)⟩) (fun p=>l.length-p.1) (0,⟨Dm.zero,(1:Int)⟩) ⟨Nat.zero_le _,by unfold Dm.le;decide,w5z,rfl⟩ ?_ ?_
  . refine hg ?_;exact StH.same svl rfl
  rintro ⟨i,u⟩ ⟨h1,h2,h3,h4⟩;simp only at h1 h2 h3 h4;refine hg ?_;refine zkv (fun hlt _=>?_) (fun hlt _=>?_)
  . have hlt':i<l.length:=by omega
    have hok:=hx _ (zkt hlt');rw [y6x hlt',v8n] at h4;refine hg ?_;refine y5m (wxi _ (by have:=hok.2.1;omega) hok.1) ?_
    cases hw:wb0 (l.getD i default).w with
    | none=>
     conv=>simp (maxSteps:=2000000) (disch:=omega) only [go_sem,Nat.reduceAdd,Nat.reduceSub,Nat.reduceMul,Int.reduceToNat,Nat.reduceEqDiff,Nat.reduceBEq,Nat.reduceBneDiff,Nat.reduceLT,Int.reduceEq,Int.reduceLT,Int.reduceLE,Int.reduceNeg,Int.reduceAdd,Int.reduceSub,Int.reduceMul,Option.isSome,unO]
     rw [hw] at h4;exact RLe.ofEq (by simp only [wrt,hi,<-h4])
    | some v=>
     obtain ⟨hv1,hv2,hv3⟩:=yw3 hw;rw [hw] at h4;obtain ⟨b1,b2,b3,b4,b5,b6⟩:=h2;obtain ⟨d1,d2,d3,d4,d5,d6⟩:=hv1;have he:=hok.2.2;have c1:=x9p d1 he;have c2:=x9p d2 he;have c3:=x9p d3 he;have c4:=x9p d4 he;have c5:=x9p d5 he;have c6:=x9p d6 he
     have hq:qs (v8c u.f v.f (l.getD i default).e)<=qs u.f+9*(qs v.f+1):=by
      have:=wma u.f v.f (l.getD i default).e (l.getD i default).e.natAbs
      rw [<-wgm] at this;have h9:(l.getD i default).e.natAbs*(qs v.f+1)<=9*(qs v.f+1):=Nat.mul_le_mul_right _ (by omega);omega
     have hle:(u.d.acc v.d (l.getD i default).e).le (27*(i+1:Nat)):=by
      have:=Dm.vfd (x:=u.d) ⟨b1,b2,b3,b4,b5,b6⟩ ⟨d1,d2,d3,d4,d5,d6⟩ he
      rw [show (27*((i+1:Nat):Int))=27*i+27 from by omega];exact this
     conv=>simp (maxSteps:=2000000) (disch:=omega) only [go_sem,Nat.reduceAdd,Nat.reduceSub,Nat.reduceMul,Int.reduceToNat,Nat.reduceEqDiff,Nat.reduceBEq,Nat.reduceBneDiff,Nat.reduceLT,Int.reduceEq,Int.reduceLT,Int.reduceLE,Int.reduceNeg,Int.reduceAdd,Int.reduceSub,Int.reduceMul,Option.isSome,unO]
     repeat' ((first | refine hfk ?_ ?_<;>intros | refine hik ?_ | with_reducible refine wgj ?_ | with_reducible refine vn8 ?_ | with_reducible first | refine y5m (yaa u.f v.f (l.getD i default).e (by omega) (by omega) (by omega) hv3) ?_ | refine vtc (yaa u.f v.f (l.getD i default).e (by omega) (by omega) (by omega) hv3) ?_)<;>refine hgS ?_)
     refine ⟨(i+1,⟨u.d.acc v.d (l.getD i default).e,v8c u.f v.f (l.getD i default).e⟩),?_,?_,?_⟩
     . dsimp only;exact ⟨by omega,hle,by omega,h4⟩
     . dsimp only;omega
     refine StH.back [2,6,23,24,25] 2 2 2 rfl rfl rfl rfl rfl (by kernel_rfl) ?_;refine hg ?_;exact StH.same svl rfl
  . have h4':v8n l ⟨Dm.zero,(1:Int)⟩=some u:=by rw [<-h4,List.drop_eq_nil_of_le (by omega)];rfl
    refine hg ?_
    repeat' ((first | refine hfk ?_ ?_<;>intros | refine hik ?_ | with_reducible first | refine y5m (zyt _) ?_ | refine vtc (zyt _) ?_)<;>refine hgS ?_)
    all_goals
     rename_i hd;exact RLe.ofEq (by simp only [wrt,hi,h4',hd];rfl)
end Go.Hp.T
