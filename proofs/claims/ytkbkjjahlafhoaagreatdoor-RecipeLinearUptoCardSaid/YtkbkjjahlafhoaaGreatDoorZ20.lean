/- The proof, part Z20: Ig, P1, Na, Nb, Ih, P5, Ir. -/
import Derived.Test.YtkbkjjahlafhoaaGreatDoorZ16
import Derived.Test.YtkbkjjahlafhoaaGreatDoorZ19
import Derived.Test.YtkbkjjahlafhoaaGreatDoorZ15
namespace Go.Hp.T
open Go Go.RowKit Go.Slot Go.Hp
set_option maxRecDepth 10000
structure Un where
 d:Dm
 f:Rat
abbrev unC (u:Un):List Cell:=[cI u.d.a,cI u.d.b,cI u.d.c,cI u.d.d,cI u.d.e,cI u.d.f,.raw (.int .i64 (sg u.f.num)),.ints .i64 (dig u.f.num.natAbs),.raw (.int .i64 1),.ints .i64 (dig u.f.den)]
abbrev unZ:List Cell:=[cI 0,cI 0,cI 0,cI 0,cI 0,cI 0,cI 0,.zc,cI 0,.zc]
def unO:Option Un->List Cell
 | some u=>unC u
 | none=>unZ
def y58 (b e:Int):Dm:=⟨bif decide (b=0) then e else 0,bif decide (b=1) then e else 0,bif decide (b=2) then e else 0,bif decide (b=3) then e else 0,bif decide (b=4) then e else 0,bif decide (b=5) then e else 0⟩
def unOf (b e p q:Int):Un:=⟨y58 b e,Rat.divInt p q⟩
def symF (s:ByteArray):Option Un:=
 bif seq s ⟨#[103]⟩ then some (unOf 0 1 1 1) else
 bif seq s ⟨#[116]⟩ then some (unOf 0 1 1000000 1) else
 bif seq s ⟨#[109]⟩ then some (unOf 1 1 1 1) else
 bif seq s ⟨#[108]⟩ then some (unOf 1 3 1 1000) else
 bif seq s ⟨#[115]⟩ then some (unOf 2 1 1 1) else
 bif seq s ⟨#[104]⟩ then some (unOf 2 1 3600 1) else
 bif seq s ⟨#[100]⟩ then some (unOf 2 1 86400 1) else
 bif seq s ⟨#[74]⟩ then some (unOf 3 1 1 1) else
 bif seq s ⟨#[87,104]⟩ then some (unOf 3 1 3600 1) else
 bif seq s ⟨#[99,101,110,116]⟩ then some (unOf 4 1 1 1) else
 bif seq s ⟨#[101,117,114]⟩ then some (unOf 4 1 100 1) else
 bif seq s ⟨#[112,99]⟩ then some (unOf 5 1 1 1) else none
def zbk (s:ByteArray) (i:Nat):ByteArray:=s.extract i s.size
def y3n (s:ByteArray) (i:Nat):ByteArray:=s.extract 0 i
def preF (c:Int):Option (Int×Int):=bif decide (c=107) then some (1000,1) else bif decide (c=77) then some (1000000,1) else bif decide (c=71) then some (1000000000,1) else bif decide (c=109) then some (1,1000) else none
def preO:Option (Int×Int)->Int×Int
 | some p=>p
 | none=>(0,0)
def ygc (s:ByteArray):Bool:=seq s ⟨#[103]⟩||seq s ⟨#[109]⟩||seq s ⟨#[108]⟩||seq s ⟨#[115]⟩||seq s ⟨#[74]⟩||seq s ⟨#[87,104]⟩
theorem xnh (s:ByteArray) (i:Nat):(zbk s i).size=s.size-i:=by unfold zbk;simp
theorem vmz (s:ByteArray) (i:Nat) (h:i<=s.size):(y3n s i).size=i:=by unfold y3n;simp;omega
structure It where
 w:ByteArray
 e:Int
instance:Inhabited It:=⟨⟨⟨#[]⟩,0⟩⟩
def It.C (x:It):List Cell:=[cS x.w,cI x.e]
abbrev itC (x:It):List Cell:=[cS x.w,cI x.e]
theorem It.C_eq (x:It):x.C=itC x:=rfl
attribute [go_sem] It.C_eq
def z8g (s:ByteArray):ByteArray:=zbk s (ycl xmn s)
def vm9 (s:ByteArray):Bool:=decide (¬(z8g s).size=0)&&decide (50<=zk7 (z8g s) 0)&&decide (zk7 (z8g s) 0<=57)
def zx2 (s:ByteArray):It:=⟨y3n s (ycl xmn s),bif vm9 s then zk7 (z8g s) 0-48 else 1⟩
def yxv (s:ByteArray):ByteArray:=bif vm9 s then zbk (z8g s) 1 else z8g s
def xa7 (s:ByteArray):Bool:=decide (0<(ycl xmn s:Int))
def yf3 (s:ByteArray):Option Un:=
 bif (symF s).isSome then symF s else
 bif !(preF (zk7 s 0)).isSome||!(symF (zbk s 1)).isSome||!ygc (zbk s 1) then none else
 match preF (zk7 s 0),symF (zbk s 1) with
 | some p,some u=>some ⟨u.d,u.f*Rat.divInt p.1 p.2⟩
 | _,_=>none
def iter {α:Type} (g:α->α):Nat->α->α
 | 0,a=>a
 | n+1,a=>iter g n (g a)
theorem ysz {α:Type} (g:α->α):∀(n:Nat) (a:α),iter g (n+1) a=g (iter g n a)
 | 0,_=>rfl
 | n+1,a=>by rw [iter,ysz g n (g a),iter]
def zcr (a f:Rat) (e:Int):Rat:=bif decide (0<e) then iter (· * f) e.natAbs a else iter (· / f) e.natAbs a
theorem xzr (x y:Rat):qs (x*y)<=qs x+qs y:=Fc.x1o x y
theorem w9r (x:Rat):qs x⁻¹<=qs x+1:=by
 by_cases h:x=0
 . subst h;rw [Rat.inv_zero];exact Nat.le_succ _
 . show (Fc.of x⁻¹).sz<=(Fc.of x).sz+1
   have hn:x.num≠0:=fun e=>h (Rat.num_eq_zero.1 e)
   rw [Fc.yv7,Fc.yv7,Rat.num_inv,Rat.den_inv,if_neg hn]
   have:(x.num.sign*(x.den:Int)).natAbs=x.den:=by
    rw [Int.natAbs_mul,Int.natAbs_sign];simp [hn]
   rw [this];omega
theorem x20 (x y:Rat):qs (x / y)<=qs x+qs y+1:=by
 rw [Rat.div_def]
 have:=xzr x y⁻¹
 have:=w9r y
 omega
def Dm.in03 (d:Dm):Prop:=(0<=d.a/\d.a<=3)/\(0<=d.b/\d.b<=3)/\(0<=d.c/\d.c<=3)/\(0<=d.d/\d.d<=3)/\(0<=d.e/\d.e<=3)/\(0<=d.f/\d.f<=3)
theorem yhs {p q:Int} (hp:1<=p/\p<=1000000000) (hq:1<=q/\q<=1000000000):qs (Rat.divInt p q)<=4/\Rat.divInt p q≠0:=by
 obtain ⟨n,rfl⟩:∃ n:Nat,q=n:=⟨q.toNat,by omega⟩;rw [Rat.divInt_ofNat];refine ⟨?_,(Rat.mkRat_ne_zero (by omega)).2 (by omega)⟩
 have:=Fc.zxv p n (by omega)
 have h1:=vii (n:=p.natAbs) (by omega);have h2:=vii (n:=n) (by omega);show (Fc.of _).sz<=4;omega
theorem v02 {b e:Int} (he:0<=e/\e<=3):(y58 b e).in03:=by
 have key:∀ p:Bool,0<=(bif p then e else 0)/\(bif p then e else 0)<=3:=fun p=>by cases p<;>simp<;>omega
 exact ⟨key _,key _,key _,key _,key _,key _⟩
theorem xzj {b e p q:Int} (he:0<=e/\e<=3) (hp:1<=p/\p<=1000000000) (hq:1<=q/\q<=1000000000):(unOf b e p q).d.in03/\qs (unOf b e p q).f<=4/\(unOf b e p q).f≠0:=⟨v02 he,yhs hp hq⟩
theorem v9v {s:ByteArray} {u:Un} (h:symF s=some u):u.d.in03/\qs u.f<=4/\u.f≠0:=by
 unfold symF at h
 repeat' first
  | (cases h;exact xzj (by omega) (by omega) (by omega))
  | (cases hc:seq s _<;>rw [hc] at h<;>simp only [cond_true,cond_false] at h)
 cases h
theorem v7i {c:Int} {p:Int×Int} (h:preF c=some p):(1<=p.1/\p.1<=1000000000)/\(1<=p.2/\p.2<=1000000000):=by
 unfold preF at h
 repeat' first
  | (cases h;done)
  | (cases h;simp;done)
  | (cases hc:decide (c=_)<;>rw [hc] at h<;>simp only [cond_true,cond_false] at h)
theorem v73 {s:ByteArray} {u:Un} (h:yf3 s=some u):u.d.in03/\qs u.f<=8/\u.f≠0:=by
 unfold yf3 at h
 cases h1:(symF s).isSome with
 | true=>
  rw [h1,cond_true] at h;obtain ⟨a,b,c⟩:=v9v h;exact ⟨a,by omega,c⟩
 | false=>
  rw [h1,cond_false] at h
  cases h2:(!(preF (zk7 s 0)).isSome||!(symF (zbk s 1)).isSome||!ygc (zbk s 1)) with
  | true=>rw [h2,cond_true] at h;cases h
  | false=>
   rw [h2,cond_false] at h;split at h
   . rename_i p v hp hv
     cases h;obtain ⟨a,b,c⟩:=v9v hv;obtain ⟨d,e⟩:=v7i hp;obtain ⟨f,g⟩:=yhs d e;refine ⟨a,?_,?_⟩
     . have:=xzr v.f (Rat.divInt p.1 p.2)
       show qs (v.f*_)<=8;omega
     . exact fun h0=>by
        rcases Rat.mul_eq_zero.1 h0 with h0 | h0
        . exact c h0
        . exact g h0
   . cases h
def pw (a f:Rat) (x:Int) (i:Nat):Rat:=bif decide (0<x) then iter (· * f) i a else iter (· / f) i a
theorem wrf (a f:Rat) (x:Int):pw a f x 0=a:=by unfold pw;cases decide (0<x)<;>rfl
theorem v7j {a f:Rat} {x:Int} (h:0<x) (i:Nat):pw a f x (i+1)=pw a f x i*f:=by unfold pw;rw [decide_eq_true h];exact ysz _ _ _
theorem v5f {a f:Rat} {x:Int} (h:¬0<x) (i:Nat):pw a f x (i+1)=pw a f x i / f:=by unfold pw;rw [decide_eq_false h];exact ysz _ _ _
theorem y6u (a f:Rat) (x:Int):∀ i,qs (pw a f x i)<=qs a+i*(qs f+1)
 | 0=>by rw [wrf];omega
 | i+1=>by
  have ih:=y6u a f x i;rw [Nat.add_mul,Nat.one_mul];by_cases h:0<x
  . rw [v7j h]
    have:=xzr (pw a f x i) f
    omega
  . rw [v5f h]
    have:=x20 (pw a f x i) f
    omega
theorem vak (a f:Rat) (x:Int):zcr a f x=pw a f x x.natAbs:=rfl
theorem zyi (s:ByteArray):1<=(zx2 s).e/\(zx2 s).e<=9:=by
 unfold zx2
 cases h:vm9 s with
 | false=>simp
 | true=>
  simp only [vm9,Bool.and_eq_true,decide_eq_true_eq] at h;simp only [cond_true];omega
theorem x4f (s:ByteArray):(yxv s).size<=s.size:=by
 unfold yxv z8g
 cases vm9 s<;>simp only [cond_true,cond_false,xnh]<;>omega
def xlc (c:Int) (x:It):It:=bif decide (c=47) then ⟨x.w,0-x.e⟩ else x
def whe (s p:ByteArray):Bool:=decide ((p.size:Int)<=s.size)&&seq (y3n s p.size) p
def vm5 (s:ByteArray):ByteArray:=bif whe s ⟨#[49]⟩ then zbk s 1 else ⟨#[42]⟩++s
def vbf:Nat->ByteArray->List It->Option (List It)
 | 0,_,_=>none
 | n+1,r,acc=>bif decide (r.size=0) then some acc else
  bif !xa7 (zbk r 1)||(decide (¬zk7 r 0=42)&&decide (¬zk7 r 0=47)) then none else
  vbf n (yxv (zbk r 1)) (acc++[xlc (zk7 r 0) (zx2 (zbk r 1))])
def wv0 (s:ByteArray):Option (List It):=bif decide (s.size=0) then some [] else bif decide (40<(s.size:Int)) then none else vbf (s.size+2) (vm5 s) []
def itO:Option (List It)->List It
 | some l=>l
 | none=>[]
def It.ok (x:It):Prop:=1<=x.w.size/\x.w.size<=1000/\-9<=x.e/\x.e<=9
theorem w5k {r:ByteArray} (h:xa7 r=true) (hr:r.size<=1000) (c:Int):(xlc c (zx2 r)).ok:=by
 have he:=zyi r;have hw:(zx2 r).w.size=ycl xmn r:=vmz _ _ (xd2 _ _);have hl:=xd2 xmn r
 have h0:1<=ycl xmn r:=by
  have:(0:Int)<(ycl xmn r:Int):=by simpa [xa7] using h
  omega
 unfold xlc
 cases decide (c=47)
 . exact ⟨by simp only [cond_false];omega,by simp only [cond_false];omega,by simp only [cond_false];omega,by simp only [cond_false];omega⟩
 . exact ⟨by simp only [cond_true];omega,by simp only [cond_true];omega,by simp only [cond_true];omega,by simp only [cond_true];omega⟩
theorem yu9 : ∀ (n : Nat) (r : ByteArray) (acc l : List It), vbf n r acc = some l → r.size ≤ 1000 → (∀ x ∈ acc, x.ok) → l.length ≤ acc.length + r.size ∧ ∀ x ∈ l, x.ok
 | 0,_,_,_,h,_,_=>by cases h
 | n + 1, r, acc, l, h, hr, ha => by
  rw [vbf] at h;by_cases h0:r.size=0
  . rw [decide_eq_true h0,cond_true] at h;cases h;exact ⟨by omega,ha⟩
  . rw [decide_eq_false h0, cond_false] at h
    cases hb:(!xa7 (zbk r 1)||(decide (¬zk7 r 0=42)&&decide (¬zk7 r 0=47))) with
    | true=>rw [hb,cond_true] at h;cases h
    | false=>
     rw [hb,cond_false] at h
     have hok:xa7 (zbk r 1)=true:=by
      cases hc:xa7 (zbk r 1) with
      | true=>rfl
      | false=>rw [hc] at hb;simp at hb
     have hd:=xnh r 1;have hcs:=x4f (zbk r 1)
     obtain ⟨h1,h2⟩:=yu9 n _ _ _ h (by omega) (fun x hx=>by
      rcases List.mem_append.1 hx with hx | hx
      . exact ha x hx
      . simp at hx;subst hx;exact w5k hok (by omega) _)
     refine ⟨?_,h2⟩;rw [List.length_append,List.length_singleton] at h1;omega
theorem yps {s : ByteArray} {l : List It} (h : wv0 s = some l) : l.length ≤ 41 ∧ ∀ x ∈ l, x.ok := by
 unfold wv0 at h;by_cases h0:s.size=0
 . rw [decide_eq_true h0,cond_true] at h;cases h;simp
 . rw [decide_eq_false h0, cond_false] at h;by_cases h1:40<(s.size:Int)
   . rw [decide_eq_true h1,cond_true] at h;cases h
   . rw [decide_eq_false h1,cond_false] at h
     have hsz:(vm5 s).size<=s.size+1:=by
      unfold vm5;have h42:(⟨#[42]⟩:ByteArray).size=1:=rfl
      cases whe s ⟨#[49]⟩
      . simp only [cond_false,ByteArray.size_append];omega
      . simp only [cond_true,xnh];omega
     obtain ⟨a,b⟩:=yu9 _ _ _ _ h (by omega) (fun x hx=>by cases hx);exact ⟨by simp at a;omega,b⟩
def Dm.acc (x y:Dm) (e:Int):Dm:=⟨x.a+y.a*e,x.b+y.b*e,x.c+y.c*e,x.d+y.d*e,x.e+y.e*e,x.f+y.f*e⟩
def xrq:List It->Un->Option Un
 | [],u=>some u
 | x::l,u=>match yf3 x.w with
  | none=>none
  | some v=>xrq l ⟨u.d.acc v.d x.e,zcr u.f v.f x.e⟩
def xe6 (s:ByteArray):Option Un×Int:=match wv0 s with
 | none=>(none,12)
 | some l=>match xrq l ⟨Dm.zero,(1:Int)⟩ with
  | none=>(none,11)
  | some u=>bif wag u.d then (some u,0) else (none,3)
def Dm.le (d:Dm) (n:Int):Prop:=(-n<=d.a/\d.a<=n)/\(-n<=d.b/\d.b<=n)/\(-n<=d.c/\d.c<=n)/\(-n<=d.d/\d.d<=n)/\(-n<=d.e/\d.e<=n)/\(-n<=d.f/\d.f<=n)
theorem x8h {a e:Int} (ha:0<=a/\a<=3) (he:-9<=e/\e<=9):-27<=a*e/\a*e<=27:=by
 have:a=0\/a=1\/a=2\/a=3:=by omega
 rcases this with rfl | rfl | rfl | rfl<;>omega
theorem Dm.vm7 {x y:Dm} {e n:Int} (hx:x.le n) (hy:y.in03) (he:-9<=e/\e<=9):(x.acc y e).le (n+27):=by
 obtain ⟨a1,a2,a3,a4,a5,a6⟩:=hx;obtain ⟨b1,b2,b3,b4,b5,b6⟩:=hy;have c1:=x8h b1 he;have c2:=x8h b2 he;have c3:=x8h b3 he;have c4:=x8h b4 he;have c5:=x8h b5 he;have c6:=x8h b6 he;unfold Dm.le Dm.acc;simp only;omega
theorem yj5:qs ((1:Int):Rat)<=1:=by
 show max (dig (1:Nat)).length (dig (1:Nat)).length<=1
 have:=ynj (n:=1) (k:=1) (by decide)
 omega
def dmO:Option Un->Dm
 | some u=>u.d
 | none=>Dm.zero
def fcO (i:Nat):Option Un->Cell
 | some u=>(fQ u.f).getD i .zc
 | none=>[cI 0,.zc,cI 0,.zc].getD i .zc
abbrev unX (o:Option Un):List Cell:=[cI (dmO o).a,cI (dmO o).b,cI (dmO o).c,cI (dmO o).d,cI (dmO o).e,cI (dmO o).f,fcO 0 o,fcO 1 o,fcO 2 o,fcO 3 o]
theorem ynp (o:Option Un):unO o=unX o:=by cases o<;>rfl
end Go.Hp.T
namespace Go.Hp
open Go Go.RowKit Go.Slot
section
variable {P:Program} {Γ:List (Nat×List Cell)} {e:List SB} {G:List (Nat×List GhH)} {Q:Exit->Bool->List SV->List SB->Prop} {J:List SV} {η:List SB}
def y3y (Q:Exit->Bool->List SV->List SB->Prop):Exit->Bool->List SV->List SB->Prop
 | .goto _=>fun _ _ _=>False
 | .normal=>Q .normal
 | .exit id=>Q (.exit id)
 | .ret=>Q .ret
 | .panic c=>Q (.panic c)
 | .outgrown=>Q .outgrown
theorem yr4 {x:Code}:RH Γ P e G (.scope x) true Q J η=RH Γ P e G x true (y3y Q) J η:=by
 show RH Γ P e G x true (fun x=>match x with | .goto _=>fun _ _ _=>False | x=>Q x) J η=_
 congr 1
 funext x
 cases x<;>rfl
theorem z9c:y3y Q .ret=Q .ret:=_root_.id rfl
end
attribute [go_sem ↓] yr4 z9c
end Go.Hp
namespace Go.Hp.T
open Go Go.RowKit Go.Slot Go.Hp
set_option maxRecDepth 10000
structure Tk where
 k:Int
 t:ByteArray
 n:Int
 p:Int
deriving DecidableEq
instance:Inhabited Tk:=⟨⟨0,⟨#[]⟩,0,0⟩⟩
def Tk.C (x:Tk):List Cell:=[cI x.k,cS x.t,cI x.n,cI x.p]
abbrev tkC (x:Tk):List Cell:=[cI x.k,cS x.t,cI x.n,cI x.p]
theorem Tk.C_eq (x:Tk):x.C=tkC x:=_root_.id rfl
attribute [go_sem] Tk.C_eq
def ym8 (c:Int):Bool:=decide (c=32)||decide (c=9)||decide (c=10)
def xh9 (c:Int):Bool:=[40,41,44,59,58,61,60,43,45,42,47,123,125].contains c
def numV (l:List Int):Int:=l.foldl (fun n c=>10*n+(c-48)) 0
def numO (l:List Int):Bool:=!(decide (l.headD 0=48)&&!decide (l=[48])||decide (13<(l.length:Int))||decide (1099511627776<numV l))
def quoL:List Int->Option (List Int×Nat)
 | []=>none
 | c::l=>bif !y8r c then none else bif decide (c=34) then some ([],1) else bif decide (c=92) then (match l with
  | []=>none
  | d::m=>bif decide (d=34)||decide (d=92) then (quoL m).map (fun r=>(d::r.1,r.2+2)) else none)
  else (quoL l).map (fun r=>(c::r.1,r.2+1))
def yme (l:List Int):Tk×Nat×Int:=
 bif xmn (l.headD 0) then (bif decide (((l.takeWhile yb9).length:Int)<=20) then (⟨0,strOfNums (l.takeWhile yb9),0,0⟩,(l.takeWhile yb9).length,0) else (default,0,3)) else
 bif isDigit (l.headD 0) then (bif numO (l.takeWhile isDigit) then (⟨1,strOfNums (l.takeWhile isDigit),numV (l.takeWhile isDigit),0⟩,(l.takeWhile isDigit).length,0) else (default,0,3)) else
 bif decide (l.headD 0=34) then (match quoL l.tail with
  | none=>(default,0,2)
  | some (v,n)=>bif decide (400<(v.length:Int)) then (default,0,2) else (⟨2,strOfNums v,0,0⟩,n+1,0)) else
 bif xh9 (l.headD 0) then (⟨3,strOfNums (l.take 1),0,0⟩,1,0) else (default,0,10)
def gapL:Nat->List Int->Nat
 | 0,_=>0
 | f+1,l=>bif (l.drop (l.takeWhile ym8).length).headD 0==35 then
  let b:=(l.takeWhile ym8).length+((l.drop (l.takeWhile ym8).length).takeWhile (fun c=>!decide (c=10))).length
  b+gapL f (l.drop b)
  else (l.takeWhile ym8).length
abbrev Sn:=List Tk ⊕ (Nat×Int)
def x19:Nat->List Int->Nat->Sn
 | 0,_,_=>.inl []
 | f+1,l,at_=>
  let g:=gapL (l.length+1) l
  bif (l.drop g).isEmpty then .inl [] else
  match yme (l.drop g) with
  | (t,n,e)=>bif decide (¬e=0) then .inr (at_+g,e) else match x19 f (l.drop (g+n)) (at_+g+n) with
   | .inl ts=>.inl ({ t with p:=((at_+g:Nat):Int) }::ts)
   | .inr x=>.inr x
def zbb (s:ByteArray):Sn:=bif decide (4000<(s.size:Int)) then .inr (0,6) else x19 (s.size+1) (wli s) 0
def snR:Sn->AV
 | .inl ts=>.tup [.one (.sl 4 (ts.map Tk.C)),.one (cI 0),.one (cI 0)]
 | .inr (i,e)=>.tup [.one (.sl 4 []),.one (cI i),.one (cI e)]
theorem wv9 (s:ByteArray) (i:Nat):zk7 s i=((s.data.toList[i]?).getD 0).toNat:=by
 unfold zk7;rw [Array.getElem?_toList]
theorem xzt (s:ByteArray):wli s=s.data.toList.map (fun b=>(b.toNat:Int)):=by
 apply List.ext_getElem?;intro i;rw [List.getElem?_map];by_cases h:i<s.size
 . rw [v97 s i h,wv9]
   have h':i<s.data.toList.length:=by simpa using h
   rw [List.getElem?_eq_getElem h'];rfl
 . have h1:(wli s).length<=i:=by rw [wl6];omega
   have h2:s.data.toList.length<=i:=by
    have:s.data.toList.length=s.size:=by simp
    omega
   rw [List.getElem?_eq_none h1,List.getElem?_eq_none h2];rfl
theorem wyd (s:ByteArray):strOfNums (wli s)=s:=by
 rw [xzt];show (⟨((s.data.toList.map (fun b=>(b.toNat:Int))).map fun n=>UInt8.ofNat n.toNat).toArray⟩:ByteArray)=s;rw [List.map_map]
 have:(fun n:Int=>UInt8.ofNat n.toNat)∘(fun b:UInt8=>(b.toNat:Int))=id:=by
  funext b;simp
 rw [this,List.map_id]
theorem xco (s:ByteArray) (i:Nat):wli (zbk s i)=(wli s).drop i:=by
 rw [xzt,xzt];show ((s.extract i s.size).data.toList.map _)=_;rw [ByteArray.data_extract,Array.toList_extract,List.extract_eq_take_drop,List.map_take,List.map_drop,List.take_of_length_le];simp
theorem wzi (s:ByteArray) (i:Nat):wli (y3n s i)=(wli s).take i:=by
 rw [xzt,xzt];show ((s.extract 0 i).data.toList.map _)=_;rw [ByteArray.data_extract,Array.toList_extract,List.extract_eq_take_drop,List.map_take];simp
theorem yl5 (s:ByteArray) (i:Nat):y3n s i=strOfNums ((wli s).take i):=by rw [<-wzi,wyd]
theorem yyc {α:Type} (p:α->Bool):∀ l:List α,l.takeWhile p=l.take (l.takeWhile p).length
 | []=>rfl
 | a::l=>by
  cases h:p a with
  | true=>rw [List.takeWhile_cons_of_pos h,List.length_cons,List.take_succ_cons,<-yyc p l]
  | false=>rw [List.takeWhile_cons_of_neg (by rw [h];decide)];rfl
theorem wfr (p:Int->Bool) (s:ByteArray):y3n s (ycl p s)=strOfNums ((wli s).takeWhile p):=by
 rw [yl5,yyc p (wli s)];rfl
theorem z8n (s:ByteArray) (h:0<s.size):zk7 s 0=(wli s).headD 0:=by
 have:=v97 s 0 h
 cases hb:wli s with
 | nil=>rw [hb] at this;cases this
 | cons c l=>rw [hb] at this;cases this;rfl
theorem wen (s:ByteArray) (i:Nat) (h:i<s.size):(wli s).drop i=zk7 s i::(wli s).drop (i+1):=by
 rw [List.drop_eq_getElem_cons (by rw [wl6];exact h)]
 congr 1
 have:=v97 s i h
 rw [List.getElem?_eq_getElem (by rw [wl6];exact h)] at this;exact (Option.some.inj this)
end Go.Hp.T
namespace Go.Hp.T
open Go Go.RowKit Go.Slot Go.Hp Go.Slot.T
open Go.Proofs.Tryz
attribute [local irreducible] hide RH
set_option maxRecDepth 10000
set_option maxHeartbeats 4000000
variable {Γ:List (Nat×List Cell)}
theorem xe4 (c:Int):CallsD Γ prog 148 [.one (c8 c)] (.one (cB (xmn c))):=by
 refine hE [] func148 f148.eq_1 ?_
 repeat' first | refine hF ?_ ?_<;>intros | refine hI ?_
 all_goals refine lf1 @xmn.eq_def ?_;first | exact trivial | rfl
theorem y66 (c:Int):CallsD Γ prog 172 [.one (c8 c)] (.one (cB (isDigit c))):=by
 refine hE [] func172 f172.eq_1 ?_
 repeat' first | refine hF ?_ ?_<;>intros | refine hI ?_
 all_goals refine lf1 @isDigit.eq_def ?_;first | exact trivial | rfl
theorem xb7 (c:Int):CallsD Γ prog 208 [.one (c8 c)] (.one (cB (y8r c))):=by
 refine hE [] func208 f208.eq_1 ?_
 repeat' first | refine hF ?_ ?_<;>intros | refine hI ?_
 all_goals refine lf1 @y8r.eq_def ?_;first | exact trivial | rfl
theorem x5s (c:Int):CallsD Γ prog 150 [.one (c8 c)] (.one (cB (yb9 c))):=by
 refine hE [] func150 f150.eq_1 ?_
 repeat' first | refine hF ?_ ?_<;>intros | refine hI ?_ | (with_reducible first | refine w5a (xe4 _) ?_ | refine xqd (xe4 _) ?_ | refine w5a (y66 _) ?_ | refine xqd (y66 _) ?_)<;>refine hgS ?_
 all_goals refine lf1 @yb9.eq_def ?_;first | exact trivial | rfl
theorem zgr (s:ByteArray) (f:FuncId) (p:Int->Bool) (hs:s.size<=1099511627776) (h:∀ c,CallsD Γ prog f [.one (c8 c)] (.one (cB (p c)))):CallsD Γ prog 149 [.one (cS s),fN f] (.one (cI (ycl p s))):=by
 refine hE [] func149 f149.eq_1 ?_;refine vi3 [0,1] (fun n:Nat=>[(5,.one (.dat (cI n)))]) (fun _=>[]) (fun n=>n<=s.size/\∀ j,j<n->p (zk7 s j)=true) (fun n=>s.size-n) 0 ⟨Nat.zero_le _,fun j hj=>by omega⟩ ?_ ?_
 . refine hg ?_;exact StH.yxu (by repeat' first | exact .nil | refine .cons (by first | exact .refl _ | exact .any _) ?_)
 intro n hn;obtain ⟨hn,hj⟩:=hn;refine hg ?_
 repeat' first | refine hF ?_ ?_<;>intros | refine hI ?_ | (with_reducible first | refine w5a (h _) ?_ | refine xqd (h _) ?_)<;>refine hgS ?_
 . rename_i h1;refine ⟨n+1,⟨by omega,fun j hj'=>?_⟩,by omega,by exact StH.yxu (by repeat' first | exact .nil | refine .cons (by first | exact .refl _ | exact .any _) ?_)⟩
   rcases Nat.lt_or_eq_of_le (Nat.le_of_lt_succ hj') with h2 | h2
   . exact hj j h2
   . rw [h2];exact h1
 . rename_i h1;rw [xba hn hj (.inr h1)];exact RLe.ofEq rfl
 . rw [xba hn hj (.inl (by omega))];exact RLe.ofEq rfl
theorem x2a (s:ByteArray) (hs:s.size<=1099511627776):CallsD Γ prog 98 [.one (cS s)] (.one (cB (isName s))):=by
 refine hE [] func98 f98.eq_1 ?_
 repeat' first | refine hF ?_ ?_<;>intros | refine hI ?_ | (with_reducible first | refine w5a (xe4 _) ?_ | refine xqd (xe4 _) ?_ | refine w5a (zgr s _ _ hs x5s) ?_ | refine xqd (zgr s _ _ hs x5s) ?_)<;>refine hgS ?_
 all_goals refine lf1 @isName.eq_def ?_;first | exact trivial | rfl
abbrev bldB (n:Nat):SB:=.box [.ptr 0 0,.sl 1 1 0 n] (some 299)
abbrev bldA (l:List Int):SB:=.arr (.ints .u8 l) 0 (some 5)
theorem wu9:liesAt prog prog.depth 299 (2 / prog.cellsOf 299) 0 299 1=true:=by kernel_rfl
theorem coU8:prog.cellsOf 5=1:=by kernel_rfl
attribute [go_sem] wu9 coU8
theorem w9a (x:HC):z00 Γ prog 225 [.box [.dat (.raw (.pointer none)),x] (some 299)] [.one (.ptr 0 0)] [.box [.ptr 0 0,x] (some 299)] (.tup []):=by
 refine hEh [] func225 f225.eq_1 ?_;exact StH.refl
theorem yts (x:HC) (T:Option TypeId) (y:SB):z00 Γ prog 225 [.box [.ptr 0 0,x] T,y] [.one (.ptr 0 0)] [.box [.ptr 0 0,x] T,y] (.tup []):=by
 refine hEh [] func225 f225.eq_1 ?_;exact StH.refl
theorem vtr (c:Int):z00 Γ prog 219 [.box [.dat (.raw (.pointer none)),.dat .zc] (some 299)] [.one (.ptr 0 0),.one (.dat (c8 c))] [bldB 1,bldA [c]] (.one (.dat (.raw .nilIface))):=by
 refine hEh [] func219 f219.eq_1 ?_;refine xmm (w9a _) ?_;refine hg ?_;exact StH.refl
theorem w3v (l:List Int) (c:Int) (hl:l.length<=68719476736):z00 Γ prog 219 [bldB l.length,bldA l] [.one (.ptr 0 0),.one (.dat (c8 c))] [.box [.ptr 0 0,.sl 2 1 0 (l++[c]).length] (some 299),.dead,bldA (l++[c])] (.one (.dat (.raw .nilIface))):=by
 refine hEh [] func219 f219.eq_1 ?_;refine xmm (yts _ _ _) ?_;refine hg ?_;exact StH.refl
theorem zvu (l:List Int) (hl:l.all xug=true) (h0:0<l.length) (h1:l.length<=1099511627776):z00 Γ prog 220 [bldB l.length,bldA l] [.one (.ptr 0 0)] [bldB l.length,.dead] (.one (.dat (cS (strOfNums l)))):=by
 refine hEh [] func220 f220.eq_1 ?_
 conv=>simp (maxSteps:=2000000) (disch:=omega) only [go_sem,Nat.reduceAdd,Nat.reduceSub,Nat.reduceMul,Int.reduceToNat,Nat.reduceEqDiff,Nat.reduceBEq,Nat.reduceBneDiff,Nat.reduceLT,Int.reduceEq,Int.reduceLT,Int.reduceLE,Int.reduceNeg,Int.reduceAdd,Int.reduceSub,Int.reduceMul,hl,h0,true_and,show l.length<=9223372036854775807 from by omega]
 repeat' first | refine hF ?_ ?_<;>intros | refine hI ?_
 exact StH.refl
theorem z3o (s:ByteArray) (hs:s.size<=1073741824):CallsD Γ prog 215 [.one (cS s)] (.one (cS (escS s))):=by
 refine hE [] func215 f215.eq_1 ?_;refine xmm (vtr _) ?_;refine hg ?_;refine vi3 [0,2,3,7] (fun i:Nat=>[(8,.one (.dat (cI i)))]) (fun i=>[bldB (escA s i).length,bldA (escA s i)]) (fun i=>i<=s.size) (fun i=>s.size-i) 0 (Nat.zero_le _) ?_ ?_
 . refine hg ?_;exact sS
 intro i hi;have hlen:=x7n s i;refine hg ?_
 have two:∀ c,(c=34\/c=92)->i<s.size->zk7 s i=c->escA s (i+1)=escA s i++[92]++[c]:=fun c h hi h2=>by
  rw [yq8 hi,List.append_assoc,h2];rcases h with h | h<;>rw [h]<;>rfl
 repeat' first | refine hF ?_ ?_<;>intros | refine hI ?_
 . rename_i h _;refine xmm (w3v _ _ (by omega)) ?_;refine hgS ?_;refine xdg [0,2] (w3v (escA s i++[92]) _ (by simp only [List.length_append,List.length_singleton];omega)) rfl (by decide) rfl rfl rfl ?_;refine hgS ?_;rw [<-two 92 (.inr rfl) (by omega) h];refine ⟨i+1,by omega,by omega,StH.back [0,2,3,7,8] 1 3 2 rfl rfl rfl rfl rfl (by kernel_rfl) ?_⟩;refine hg ?_;exact sS
 . rename_i h1 _ h2 _ h3 _;refine xmm (w3v _ _ (by omega)) ?_;refine hgS ?_
   have one:escA s i++[zk7 s i]=escA s (i+1):=by
    rw [yq8 (by omega)];unfold escB;rw [decide_eq_false h2,decide_eq_false h3];rfl
   rw [one];refine ⟨i+1,by omega,by omega,StH.back [0,2,3,7,8] 1 2 2 rfl rfl rfl rfl rfl (by kernel_rfl) ?_⟩;refine hg ?_;exact sS
 . rename_i h _;refine xmm (w3v _ _ (by omega)) ?_;refine hgS ?_;refine xdg [0,2] (w3v (escA s i++[92]) _ (by simp only [List.length_append,List.length_singleton];omega)) rfl (by decide) rfl rfl rfl ?_;refine hgS ?_;rw [<-two 34 (.inl rfl) (by omega) h];refine ⟨i+1,by omega,by omega,StH.back [0,2,3,7,8] 1 3 2 rfl rfl rfl rfl rfl (by kernel_rfl) ?_⟩;refine hg ?_;exact sS
 . have e:i=s.size:=by omega
   subst e;refine xmm (w3v _ _ (by omega)) ?_;refine hg ?_;refine hca [0,2] (zvu (escA s s.size++[34]) (by rw [List.all_append,wyj];rfl) (by simp) (by simp only [List.length_append,List.length_singleton];omega)) ?_;exact RLe.ofEq rfl
theorem yhf (s:ByteArray) (hs:s.size<=1073741824):∃ t,CallsD Γ prog 204 [.one (cS s)] (.tup [.one (cS t),.one (cB (wgm s))]):=by
 refine ⟨bif wgm s then escS s else ⟨#[]⟩,?_⟩;refine hE [] func204 f204.eq_1 ?_
 repeat' first | refine hF ?_ ?_<;>intros | refine hI ?_ | (with_reducible first | refine w5a (zgr s _ _ (by omega) xb7) ?_ | refine xqd (zgr s _ _ (by omega) xb7) ?_ | refine w5a (z3o s hs) ?_ | refine xqd (z3o s hs) ?_)<;>refine hgS ?_
 all_goals refine lf1 @wgm.eq_def ?_;first | exact trivial | rfl
theorem zsl (s:ByteArray):CallsD Γ prog 99 [.one (cS s)] (.one (cB (isWord s))):=by
 refine hE [] func99 f99.eq_1 ?_
 repeat' first | refine hF ?_ ?_<;>intros | refine hI ?_
 all_goals refine lf1 @isWord.eq_def ?_;first | exact trivial | rfl
theorem w4v (s:ByteArray) (hs:s.size<=1099511627776):CallsD Γ prog 205 [.one (cS s)] (.one (cB (isNamed s))):=by
 refine hE [] func205 f205.eq_1 ?_
 repeat' first | refine hF ?_ ?_<;>intros | refine hI ?_ | (with_reducible first | refine w5a (x2a s hs) ?_ | refine xqd (x2a s hs) ?_ | refine w5a (zsl s) ?_ | refine xqd (zsl s) ?_)<;>refine hgS ?_
 all_goals refine lf1 @isNamed.eq_def ?_;first | exact trivial | rfl
theorem vbt (o:Int):CallsD Γ prog 206 [.one (cI o)] (.tup [.one (cS (vjo o)),.one (cB (isOp o))]):=by
 refine hE [] func206 f206.eq_1 ?_
 repeat' first | refine hF ?_ ?_<;>intros | refine hI ?_
 all_goals refine lf2 @isOp.eq_def @vjo.eq_def ?_;first | exact trivial | rfl
theorem yac (x:Ex) (hx:x.Sm):CallsD Γ prog 178 [.agg (exC x)] (.one (cB (zvw x))):=by
 have hu:=hx.u;have hs:=hx.s;have hl:=hx.len;obtain ⟨q,hq⟩:∃ q,CallsD Γ prog 204 [.one (cS x.unit)] (.tup [.one (cS q),.one (cB (wgm x.unit))]):=yhf x.unit (by omega);refine hE [] func178 f178.eq_1 ?_
 repeat' first | refine hF ?_ ?_<;>intros | refine hI ?_ | (with_reducible first | refine w5a (hq) ?_ | refine xqd (hq) ?_ | refine w5a (w4v x.name (by omega)) ?_ | refine xqd (w4v x.name (by omega)) ?_ | refine w5a (vbt _) ?_ | refine xqd (vbt _) ?_)<;>refine hgS ?_
 all_goals refine lf1 @zvw.eq_def ?_;first | exact trivial | rfl
theorem vhm (l:List Ex) (f:FuncId) (p:Ex->Bool) (hl:l.length<=1073741824) (h:∀ y∈l,CallsD Γ prog f [.agg (exC y)] (.one (cB (p y)))) :
 CallsD Γ prog 207 [.one (.sl 5 (l.map Ex.cells)),fN f] (.one (cI (idxF p l))):=by
 refine hE [] func207 f207.eq_1 ?_;refine vi3 [0,1,7] (fun i:Nat=>[(8,.one (.dat (cI i)))]) (fun _=>[]) (fun i=>i<=l.length/\∀ j,j<i->p (l.getD j default)=false) (fun i=>l.length-i) 0 ⟨Nat.zero_le _,fun j hj=>by omega⟩ ?_ ?_
 . refine hg ?_;exact sS
 intro i hi;obtain ⟨hi,hj⟩:=hi;refine hg ?_
 repeat' first | refine hF ?_ ?_<;>intros | refine hI ?_ | (with_reducible first | refine w5a (h _ (vdv (show i<l.length by omega))) ?_ | refine xqd (h _ (vdv (show i<l.length by omega))) ?_)<;>refine hgS ?_
 . rename_i hp;rw [(v04 hi hj).2 (by omega) hp];exact RLe.ofEq rfl
 . rename_i hp;refine ⟨i+1,⟨by omega,fun j hj'=>?_⟩,by omega,sS⟩
   rcases Nat.lt_or_eq_of_le (Nat.le_of_lt_succ hj') with h2 | h2
   . exact hj j h2
   . rw [h2];exact hp
 . rw [(v04 hi hj).1 (by omega)];exact RLe.ofEq rfl
theorem z7q (l:List Ex) (f:FuncId) (p:Ex->Bool) (hl:l.length<=1073741824) (h:∀ y∈l,CallsD Γ prog f [.agg (exC y)] (.one (cB (p y)))) :
 CallsD Γ prog 179 [.one (.sl 5 (l.map Ex.cells)),fN f] (.one (cB (l.any p))):=by
 refine hE [] func179 f179.eq_1 ?_
 repeat' first | refine hF ?_ ?_<;>intros | refine hI ?_ | (with_reducible first | refine w5a (vhm l f p hl h) ?_ | refine xqd (vhm l f p hl h) ?_)<;>refine hgS ?_
 exact RLe.ofEq (by rw [<-vx3])
theorem wqx:∀ x:Ex,x.Sm->CallsD Γ prog 155 [.agg (exC x)] (.one (cB x.shaped)):=by
 refine Ex.ind (fun x ih hx=>?_);have hl:=hx.len
 have hw:∀ y∈x.args,CallsD Γ prog 177 [.agg (exC y)] (.one (cB (!y.shaped))):=fun y hy=>by
  refine hE [] func177 f177.eq_1 ?_
  repeat' first | refine hF ?_ ?_<;>intros | refine hI ?_ | (with_reducible first | refine w5a (ih y hy (hx.arg y hy)) ?_ | refine xqd (ih y hy (hx.arg y hy)) ?_)<;>refine hgS ?_
  exact RLe.ofEq rfl
 refine hE [] func155 f155.eq_1 ?_
 repeat' first | refine hF ?_ ?_<;>intros | refine hI ?_ | (with_reducible first | refine w5a (yac x hx) ?_ | refine xqd (yac x hx) ?_ | refine w5a (z7q x.args _ _ hl hw) ?_ | refine xqd (z7q x.args _ _ hl hw) ?_)<;>refine hgS ?_
 all_goals refine RLe.ofEq ?_
 . rename_i h;rw [Ex.xd3,h];simp [List.all_eq_not_any_not]
 . rename_i h;rw [Ex.xd3,h];rfl
abbrev nB (n:Int) (T:Option TypeId):SB:=.box [.dat (cI n)] T
theorem ya9:∀ x:Ex,x.Sm->∀(n lv:Int) (T:Option TypeId),0<=n->n<=1000->0<=lv->lv<=1000->
 z00 Γ prog 154 [nB n T] [.agg ((exC x).map .dat),.one (.ptr 0 0),.one (.dat (cI lv))] [nB (x.cnt n lv).2 T] (.one (.dat (cB (x.cnt n lv).1))):=by
 refine Ex.ind (fun x ih hx n lv T h0 h1 h2 h3=>?_);have hl:=hx.len
 have fin:∀(b:Bool) (k:Int),x.cnt n lv=(b,k)->StH Γ [nB n T] [SV.one (.dat (cB b))] [nB k T,.box ((exC x).map .dat) (some 127)] [SV.one (.dat (cB (x.cnt n lv).1))] [nB (x.cnt n lv).2 T]:=fun b k h=>by
  rw [h];exact StH.done 1 rfl (by kernel_rfl) rfl rfl
 refine hEh [] func154 f154.eq_1 ?_
 repeat' first | refine hF ?_ ?_<;>intros | refine hI ?_
 . exact fin _ _ (by rw [Ex.x06];simp only [*];rfl)
 . have e0:x.cnt n lv=Ex.cntL x.args (n+1) (lv+1):=by rw [Ex.x06];simp only [*];rfl
   refine vi3 [1,2,23,24] (fun p:Nat×Int=>[(25,.one (.dat (cI p.1)))]) (fun p=>[nB p.2 T,.box ((exC x).map .dat) (some 127)]) (fun p=>p.1<=x.args.length/\0<=p.2/\p.2<=200/\Ex.cntL (x.args.drop p.1) p.2 (lv+1)=Ex.cntL x.args (n+1) (lv+1)) (fun p=>x.args.length-p.1) (0,n+1) ⟨Nat.zero_le _,by simp only;omega,by simp only;omega,rfl⟩ ?_ ?_
   . refine hg ?_;exact sS
   rintro ⟨i,m⟩ ⟨hi,hm0,hm1,hc⟩;simp only at hi hm0 hm1 hc;refine hg ?_;refine vdi (fun hlt hd=>?_) (fun hlt _=>?_)
   . have hlt':i<x.args.length:=by omega
     have hy:=vdv hlt';rw [zn8 hlt'] at hc;refine hg ?_;refine xdg [0] (ih _ hy (hx.arg _ hy) m (lv+1) T (by omega) (by omega) (by omega) (by omega)) rfl (by decide) rfl rfl rfl ?_;have hstep:=hc;rw [Ex.cntL] at hstep;generalize hr:(x.args.getD i default).cnt m (lv+1)=r at hstep ⊢;obtain ⟨b,k⟩:=r;refine hg ?_
     cases b with
     | true=>
      have hk:=Ex.v95 _ _ _ _ hr;refine hg ?_;exact ⟨(i+1,k),⟨by simp only;omega,by simp only;omega,hk.2,hstep⟩,by simp only;omega,StH.back [1,2,23,24,25] 2 2 2 rfl rfl rfl rfl rfl (by kernel_rfl) (sS)⟩
     | false=>
      refine hg ?_;rw [e0,<-hstep];exact StH.done 1 rfl (by kernel_rfl) rfl rfl
   . refine hg ?_;rw [e0,<-hc,List.drop_eq_nil_of_le (by omega),Ex.cntL];exact StH.done 1 rfl (by kernel_rfl) rfl rfl
 . exact fin _ _ (by rw [Ex.x06];simp only [*];rfl)
theorem xcn (x:Ex) (hx:x.Sm):CallsD Γ prog 105 [.agg (exC x)] (.one (cB (wck x))):=by
 refine hE [] func105 f105.eq_1 ?_;refine hca [1] (ya9 x hx 0 1 _ (by decide) (by decide) (by decide) (by decide)) ?_
 repeat' first | refine hF ?_ ?_<;>intros | refine hI ?_ | (with_reducible first | refine w5a (wqx x hx) ?_ | refine xqd (wqx x hx) ?_)<;>refine hgS ?_
 all_goals refine lf1 @wck.eq_def ?_;first | exact trivial | rfl
end Go.Hp.T
namespace Go.Hp
open Go Go.RowKit Go.Slot
variable {P:Program} {Γ:List (Nat×List Cell)}
theorem xen {n N i:Nat} (h:i<n):atR (List.range n) N i=i:=v27 (by simp [h])
theorem z00.pre {f:FuncId} {ηs ξ:List SB} {args:List SV} {res:SV} (h:z00 Γ P f ηs args ηs res) (hs:∀ r,ηs.map (rnSB r)=ηs) (ha:args.map (wi2 (atR (List.range ηs.length) (ηs++ξ).length))=args) (hr:rnSV (atR (List.range ηs.length) (ηs++ξ).length) res=res):z00 Γ P f (ηs++ξ) args (ηs++ξ) res:=by
 have hfix:∀(r:Nat->Nat) (i:Nat) (x:SB),ηs[i]? = some x->rnSB r x=x:=fun r i x hx=>by
  have:=congrArg (fun l=>l[i]?) (hs r)
  simp only [List.getElem?_map,hx,Option.map_some] at this;exact Option.some.inj this
 have hlt:∀ j∈List.range ηs.length,j<(ηs++ξ).length:=fun j hj=>by
  rw [List.mem_range] at hj;rw [List.length_append];omega
 have hk:=z00.frame (φ:=List.range ηs.length) (η:=ηs++ξ) List.nodup_range hlt ⟨by simp,fun i x hx=>by
  have hi:i<ηs.length:=(List.getElem?_eq_some_iff.1 hx).1
  exact ⟨i,by simp [hi],by rw [hfix _ i x hx,List.getElem?_append_left hi];exact hx⟩⟩ (by simp) h
 rw [ha,hr] at hk
 have hp:putR (List.range ηs.length) (ηs++ξ) ηs=ηs++ξ:=by
  apply List.ext_getElem?;intro i;by_cases hi:i<ηs.length
  . have h1:=v2x (φ:=List.range ηs.length) (η:=ηs++ξ) (ηs':=ηs) List.nodup_range hlt (List.getElem?_eq_getElem hi);rw [xen hi,hfix _ i _ (List.getElem?_eq_getElem hi)] at h1;rw [h1,List.getElem?_append_left hi,List.getElem?_eq_getElem hi]
  . by_cases hi2:i<(ηs++ξ).length
    . exact xk9 hi2 (by simpa using hi)
    . rw [List.getElem?_eq_none (by rw [xu9];simp at hi2 ⊢;omega),List.getElem?_eq_none (by omega)]
 rw [hp] at hk;exact hk
end Go.Hp
namespace Go.Hp.T
open Go Go.RowKit Go.Slot Go.Hp
end Go.Hp.T
namespace Go.Hp.T
open Go Go.RowKit Go.Slot Go.Hp Go.Slot.T
open Go.Proofs.Tryz
attribute [local irreducible] hide RH
set_option maxRecDepth 10000
set_option maxHeartbeats 8000000
variable {Γ:List (Nat×List Cell)}
abbrev rdF (L:List Tk) (a:Nat) (b:Bool):SB:=.box [.dat (.sl 4 (L.map Tk.C)),.dat (cI a),.dat (cB b)] (some 293)
def kdF (L:List Tk) (a:Nat) (b:Bool) (k:Int):Bool:=!b&&(decide ((a:Int)<L.length)&&decide ((L.getD a default).k=k))
def isF (L:List Tk) (a:Nat) (b:Bool) (k:Int) (t:ByteArray):Bool:=!b&&(decide ((a:Int)<L.length)&&(decide ((L.getD a default).k=k)&&seq (L.getD a default).t t))
theorem vib {L:List Tk} {a:Nat} {b:Bool} {k:Int} {t:ByteArray} (h:isF L a b k t=true):a<L.length/\b=false:=by
 unfold isF at h;simp only [Bool.and_eq_true,decide_eq_true_eq,Bool.not_eq_true'] at h;exact ⟨by omega,h.1⟩
theorem vth {L:List Tk} {a:Nat} {b:Bool} {k:Int} (h:kdF L a b k=true):a<L.length/\b=false:=by
 unfold kdF at h;simp only [Bool.and_eq_true,decide_eq_true_eq,Bool.not_eq_true'] at h;exact ⟨by omega,h.1⟩
theorem cFIs (L:List Tk) (a:Nat) (b:Bool) (k:Int) (t:ByteArray):z00 Γ prog 226 [rdF L a b] [.one (.ptr 0 0),.one (.dat (cI k)),.one (.dat (cS t))] [rdF L a b] (.one (.dat (cB (isF L a b k t)))):=by
 refine hEh [] func226 f226.eq_1 ?_
 repeat' first | refine hF ?_ ?_<;>intros | refine hI ?_
 all_goals exact StH.vf8 rfl (by kernel_rfl) (by ((refine bs1 @isF.eq_def ?_;try exact trivial))<;>first | rfl | trivial)
theorem y4j (L:List Tk) (a:Nat) (b:Bool) (k:Int):z00 Γ prog 227 [rdF L a b] [.one (.ptr 0 0),.one (.dat (cI k))] [rdF L a b] (.one (.dat (cB (kdF L a b k)))):=by
 refine hEh [] func227 f227.eq_1 ?_
 repeat' first | refine hF ?_ ?_<;>intros | refine hI ?_
 all_goals exact StH.vf8 rfl (by kernel_rfl) (by ((refine bs1 @kdF.eq_def ?_;try exact trivial))<;>first | rfl | trivial)
def skF (L:List Tk) (a:Nat) (b:Bool) (k:Int) (t:ByteArray):Nat:=bif isF L a b k t then a+1 else a
theorem x5i (L:List Tk) (a:Nat) (b:Bool) (k:Int) (t:ByteArray) (hl:L.length<=1073741824):z00 Γ prog 221 [rdF L a b] [.one (.ptr 0 0),.one (.dat (cI k)),.one (.dat (cS t))] [rdF L (skF L a b k t) b] (.one (.dat (cB (isF L a b k t)))):=by
 have c:=cFIs (Γ:=Γ) L a b k t;unfold skF
 cases h:isF L a b k t with
 | true=>
  have hlt:=vib h;rw [h] at c;refine hEh [] func221 f221.eq_1 ?_
  repeat' first | refine hF ?_ ?_<;>intros | refine hI ?_
  refine xmm c ?_;refine hg ?_
  repeat' first | refine hF ?_ ?_<;>intros | refine hI ?_
  exact sS
 | false=>
  rw [h] at c;refine hEh [] func221 f221.eq_1 ?_
  repeat' first | refine hF ?_ ?_<;>intros | refine hI ?_
  refine xmm c ?_;refine hg ?_
  repeat' first | refine hF ?_ ?_<;>intros | refine hI ?_
  exact sS
theorem vy4 (L:List Tk) (a:Nat) (b:Bool) (k:Int) (t:ByteArray) (hl:L.length<=1073741824):z00 Γ prog 223 [rdF L a b] [.one (.ptr 0 0),.one (.dat (cI k)),.one (.dat (cS t))] [rdF L (skF L a b k t) (!isF L a b k t)] (.tup []):=by
 have c:=x5i (Γ:=Γ) L a b k t hl;unfold skF at c ⊢
 cases h:isF L a b k t with
 | true=>
  obtain ⟨hlt,rfl⟩:=vib h;rw [h] at c;rw [cond_true] at c ⊢;refine hEh [] func223 f223.eq_1 ?_
  repeat' first | refine hF ?_ ?_<;>intros | refine hI ?_
  first | refine xmm c ?_ | refine vsg [(0,rdF L (a+1) false)] c ?_
  refine hg ?_
  repeat' first | refine hF ?_ ?_<;>intros | refine hI ?_
  exact sS
 | false=>
  rw [h] at c;rw [cond_false] at c ⊢;refine hEh [] func223 f223.eq_1 ?_
  repeat' first | refine hF ?_ ?_<;>intros | refine hI ?_
  first | refine xmm c ?_ | refine vsg [] c ?_
  refine hg ?_
  repeat' first | refine hF ?_ ?_<;>intros | refine hI ?_
  exact sS
theorem zz8 (L:List Tk) (a:Nat) (b:Bool) (t:ByteArray) (hl:L.length<=1073741824):z00 Γ prog 230 [rdF L a b] [.one (.ptr 0 0),.one (.dat (cS t))] [rdF L (skF L a b 3 t) (!isF L a b 3 t)] (.tup []):=by
 have c:=vy4 (Γ:=Γ) L a b 3 t hl;refine hEh [] func230 f230.eq_1 ?_
 repeat' first | refine hF ?_ ?_<;>intros | refine hI ?_
 refine xmm c ?_;refine hg ?_;exact sS
theorem wvj (L:List Tk) (a:Nat) (b:Bool) (hl:L.length<=1073741824) (h:a<L.length):z00 Γ prog 234 [rdF L a b] [.one (.ptr 0 0)] [rdF L (a+1) b] (.agg ((tkC (L.getD a default)).map .dat)):=by
 refine hEh [] func234 f234.eq_1 ?_
 repeat' first | refine hF ?_ ?_<;>intros | refine hI ?_
 rw [show ((a:Int)+1-1).toNat=a by omega];exact StH.done 1 rfl (by kernel_rfl) rfl rfl
def nmOk (L:List Tk) (a:Nat) (b:Bool):Bool:=kdF L a b 0&&!isWord (L.getD a default).t
def nmS (L:List Tk) (a:Nat) (b:Bool):ByteArray:=bif nmOk L a b then (L.getD a default).t else ⟨#[]⟩
theorem vxc (L:List Tk) (a:Nat) (b:Bool) (hl:L.length<=1073741824):z00 Γ prog 231 [rdF L a b] [.one (.ptr 0 0)] [rdF L (bif nmOk L a b then a+1 else a) (bif nmOk L a b then b else true)] (.one (.dat (cS (nmS L a b)))):=by
 have c:=y4j (Γ:=Γ) L a b 0;have w:=zsl (Γ:=Γ) (L.getD a default).t;unfold nmS nmOk
 cases h:kdF L a b 0 with
 | false=>
  rw [h] at c;refine hEh [] func231 f231.eq_1 ?_
  repeat' first | refine hF ?_ ?_<;>intros | refine hI ?_
  first | refine xmm c ?_ | refine wq5 1 (fun ξ=>z00.pre (ξ:=ξ) c (fun r=>rfl) rfl rfl) rfl rfl ?_
  refine hg ?_
  repeat' first | refine hF ?_ ?_<;>intros | refine hI ?_
  exact sS
 | true=>
  obtain ⟨hlt,rfl⟩:=vth h;have tk:=wvj (Γ:=Γ) L a false hl hlt;rw [h] at c;clear h
  cases hw:isWord (L.getD a default).t with
  | true=>
   rw [hw] at w;refine hEh [] func231 f231.eq_1 ?_
   repeat' first | refine hF ?_ ?_<;>intros | refine hI ?_
   first | refine xmm c ?_ | refine wq5 1 (fun ξ=>z00.pre (ξ:=ξ) c (fun r=>rfl) rfl rfl) rfl rfl ?_
   refine hg ?_
   repeat' first | refine hF ?_ ?_<;>intros | refine hI ?_ | (with_reducible first | refine w5a (w) ?_ | refine xqd (w) ?_)<;>refine hgS ?_
   exact sS
  | false=>
   rw [hw] at w;refine hEh [] func231 f231.eq_1 ?_
   repeat' first | refine hF ?_ ?_<;>intros | refine hI ?_
   first | refine xmm c ?_ | refine wq5 1 (fun ξ=>z00.pre (ξ:=ξ) c (fun r=>rfl) rfl rfl) rfl rfl ?_
   refine hg ?_
   repeat' first | refine hF ?_ ?_<;>intros | refine hI ?_ | (with_reducible first | refine w5a (w) ?_ | refine xqd (w) ?_)<;>refine hgS ?_
   refine xmm tk ?_;refine hg ?_;exact sS
end Go.Hp.T
namespace Go.Hp
open Go Go.RowKit Go.Slot
variable {P:Program} {Γ:List (Nat×List Cell)} {e:List SB}
theorem StH.frzT {l sl:List SV} {η:List SB} {avs:List AV} {bs:List Nat} (h:wrt η l=some (avs,bs)) (hs:x3n avs=some sl):StH Γ e [.tup l] η [.tup sl] (appL (frzE η bs) η):=fun E ρ a w _ hR=>by
 obtain ⟨h1,h2⟩:=hR.frz (yey h);refine ⟨ρ,h1.hd,h1.hs,fun i x hi=>?_,h1.went⟩
 cases i with
 | zero=>
  simp only [List.getElem?_cons_zero,Option.some.injEq] at hi;subst hi;obtain ⟨vs,hv,hr⟩:=h1.slot 0 (.tup l) rfl;exact ⟨vs,hv,vtz hs (z4d h1.inv h h2 hr)⟩
 | succ i=>simp at hi
theorem StH.frzA {x y:SV} {η:List SB} {av:AV} {bs:List Nat} (h:wrt η [x]=some ([av],bs)) (hs:x3n [av]=some [y]) (hx:∀ l,x≠.tup l) (hy:∀ l,y≠.tup l):StH Γ e [x] η [y] (appL (frzE η bs) η):=fun E ρ a w _ hR=>by
 obtain ⟨h1,h2⟩:=hR.frz (yey h);refine ⟨ρ,h1.hd,h1.hs,fun i z hi=>?_,h1.went⟩
 cases i with
 | zero=>
  simp only [List.getElem?_cons_zero,Option.some.injEq] at hi;subst hi;have hr:=h1.slot 0 x rfl
  have hr:SRL _ ρ _ w [a.tmps.getD 0 Go.undef] [x]:=⟨by
   cases x with
   | tup l=>exact absurd rfl (hx l)
   | _=>exact hr,trivial⟩
  have h3:=(vtz (η:=appL (frzE η bs) η) (ρ:=ρ) hs (z4d h1.inv h h2 hr)).1
  cases y with
  | tup l=>exact absurd rfl (hy l)
  | _=>exact h3
 | succ i=>simp at hi
theorem StH.agg1 {l l':List HC} {η:List SB} (h:SVle (.agg l) (.agg l')):StH Γ e [.agg l] η [.agg l'] η:=StH.same (.cons h .nil) rfl
theorem StH.xrc {l sl:List SV} {η:List SB} {avs:List AV} {bs:List Nat} {J':List SV} (h:wrt η l=some (avs,bs)) (hs:x3n avs=some sl) (he:(appL (frzE η bs) η).take e.length=e) (hb:([SV.tup sl].all fun x=>(x8g x).all fun b=>Nat.blt b e.length)=true) (hσ:[SV.tup sl]=J'):StH Γ e [.tup l] η J' e:=
 StH.trans (StH.frzT h hs) (StH.vf8 he hb hσ)
theorem StH.w4u {x y:SV} {η:List SB} {av:AV} {bs:List Nat} {J':List SV} (h:wrt η [x]=some ([av],bs)) (hs:x3n [av]=some [y]) (hx:∀ l,x≠.tup l) (hy:∀ l,y≠.tup l) (he:(appL (frzE η bs) η).take e.length=e) (hb:([y].all fun x=>(x8g x).all fun b=>Nat.blt b e.length)=true) (hσ:[y]=J'):StH Γ e [x] η J' e:=
 StH.trans (@StH.frzA Γ e x y η av bs h hs hx hy) (StH.vf8 he hb hσ)
end Go.Hp
