/- The proof, part Q21: Ig, P1, Na, Nb, Ih, P5, Ir, P6. -/
import Derived.Test.YtkbkjjahlafhoaaGreatDoorQ17
import Derived.Test.YtkbkjjahlafhoaaGreatDoorQ20
import Derived.Test.YtkbkjjahlafhoaaGreatDoorQ16
namespace Go.Hp.T
open Go Go.RowKit Go.Slot Go.Hp
set_option maxRecDepth 10000
variable {q b e x:Int} {a f:Rat}
structure Un where
 d:Dm
 f:Rat
abbrev unC (u:Un):List Cell:=[cI u.d.a,cI u.d.b,cI u.d.c,cI u.d.d,cI u.d.e,cI u.d.f,.raw (.int .i64 (sg u.f.num)),.ints .i64 (dig u.f.num.natAbs),.raw (.int .i64 1),.ints .i64 (dig u.f.den)]
abbrev unZ:List Cell:=[cI 0,cI 0,cI 0,cI 0,cI 0,cI 0,cI 0,.zc,cI 0,.zc]
def unO:Option Un->List Cell
 | some u=>unC u
 | none=>unZ
def w7y (b e:Int):Dm:=⟨bif decide (b=0) then e else 0,bif decide (b=1) then e else 0,bif decide (b=2) then e else 0,bif decide (b=3) then e else 0,bif decide (b=4) then e else 0,bif decide (b=5) then e else 0⟩
def unOf (b e p q:Int):Un:=⟨w7y b e,Rat.divInt p q⟩
def symF (s:ByteArray):Option Un:=
 bif seq s ⟨#[103]⟩ then some (unOf 0 1 1 1) else
 bif seq s ⟨#[116]⟩ then some (unOf 0 1 1000000 1) else
 bif seq s ⟨#[109]⟩ then some (unOf 1 1 1 1) else
 bif seq s ⟨#[108]⟩ then some (unOf 1 3 1 1000) else
 bif seq s ⟨#[115]⟩ then some (unOf 2 1 1 1) else
 bif seq s ⟨#[104]⟩ then some (unOf 2 1 3600 1) else
 bif seq s ⟨#[100]⟩ then some (unOf 2 1 86400 1) else
 bif seq s ⟨#[74]⟩ then some (unOf 3 1 1 1) else
 bif seq s ⟨#[87,104]⟩ then some (unOf 3 1 3600 1) else
 bif seq s ⟨#[99,101,110,116]⟩ then some (unOf 4 1 1 1) else
 bif seq s ⟨#[101,117,114]⟩ then some (unOf 4 1 100 1) else
 bif seq s ⟨#[112,99]⟩ then some (unOf 5 1 1 1) else none
def v7v (s:ByteArray) (i:Nat):ByteArray:=s.extract i s.size
def zu1 (s:ByteArray) (i:Nat):ByteArray:=s.extract 0 i
def preF (c:Int):Option (Int×Int):=bif decide (c=107) then some (1000,1) else bif decide (c=77) then some (1000000,1) else bif decide (c=71) then some (1000000000,1) else bif decide (c=109) then some (1,1000) else none
def preO:Option (Int×Int)->Int×Int
 | some p=>p
 | none=>(0,0)
def wm3 (s:ByteArray):Bool:=seq s ⟨#[103]⟩||seq s ⟨#[109]⟩||seq s ⟨#[108]⟩||seq s ⟨#[115]⟩||seq s ⟨#[74]⟩||seq s ⟨#[87,104]⟩
theorem wsw (s:ByteArray) (i:Nat):(v7v s i).size=s.size-i:=by unfold v7v;simp
theorem v59 (s:ByteArray) (i:Nat) (h:i<=s.size):(zu1 s i).size=i:=by unfold zu1;simp;omega
structure It where
 w:ByteArray
 e:Int
instance:Inhabited It:=⟨⟨⟨#[]⟩,0⟩⟩
def It.C (x:It):List Cell:=[cS x.w,cI x.e]
abbrev itC (x:It):List Cell:=[cS x.w,cI x.e]
theorem It.C_eq (x:It):x.C=itC x:=rfl
attribute [go_sem] It.C_eq
def xgz (s:ByteArray):ByteArray:=v7v s (vuh wxk s)
def vlc (s:ByteArray):Bool:=decide (¬(xgz s).size=0)&&decide (50<=vpd (xgz s) 0)&&decide (vpd (xgz s) 0<=57)
def yfm (s:ByteArray):It:=⟨zu1 s (vuh wxk s),bif vlc s then vpd (xgz s) 0-48 else 1⟩
def xti (s:ByteArray):ByteArray:=bif vlc s then v7v (xgz s) 1 else xgz s
def yyn (s:ByteArray):Bool:=decide (0<(vuh wxk s:Int))
def w4l (s:ByteArray):Option Un:=
 bif (symF s).isSome then symF s else
 bif !(preF (vpd s 0)).isSome||!(symF (v7v s 1)).isSome||!wm3 (v7v s 1) then none else
 match preF (vpd s 0),symF (v7v s 1) with
 | some p,some u=>some ⟨u.d,u.f*Rat.divInt p.1 p.2⟩
 | _,_=>none
def iter {α:Type} (g:α->α):Nat->α->α
 | 0,a=>a
 | n+1,a=>iter g n (g a)
theorem yur {α:Type} (g:α->α):∀(n:Nat) (a:α),iter g (n+1) a=g (iter g n a)
 | 0,_=>rfl
 | n+1,a=>by rw [iter,yur g n (g a),iter]
def y1p (a f:Rat) (e:Int):Rat:=bif decide (0<e) then iter (· * f) e.natAbs a else iter (· / f) e.natAbs a
theorem x01 (x y:Rat):qs (x*y)<=qs x+qs y:=Fc.zsx x y
theorem v7c (x:Rat):qs x⁻¹<=qs x+1:=by
 by_cases h:x=0
 . subst h;rw [Rat.inv_zero];exact Nat.le_succ _
 . show (Fc.of x⁻¹).sz<=(Fc.of x).sz+1
   have hn:x.num≠0:=fun e=>h (Rat.num_eq_zero.1 e)
   rw [Fc.w9x,Fc.w9x,Rat.num_inv,Rat.den_inv,if_neg hn]
   have:(x.num.sign*(x.den:Int)).natAbs=x.den:=by
    rw [Int.natAbs_mul,Int.natAbs_sign];simp [hn]
   rw [this];omega
theorem yu7 (x y:Rat):qs (x / y)<=qs x+qs y+1:=by
 rw [Rat.div_def]
 have:=x01 x y⁻¹
 have:=v7c y
 omega
def Dm.in03 (d:Dm):Prop:=(0<=d.a/\d.a<=3)/\(0<=d.b/\d.b<=3)/\(0<=d.c/\d.c<=3)/\(0<=d.d/\d.d<=3)/\(0<=d.e/\d.e<=3)/\(0<=d.f/\d.f<=3)
theorem wjl {p:Int} (hp:1<=p/\p<=1000000000) (hq:1<=q/\q<=1000000000):qs (Rat.divInt p q)<=4/\Rat.divInt p q≠0:=by
 obtain ⟨n,rfl⟩:∃ n:Nat,q=n:=⟨q.toNat,by omega⟩;rw [Rat.divInt_ofNat];refine ⟨?_,(Rat.mkRat_ne_zero (by omega)).2 (by omega)⟩
 have:=Fc.vzu p n (by omega)
 have h1:=zlm (n:=p.natAbs) (by omega);have h2:=zlm (n:=n) (by omega);show (Fc.of _).sz<=4;omega
theorem yjh (he:0<=e/\e<=3):(w7y b e).in03:=by
 have key:∀ p:Bool,0<=(bif p then e else 0)/\(bif p then e else 0)<=3:=fun p=>by cases p<;>simp<;>omega
 exact ⟨key _,key _,key _,key _,key _,key _⟩
theorem xmo {p:Int} (he:0<=e/\e<=3) (hp:1<=p/\p<=1000000000) (hq:1<=q/\q<=1000000000):(unOf b e p q).d.in03/\qs (unOf b e p q).f<=4/\(unOf b e p q).f≠0:=⟨yjh he,wjl hp hq⟩
theorem yt8 {s:ByteArray} {u:Un} (h:symF s=some u):u.d.in03/\qs u.f<=4/\u.f≠0:=by
 unfold symF at h
 repeat' first
  | (cases h;exact xmo (by omega) (by omega) (by omega))
  | (cases hc:seq s _<;>rw [hc] at h<;>simp only [cond_true,cond_false] at h)
 cases h
theorem y35 {c:Int} {p:Int×Int} (h:preF c=some p):(1<=p.1/\p.1<=1000000000)/\(1<=p.2/\p.2<=1000000000):=by
 unfold preF at h
 repeat' first
  | (cases h;done)
  | (cases h;simp;done)
  | (cases hc:decide (c=_)<;>rw [hc] at h<;>simp only [cond_true,cond_false] at h)
theorem x5v {s:ByteArray} {u:Un} (h:w4l s=some u):u.d.in03/\qs u.f<=8/\u.f≠0:=by
 unfold w4l at h
 cases h1:(symF s).isSome with
 | true=>
  rw [h1,cond_true] at h;obtain ⟨a,b,c⟩:=yt8 h;exact ⟨a,by omega,c⟩
 | false=>
  rw [h1,cond_false] at h
  cases h2:(!(preF (vpd s 0)).isSome||!(symF (v7v s 1)).isSome||!wm3 (v7v s 1)) with
  | true=>rw [h2,cond_true] at h;cases h
  | false=>
   rw [h2,cond_false] at h;split at h
   . rename_i p v hp hv
     cases h;obtain ⟨a,b,c⟩:=yt8 hv;obtain ⟨d,e⟩:=y35 hp;obtain ⟨f,g⟩:=wjl d e;refine ⟨a,?_,?_⟩
     . have:=x01 v.f (Rat.divInt p.1 p.2)
       show qs (v.f*_)<=8;omega
     . exact fun h0=>by
        rcases Rat.mul_eq_zero.1 h0 with h0 | h0
        . exact c h0
        . exact g h0
   . cases h
def pw (a f:Rat) (x:Int) (i:Nat):Rat:=bif decide (0<x) then iter (· * f) i a else iter (· / f) i a
theorem yws (a f:Rat) (x:Int):pw a f x 0=a:=by unfold pw;cases decide (0<x)<;>rfl
theorem y2m (h:0<x) (i:Nat):pw a f x (i+1)=pw a f x i*f:=by unfold pw;rw [decide_eq_true h];exact yur _ _ _
theorem y4x (h:¬0<x) (i:Nat):pw a f x (i+1)=pw a f x i / f:=by unfold pw;rw [decide_eq_false h];exact yur _ _ _
theorem zi4 (a f:Rat) (x:Int):∀ i,qs (pw a f x i)<=qs a+i*(qs f+1)
 | 0=>by rw [yws];omega
 | i+1=>by
  have ih:=zi4 a f x i;rw [Nat.add_mul,Nat.one_mul];by_cases h:0<x
  . rw [y2m h]
    have:=x01 (pw a f x i) f
    omega
  . rw [y4x h]
    have:=yu7 (pw a f x i) f
    omega
theorem xj8 (a f:Rat) (x:Int):y1p a f x=pw a f x x.natAbs:=rfl
theorem ztl (s:ByteArray):1<=(yfm s).e/\(yfm s).e<=9:=by
 unfold yfm
 cases h:vlc s with
 | false=>simp
 | true=>
  simp only [vlc,Bool.and_eq_true,decide_eq_true_eq] at h;simp only [cond_true];omega
theorem w1p (s:ByteArray):(xti s).size<=s.size:=by
 unfold xti xgz
 cases vlc s<;>simp only [cond_true,cond_false,wsw]<;>omega
def zfu (c:Int) (x:It):It:=bif decide (c=47) then ⟨x.w,0-x.e⟩ else x
def yqn (s p:ByteArray):Bool:=decide ((p.size:Int)<=s.size)&&seq (zu1 s p.size) p
def z0e (s:ByteArray):ByteArray:=bif yqn s ⟨#[49]⟩ then v7v s 1 else ⟨#[42]⟩++s
def zhr:Nat->ByteArray->List It->Option (List It)
 | 0,_,_=>none
 | n+1,r,acc=>bif decide (r.size=0) then some acc else
  bif !yyn (v7v r 1)||(decide (¬vpd r 0=42)&&decide (¬vpd r 0=47)) then none else
  zhr n (xti (v7v r 1)) (acc++[zfu (vpd r 0) (yfm (v7v r 1))])
def yig (s:ByteArray):Option (List It):=bif decide (s.size=0) then some [] else bif decide (40<(s.size:Int)) then none else zhr (s.size+2) (z0e s) []
def itO:Option (List It)->List It
 | some l=>l
 | none=>[]
def It.ok (x:It):Prop:=1<=x.w.size/\x.w.size<=1000/\-9<=x.e/\x.e<=9
theorem y5l {r:ByteArray} (h:yyn r=true) (hr:r.size<=1000) (c:Int):(zfu c (yfm r)).ok:=by
 have he:=ztl r;have hw:(yfm r).w.size=vuh wxk r:=v59 _ _ (yz6 _ _);have hl:=yz6 wxk r
 have h0:1<=vuh wxk r:=by
  have:(0:Int)<(vuh wxk r:Int):=by simpa [yyn] using h
  omega
 unfold zfu
 cases decide (c=47)
 . exact ⟨by simp only [cond_false];omega,by simp only [cond_false];omega,by simp only [cond_false];omega,by simp only [cond_false];omega⟩
 . exact ⟨by simp only [cond_true];omega,by simp only [cond_true];omega,by simp only [cond_true];omega,by simp only [cond_true];omega⟩
theorem vqp : ∀ (n : Nat) (r : ByteArray) (acc l : List It), zhr n r acc = some l → r.size ≤ 1000 → (∀ x ∈ acc, x.ok) → l.length ≤ acc.length + r.size ∧ ∀ x ∈ l, x.ok
 | 0,_,_,_,h,_,_=>by cases h
 | n + 1, r, acc, l, h, hr, ha => by
  rw [zhr] at h;by_cases h0:r.size=0
  . rw [decide_eq_true h0,cond_true] at h;cases h;exact ⟨by omega,ha⟩
  . rw [decide_eq_false h0, cond_false] at h
    cases hb:(!yyn (v7v r 1)||(decide (¬vpd r 0=42)&&decide (¬vpd r 0=47))) with
    | true=>rw [hb,cond_true] at h;cases h
    | false=>
     rw [hb,cond_false] at h
     have hok:yyn (v7v r 1)=true:=by
      cases hc:yyn (v7v r 1) with
      | true=>rfl
      | false=>rw [hc] at hb;simp at hb
     have hd:=wsw r 1;have hcs:=w1p (v7v r 1)
     obtain ⟨h1,h2⟩:=vqp n _ _ _ h (by omega) (fun x hx=>by
      rcases List.mem_append.1 hx with hx | hx
      . exact ha x hx
      . simp at hx;subst hx;exact y5l hok (by omega) _)
     refine ⟨?_,h2⟩;rw [List.length_append,List.length_singleton] at h1;omega
theorem zhg {s : ByteArray} {l : List It} (h : yig s = some l) : l.length ≤ 41 ∧ ∀ x ∈ l, x.ok := by
 unfold yig at h;by_cases h0:s.size=0
 . rw [decide_eq_true h0,cond_true] at h;cases h;simp
 . rw [decide_eq_false h0, cond_false] at h;by_cases h1:40<(s.size:Int)
   . rw [decide_eq_true h1,cond_true] at h;cases h
   . rw [decide_eq_false h1,cond_false] at h
     have hsz:(z0e s).size<=s.size+1:=by
      unfold z0e;have h42:(⟨#[42]⟩:ByteArray).size=1:=rfl
      cases yqn s ⟨#[49]⟩
      . simp only [cond_false,ByteArray.size_append];omega
      . simp only [cond_true,wsw];omega
     obtain ⟨a,b⟩:=vqp _ _ _ _ h (by omega) (fun x hx=>by cases hx);exact ⟨by simp at a;omega,b⟩
def Dm.acc (x y:Dm) (e:Int):Dm:=⟨x.a+y.a*e,x.b+y.b*e,x.c+y.c*e,x.d+y.d*e,x.e+y.e*e,x.f+y.f*e⟩
def vol:List It->Un->Option Un
 | [],u=>some u
 | x::l,u=>match w4l x.w with
  | none=>none
  | some v=>vol l ⟨u.d.acc v.d x.e,y1p u.f v.f x.e⟩
def vup (s:ByteArray):Option Un×Int:=match yig s with
 | none=>(none,12)
 | some l=>match vol l ⟨Dm.zero,(1:Int)⟩ with
  | none=>(none,11)
  | some u=>bif vss u.d then (some u,0) else (none,3)
def Dm.le (d:Dm) (n:Int):Prop:=(-n<=d.a/\d.a<=n)/\(-n<=d.b/\d.b<=n)/\(-n<=d.c/\d.c<=n)/\(-n<=d.d/\d.d<=n)/\(-n<=d.e/\d.e<=n)/\(-n<=d.f/\d.f<=n)
theorem v45 {a:Int} (ha:0<=a/\a<=3) (he:-9<=e/\e<=9):-27<=a*e/\a*e<=27:=by
 have:a=0\/a=1\/a=2\/a=3:=by omega
 rcases this with rfl | rfl | rfl | rfl<;>omega
theorem Dm.zda {x y:Dm} {n:Int} (hx:x.le n) (hy:y.in03) (he:-9<=e/\e<=9):(x.acc y e).le (n+27):=by
 obtain ⟨a1,a2,a3,a4,a5,a6⟩:=hx;obtain ⟨b1,b2,b3,b4,b5,b6⟩:=hy;have c1:=v45 b1 he;have c2:=v45 b2 he;have c3:=v45 b3 he;have c4:=v45 b4 he;have c5:=v45 b5 he;have c6:=v45 b6 he;unfold Dm.le Dm.acc;simp only;omega
theorem v8g:qs ((1:Int):Rat)<=1:=by
 show max (dig (1:Nat)).length (dig (1:Nat)).length<=1
 have:=yzd (n:=1) (k:=1) (by decide)
 omega
def dmO:Option Un->Dm
 | some u=>u.d
 | none=>Dm.zero
def fcO (i:Nat):Option Un->Cell
 | some u=>(fQ u.f).getD i .zc
 | none=>[cI 0,.zc,cI 0,.zc].getD i .zc
abbrev unX (o:Option Un):List Cell:=[cI (dmO o).a,cI (dmO o).b,cI (dmO o).c,cI (dmO o).d,cI (dmO o).e,cI (dmO o).f,fcO 0 o,fcO 1 o,fcO 2 o,fcO 3 o]
theorem yoj (o:Option Un):unO o=unX o:=by cases o<;>rfl
end Go.Hp.T
namespace Go.Hp
open Go Go.RowKit Go.Slot
section
variable {P:Program} {Γ:List (Nat×List Cell)} {e:List SB} {G:List (Nat×List GhH)} {Q:Exit->Bool->List SV->List SB->Prop} {J:List SV} {η:List SB}
def zvy (Q:Exit->Bool->List SV->List SB->Prop):Exit->Bool->List SV->List SB->Prop
 | .goto _=>fun _ _ _=>False
 | .normal=>Q .normal
 | .exit id=>Q (.exit id)
 | .ret=>Q .ret
 | .panic c=>Q (.panic c)
 | .outgrown=>Q .outgrown
theorem yi1 {x:Code}:RH Γ P e G (.scope x) true Q J η=RH Γ P e G x true (zvy Q) J η:=by
 show RH Γ P e G x true (fun x=>match x with | .goto _=>fun _ _ _=>False | x=>Q x) J η=_
 congr 1
 funext x
 cases x<;>rfl
theorem w8b:zvy Q .ret=Q .ret:=_root_.id rfl
end
attribute [go_sem ↓] yi1 w8b
end Go.Hp
namespace Go.Hp.T
open Go Go.RowKit Go.Slot Go.Hp
set_option maxRecDepth 10000
structure Tk where
 k:Int
 t:ByteArray
 n:Int
 p:Int
deriving DecidableEq
instance:Inhabited Tk:=⟨⟨0,⟨#[]⟩,0,0⟩⟩
def Tk.C (x:Tk):List Cell:=[cI x.k,cS x.t,cI x.n,cI x.p]
abbrev tkC (x:Tk):List Cell:=[cI x.k,cS x.t,cI x.n,cI x.p]
theorem Tk.C_eq (x:Tk):x.C=tkC x:=_root_.id rfl
attribute [go_sem] Tk.C_eq
def z8g (c:Int):Bool:=decide (c=32)||decide (c=9)||decide (c=10)
def yrt (c:Int):Bool:=[40,41,44,59,58,61,60,43,45,42,47,123,125].contains c
def numV (l:List Int):Int:=l.foldl (fun n c=>10*n+(c-48)) 0
def numO (l:List Int):Bool:=!(decide (l.headD 0=48)&&!decide (l=[48])||decide (13<(l.length:Int))||decide (1099511627776<numV l))
def quoL:List Int->Option (List Int×Nat)
 | []=>none
 | c::l=>bif !zhf c then none else bif decide (c=34) then some ([],1) else bif decide (c=92) then (match l with
  | []=>none
  | d::m=>bif decide (d=34)||decide (d=92) then (quoL m).map (fun r=>(d::r.1,r.2+2)) else none)
  else (quoL l).map (fun r=>(c::r.1,r.2+1))
def y8v (l:List Int):Tk×Nat×Int:=
 bif wxk (l.headD 0) then (bif decide (((l.takeWhile y7x).length:Int)<=20) then (⟨0,strOfNums (l.takeWhile y7x),0,0⟩,(l.takeWhile y7x).length,0) else (default,0,3)) else
 bif isDigit (l.headD 0) then (bif numO (l.takeWhile isDigit) then (⟨1,strOfNums (l.takeWhile isDigit),numV (l.takeWhile isDigit),0⟩,(l.takeWhile isDigit).length,0) else (default,0,3)) else
 bif decide (l.headD 0=34) then (match quoL l.tail with
  | none=>(default,0,2)
  | some (v,n)=>bif decide (400<(v.length:Int)) then (default,0,2) else (⟨2,strOfNums v,0,0⟩,n+1,0)) else
 bif yrt (l.headD 0) then (⟨3,strOfNums (l.take 1),0,0⟩,1,0) else (default,0,10)
def gapL:Nat->List Int->Nat
 | 0,_=>0
 | f+1,l=>bif (l.drop (l.takeWhile z8g).length).headD 0==35 then
  let b:=(l.takeWhile z8g).length+((l.drop (l.takeWhile z8g).length).takeWhile (fun c=>!decide (c=10))).length
  b+gapL f (l.drop b)
  else (l.takeWhile z8g).length
abbrev Sn:=List Tk ⊕ (Nat×Int)
def v8f:Nat->List Int->Nat->Sn
 | 0,_,_=>.inl []
 | f+1,l,at_=>
  let g:=gapL (l.length+1) l
  bif (l.drop g).isEmpty then .inl [] else
  match y8v (l.drop g) with
  | (t,n,e)=>bif decide (¬e=0) then .inr (at_+g,e) else match v8f f (l.drop (g+n)) (at_+g+n) with
   | .inl ts=>.inl ({ t with p:=((at_+g:Nat):Int) }::ts)
   | .inr x=>.inr x
def yjj (s:ByteArray):Sn:=bif decide (4000<(s.size:Int)) then .inr (0,6) else v8f (s.size+1) (zcd s) 0
def snR:Sn->AV
 | .inl ts=>.tup [.one (.sl 4 (ts.map Tk.C)),.one (cI 0),.one (cI 0)]
 | .inr (i,e)=>.tup [.one (.sl 4 []),.one (cI i),.one (cI e)]
theorem wvz (s:ByteArray) (i:Nat):vpd s i=((s.data.toList[i]?).getD 0).toNat:=by
 unfold vpd;rw [Array.getElem?_toList]
theorem y6g (s:ByteArray):zcd s=s.data.toList.map (fun b=>(b.toNat:Int)):=by
 apply List.ext_getElem?;intro i;rw [List.getElem?_map];by_cases h:i<s.size
 . rw [vdi s i h,wvz]
   have h':i<s.data.toList.length:=by simpa using h
   rw [List.getElem?_eq_getElem h'];rfl
 . have h1:(zcd s).length<=i:=by rw [yjp];omega
   have h2:s.data.toList.length<=i:=by
    have:s.data.toList.length=s.size:=by simp
    omega
   rw [List.getElem?_eq_none h1,List.getElem?_eq_none h2];rfl
theorem yb2 (s:ByteArray):strOfNums (zcd s)=s:=by
 rw [y6g];show (⟨((s.data.toList.map (fun b=>(b.toNat:Int))).map fun n=>UInt8.ofNat n.toNat).toArray⟩:ByteArray)=s;rw [List.map_map]
 have:(fun n:Int=>UInt8.ofNat n.toNat)∘(fun b:UInt8=>(b.toNat:Int))=id:=by
  funext b;simp
 rw [this,List.map_id]
theorem yym (s:ByteArray) (i:Nat):zcd (v7v s i)=(zcd s).drop i:=by
 rw [y6g,y6g];show ((s.extract i s.size).data.toList.map _)=_;rw [ByteArray.data_extract,Array.toList_extract,List.extract_eq_take_drop,List.map_take,List.map_drop,List.take_of_length_le];simp
theorem ylt (s:ByteArray) (i:Nat):zcd (zu1 s i)=(zcd s).take i:=by
 rw [y6g,y6g];show ((s.extract 0 i).data.toList.map _)=_;rw [ByteArray.data_extract,Array.toList_extract,List.extract_eq_take_drop,List.map_take];simp
theorem w2j (s:ByteArray) (i:Nat):zu1 s i=strOfNums ((zcd s).take i):=by rw [<-ylt,yb2]
theorem yci {α:Type} (p:α->Bool):∀ l:List α,l.takeWhile p=l.take (l.takeWhile p).length
 | []=>rfl
 | a::l=>by
  cases h:p a with
  | true=>rw [List.takeWhile_cons_of_pos h,List.length_cons,List.take_succ_cons,<-yci p l]
  | false=>rw [List.takeWhile_cons_of_neg (by rw [h];decide)];rfl
theorem xsh (p:Int->Bool) (s:ByteArray):zu1 s (vuh p s)=strOfNums ((zcd s).takeWhile p):=by
 rw [w2j,yci p (zcd s)];rfl
theorem zmk (s:ByteArray) (h:0<s.size):vpd s 0=(zcd s).headD 0:=by
 have:=vdi s 0 h
 cases hb:zcd s with
 | nil=>rw [hb] at this;cases this
 | cons c l=>rw [hb] at this;cases this;rfl
theorem xkq (s:ByteArray) (i:Nat) (h:i<s.size):(zcd s).drop i=vpd s i::(zcd s).drop (i+1):=by
 rw [List.drop_eq_getElem_cons (by rw [yjp];exact h)]
 congr 1
 have:=vdi s i h
 rw [List.getElem?_eq_getElem (by rw [yjp];exact h)] at this;exact (Option.some.inj this)
end Go.Hp.T
namespace Go.Hp.T
open Go Go.RowKit Go.Slot Go.Hp Go.Slot.T
open Go.Proofs.Tryz
attribute [local irreducible] hide RH
set_option maxRecDepth 10000
set_option maxHeartbeats 4000000
variable {Γ:List (Nat×List Cell)}
theorem y1m (c:Int):CallsD Γ prog 148 [.one (c8 c)] (.one (cB (wxk c))):=by
 refine hE [] func148 f148.eq_1 ?_
 repeat' (refine hF ?_ ?_<;>intros)
 all_goals refine lf1 @wxk.eq_def ?_;first | exact trivial | rfl
theorem x09 (c:Int):CallsD Γ prog 172 [.one (c8 c)] (.one (cB (isDigit c))):=by
 refine hE [] func172 f172.eq_1 ?_
 refine hF ?_ ?_<;>intros
 all_goals refine lf1 @isDigit.eq_def ?_;first | exact trivial | rfl
theorem wqi (c:Int):CallsD Γ prog 208 [.one (c8 c)] (.one (cB (zhf c))):=by
 refine hE [] func208 f208.eq_1 ?_
 refine hF ?_ ?_<;>intros
 all_goals refine lf1 @zhf.eq_def ?_;first | exact trivial | rfl
theorem yif (c:Int):CallsD Γ prog 150 [.one (c8 c)] (.one (cB (y7x c))):=by
 refine hE [] func150 f150.eq_1 ?_
 repeat' first|refine hF ?_ ?_<;>intros|(with_reducible first|refine wdy (y1m _) ?_|refine wdy (x09 _) ?_)<;>refine hgS ?_
 all_goals refine lf1 @y7x.eq_def ?_;first | exact trivial | rfl
theorem wkq (s:ByteArray) (f:FuncId) (p:Int->Bool) (hs:s.size<=1099511627776) (h:∀ c,CallsD Γ prog f [.one (c8 c)] (.one (cB (p c)))):CallsD Γ prog 149 [.one (cS s),fN f] (.one (cI (vuh p s))):=by
 refine hE [] func149 f149.eq_1 ?_;refine wf5 [0,1] (fun n:Nat=>[(5,.one (.dat (cI n)))]) (fun _=>[]) (fun n=>n<=s.size/\∀ j,j<n->p (vpd s j)=true) (fun n=>s.size-n) 0 ⟨Nat.zero_le _,fun j hj=>by omega⟩ ?_ ?_
 . refine hg ?_;exact StH.xof (by repeat' first | exact .nil | refine .cons (by first | exact .refl _ | exact .any _) ?_)
 intro n hn;obtain ⟨hn,hj⟩:=hn;refine hg ?_
 repeat' first|refine hF ?_ ?_<;>intros|(with_reducible refine wdy (h _) ?_)<;>refine hgS ?_
 . rename_i h1;refine ⟨n+1,⟨by omega,fun j hj'=>?_⟩,by omega,by exact StH.xof (by repeat' first | exact .nil | refine .cons (by first | exact .refl _ | exact .any _) ?_)⟩
   rcases Nat.lt_or_eq_of_le (Nat.le_of_lt_succ hj') with h2 | h2
   . exact hj j h2
   . rw [h2];exact h1
 . rename_i h1;rw [z4v hn hj (.inr h1)];exact RLe.ofEq rfl
 . rw [z4v hn hj (.inl (by omega))];exact RLe.ofEq rfl
theorem zhs (s:ByteArray) (hs:s.size<=1099511627776):CallsD Γ prog 98 [.one (cS s)] (.one (cB (isName s))):=by
 refine hE [] func98 f98.eq_1 ?_
 repeat' first|refine hF ?_ ?_<;>intros|(with_reducible first|refine wdy (y1m _) ?_|refine wdy (wkq s _ _ hs yif) ?_)<;>refine hgS ?_
 all_goals refine lf1 @isName.eq_def ?_;first | exact trivial | rfl
abbrev bldB (n:Nat):SB:=.box [.ptr 0 0,.sl 1 1 0 n] (some 299)
abbrev bldA (l:List Int):SB:=.arr (.ints .u8 l) 0 (some 5)
theorem w1b:liesAt prog prog.depth 299 (2 / prog.cellsOf 299) 0 299 1=true:=by kernel_rfl
theorem coU8:prog.cellsOf 5=1:=by kernel_rfl
attribute [go_sem] w1b coU8
theorem w9m (x:HC):xbh Γ prog 225 [.box [.dat (.raw (.pointer none)),x] (some 299)] [.one (.ptr 0 0)] [.box [.ptr 0 0,x] (some 299)] (.tup []):=by
 refine hEh [] func225 f225.eq_1 ?_;exact StH.refl
theorem xbg (x:HC) (T:Option TypeId) (y:SB):xbh Γ prog 225 [.box [.ptr 0 0,x] T,y] [.one (.ptr 0 0)] [.box [.ptr 0 0,x] T,y] (.tup []):=by
 refine hEh [] func225 f225.eq_1 ?_;exact StH.refl
theorem y3m (c:Int):xbh Γ prog 219 [.box [.dat (.raw (.pointer none)),.dat .zc] (some 299)] [.one (.ptr 0 0),.one (.dat (c8 c))] [bldB 1,bldA [c]] (.one (.dat (.raw .nilIface))):=by
 refine hEh [] func219 f219.eq_1 ?_;refine zue (w9m _) ?_;refine hg ?_;exact StH.refl
theorem zin (l:List Int) (c:Int) (hl:l.length<=68719476736):xbh Γ prog 219 [bldB l.length,bldA l] [.one (.ptr 0 0),.one (.dat (c8 c))] [.box [.ptr 0 0,.sl 2 1 0 (l++[c]).length] (some 299),.dead,bldA (l++[c])] (.one (.dat (.raw .nilIface))):=by
 refine hEh [] func219 f219.eq_1 ?_;refine zue (xbg _ _ _) ?_;refine hg ?_;exact StH.refl
theorem zv9 (l:List Int) (hl:l.all xrp=true) (h0:0<l.length) (h1:l.length<=1099511627776):xbh Γ prog 220 [bldB l.length,bldA l] [.one (.ptr 0 0)] [bldB l.length,.dead] (.one (.dat (cS (strOfNums l)))):=by
 refine hEh [] func220 f220.eq_1 ?_
 conv=>simp (maxSteps:=2000000) (disch:=omega) only [go_sem,Nat.reduceAdd,Nat.reduceSub,Nat.reduceMul,Int.reduceToNat,Nat.reduceEqDiff,Nat.reduceBEq,Nat.reduceBneDiff,Nat.reduceLT,Int.reduceEq,Int.reduceLT,Int.reduceLE,Int.reduceNeg,Int.reduceAdd,Int.reduceSub,Int.reduceMul,hl,h0,true_and,show l.length<=9223372036854775807 from by omega]
 refine hI ?_;exact StH.refl
theorem z9f (s:ByteArray) (hs:s.size<=1073741824):CallsD Γ prog 215 [.one (cS s)] (.one (cS (escS s))):=by
 refine hE [] func215 f215.eq_1 ?_;refine zue (y3m _) ?_;refine hg ?_;refine wf5 [0,2,3,7] (fun i:Nat=>[(8,.one (.dat (cI i)))]) (fun i=>[bldB (escA s i).length,bldA (escA s i)]) (fun i=>i<=s.size) (fun i=>s.size-i) 0 (Nat.zero_le _) ?_ ?_
 . refine hg ?_;exact sS
 intro i hi;have hlen:=zbo s i;refine hg ?_
 have two:∀ c,(c=34\/c=92)->i<s.size->vpd s i=c->escA s (i+1)=escA s i++[92]++[c]:=fun c h hi h2=>by
  rw [xvj hi,List.append_assoc,h2];rcases h with h | h<;>rw [h]<;>rfl
 repeat' (refine hF ?_ ?_<;>intros)
 . rename_i h _;refine zue (zin _ _ (by omega)) ?_;refine hgS ?_;refine yru [0,2] (zin (escA s i++[92]) _ (by simp only [List.length_append,List.length_singleton];omega)) rfl (by decide) rfl rfl rfl ?_;refine hgS ?_;rw [<-two 92 (.inr rfl) (by omega) h];refine ⟨i+1,by omega,by omega,StH.back [0,2,3,7,8] 1 3 2 rfl rfl rfl rfl rfl (by kernel_rfl) ?_⟩;refine hg ?_;exact sS
 . rename_i h1 _ h2 _ h3 _;refine zue (zin _ _ (by omega)) ?_;refine hgS ?_
   have one:escA s i++[vpd s i]=escA s (i+1):=by
    rw [xvj (by omega)];unfold escB;rw [decide_eq_false h2,decide_eq_false h3];rfl
   rw [one];refine ⟨i+1,by omega,by omega,StH.back [0,2,3,7,8] 1 2 2 rfl rfl rfl rfl rfl (by kernel_rfl) ?_⟩;refine hg ?_;exact sS
 . rename_i h _;refine zue (zin _ _ (by omega)) ?_;refine hgS ?_;refine yru [0,2] (zin (escA s i++[92]) _ (by simp only [List.length_append,List.length_singleton];omega)) rfl (by decide) rfl rfl rfl ?_;refine hgS ?_;rw [<-two 34 (.inl rfl) (by omega) h];refine ⟨i+1,by omega,by omega,StH.back [0,2,3,7,8] 1 3 2 rfl rfl rfl rfl rfl (by kernel_rfl) ?_⟩;refine hg ?_;exact sS
 . have e:i=s.size:=by omega
   subst e;refine zue (zin _ _ (by omega)) ?_;refine hg ?_;refine hca [0,2] (zv9 (escA s s.size++[34]) (by rw [List.all_append,zfg];rfl) (by simp) (by simp only [List.length_append,List.length_singleton];omega)) ?_;exact RLe.ofEq rfl
theorem xtz (s:ByteArray) (hs:s.size<=1073741824):∃ t,CallsD Γ prog 204 [.one (cS s)] (.tup [.one (cS t),.one (cB (xld s))]):=by
 refine ⟨bif xld s then escS s else ⟨#[]⟩,?_⟩;refine hE [] func204 f204.eq_1 ?_
 repeat' first|refine hF ?_ ?_<;>intros|(with_reducible first|refine wdy (wkq s _ _ (by omega) wqi) ?_|refine wdy (z9f s hs) ?_)<;>refine hgS ?_
 all_goals refine lf1 @xld.eq_def ?_;first | exact trivial | rfl
theorem ylp (s:ByteArray):CallsD Γ prog 99 [.one (cS s)] (.one (cB (isWord s))):=by
 refine hE [] func99 f99.eq_1 ?_
 repeat' (refine hF ?_ ?_<;>intros)
 all_goals refine lf1 @isWord.eq_def ?_;first | exact trivial | rfl
theorem ze8 (s:ByteArray) (hs:s.size<=1099511627776):CallsD Γ prog 205 [.one (cS s)] (.one (cB (isNamed s))):=by
 refine hE [] func205 f205.eq_1 ?_
 repeat' first|refine hF ?_ ?_<;>intros|(with_reducible first|refine wdy (zhs s hs) ?_|refine wdy (ylp s) ?_)<;>refine hgS ?_
 all_goals refine lf1 @isNamed.eq_def ?_;first | exact trivial | rfl
theorem vqb (o:Int):CallsD Γ prog 206 [.one (cI o)] (.tup [.one (cS (zuh o)),.one (cB (isOp o))]):=by
 refine hE [] func206 f206.eq_1 ?_
 repeat' (refine hF ?_ ?_<;>intros)
 all_goals refine lf2 @isOp.eq_def @zuh.eq_def ?_;first | exact trivial | rfl
theorem xyn (x:Ex) (hx:x.Sm):CallsD Γ prog 178 [.agg (exC x)] (.one (cB (z9z x))):=by
 have hu:=hx.u;have hs:=hx.s;have hl:=hx.len;obtain ⟨q,hq⟩:∃ q,CallsD Γ prog 204 [.one (cS x.unit)] (.tup [.one (cS q),.one (cB (xld x.unit))]):=xtz x.unit (by omega);refine hE [] func178 f178.eq_1 ?_
 repeat' first|refine hF ?_ ?_<;>intros|(with_reducible first|refine wdy hq ?_|refine wdy (ze8 x.name (by omega)) ?_|refine wdy (vqb _) ?_)<;>refine hgS ?_
 all_goals refine lf1 @z9z.eq_def ?_;first | exact trivial | rfl
theorem yzf (l:List Ex) (f:FuncId) (p:Ex->Bool) (hl:l.length<=1073741824) (h:∀ y∈l,CallsD Γ prog f [.agg (exC y)] (.one (cB (p y)))) :
 CallsD Γ prog 207 [.one (.sl 5 (l.map Ex.cells)),fN f] (.one (cI (idxF p l))):=by
 refine hE [] func207 f207.eq_1 ?_;refine wf5 [0,1,7] (fun i:Nat=>[(8,.one (.dat (cI i)))]) (fun _=>[]) (fun i=>i<=l.length/\∀ j,j<i->p (l.getD j default)=false) (fun i=>l.length-i) 0 ⟨Nat.zero_le _,fun j hj=>by omega⟩ ?_ ?_
 . refine hg ?_;exact sS
 intro i hi;obtain ⟨hi,hj⟩:=hi;refine hg ?_
 repeat' first|refine hF ?_ ?_<;>intros|(with_reducible refine wdy (h _ (z1y (show i<l.length by omega))) ?_)<;>refine hgS ?_
 . rename_i hp;rw [(wu8 hi hj).2 (by omega) hp];exact RLe.ofEq rfl
 . rename_i hp;refine ⟨i+1,⟨by omega,fun j hj'=>?_⟩,by omega,sS⟩
   rcases Nat.lt_or_eq_of_le (Nat.le_of_lt_succ hj') with h2 | h2
   . exact hj j h2
   . rw [h2];exact hp
 . rw [(wu8 hi hj).1 (by omega)];exact RLe.ofEq rfl
theorem zq1 (l:List Ex) (f:FuncId) (p:Ex->Bool) (hl:l.length<=1073741824) (h:∀ y∈l,CallsD Γ prog f [.agg (exC y)] (.one (cB (p y)))) :
 CallsD Γ prog 179 [.one (.sl 5 (l.map Ex.cells)),fN f] (.one (cB (l.any p))):=by
 refine hE [] func179 f179.eq_1 ?_
 (with_reducible refine wdy (yzf l f p hl h) ?_)<;>refine hgS ?_
 exact RLe.ofEq (by rw [<-vrj])
theorem wbr:∀ x:Ex,x.Sm->CallsD Γ prog 155 [.agg (exC x)] (.one (cB x.shaped)):=by
 refine Ex.ind (fun x ih hx=>?_);have hl:=hx.len
 have hw:∀ y∈x.args,CallsD Γ prog 177 [.agg (exC y)] (.one (cB (!y.shaped))):=fun y hy=>by
  refine hE [] func177 f177.eq_1 ?_
  (with_reducible refine wdy (ih y hy (hx.arg y hy)) ?_)<;>refine hgS ?_
  exact RLe.ofEq rfl
 refine hE [] func155 f155.eq_1 ?_
 repeat' first|refine hF ?_ ?_<;>intros|(with_reducible first|refine wdy (xyn x hx) ?_|refine wdy (zq1 x.args _ _ hl hw) ?_)<;>refine hgS ?_
 all_goals refine RLe.ofEq ?_
 . rename_i h;rw [Ex.z9l,h];simp [List.all_eq_not_any_not]
 . rename_i h;rw [Ex.z9l,h];rfl
abbrev nB (n:Int) (T:Option TypeId):SB:=.box [.dat (cI n)] T
theorem vnr:∀ x:Ex,x.Sm->∀(n lv:Int) (T:Option TypeId),0<=n->n<=1000->0<=lv->lv<=1000->
 xbh Γ prog 154 [nB n T] [.agg ((exC x).map .dat),.one (.ptr 0 0),.one (.dat (cI lv))] [nB (x.cnt n lv).2 T] (.one (.dat (cB (x.cnt n lv).1))):=by
 refine Ex.ind (fun x ih hx n lv T h0 h1 h2 h3=>?_);have hl:=hx.len
 have fin:∀(b:Bool) (k:Int),x.cnt n lv=(b,k)->StH Γ [nB n T] [SV.one (.dat (cB b))] [nB k T,.box ((exC x).map .dat) (some 127)] [SV.one (.dat (cB (x.cnt n lv).1))] [nB (x.cnt n lv).2 T]:=fun b k h=>by
  rw [h];exact StH.done 1 rfl (by kernel_rfl) rfl rfl
 refine hEh [] func154 f154.eq_1 ?_
 repeat' (refine hF ?_ ?_<;>intros)
 . exact fin _ _ (by rw [Ex.zsm];simp only [*];rfl)
 . have e0:x.cnt n lv=Ex.cntL x.args (n+1) (lv+1):=by rw [Ex.zsm];simp only [*];rfl
   refine wf5 [1,2,23,24] (fun p:Nat×Int=>[(25,.one (.dat (cI p.1)))]) (fun p=>[nB p.2 T,.box ((exC x).map .dat) (some 127)]) (fun p=>p.1<=x.args.length/\0<=p.2/\p.2<=200/\Ex.cntL (x.args.drop p.1) p.2 (lv+1)=Ex.cntL x.args (n+1) (lv+1)) (fun p=>x.args.length-p.1) (0,n+1) ⟨Nat.zero_le _,by simp only;omega,by simp only;omega,rfl⟩ ?_ ?_
   . refine hg ?_;exact sS
   rintro ⟨i,m⟩ ⟨hi,hm0,hm1,hc⟩;simp only at hi hm0 hm1 hc;refine hg ?_;refine y8g (fun hlt hd=>?_) (fun hlt _=>?_)
   . have hlt':i<x.args.length:=by omega
     have hy:=z1y hlt';rw [xc3 hlt'] at hc;refine hg ?_;refine yru [0] (ih _ hy (hx.arg _ hy) m (lv+1) T (by omega) (by omega) (by omega) (by omega)) rfl (by decide) rfl rfl rfl ?_;have hstep:=hc;rw [Ex.cntL] at hstep;generalize hr:(x.args.getD i default).cnt m (lv+1)=r at hstep ⊢;obtain ⟨b,k⟩:=r;refine hg ?_
     cases b with
     | true=>
      have hk:=Ex.zz3 _ _ _ _ hr;refine hg ?_;exact ⟨(i+1,k),⟨by simp only;omega,by simp only;omega,hk.2,hstep⟩,by simp only;omega,StH.back [1,2,23,24,25] 2 2 2 rfl rfl rfl rfl rfl (by kernel_rfl) (sS)⟩
     | false=>
      refine hg ?_;rw [e0,<-hstep];exact StH.done 1 rfl (by kernel_rfl) rfl rfl
   . refine hg ?_;rw [e0,<-hc,List.drop_eq_nil_of_le (by omega),Ex.cntL];exact StH.done 1 rfl (by kernel_rfl) rfl rfl
 . exact fin _ _ (by rw [Ex.zsm];simp only [*];rfl)
theorem ydl (x:Ex) (hx:x.Sm):CallsD Γ prog 105 [.agg (exC x)] (.one (cB (xnq x))):=by
 refine hE [] func105 f105.eq_1 ?_;refine hca [1] (vnr x hx 0 1 _ (by decide) (by decide) (by decide) (by decide)) ?_
 repeat' first|refine hF ?_ ?_<;>intros|(with_reducible refine wdy (wbr x hx) ?_)<;>refine hgS ?_
 all_goals refine lf1 @xnq.eq_def ?_;first | exact trivial | rfl
end Go.Hp.T
namespace Go.Hp
open Go Go.RowKit Go.Slot
variable {P:Program} {Γ:List (Nat×List Cell)}
theorem w2m {n N i:Nat} (h:i<n):atR (List.range n) N i=i:=y2j (by simp [h])
theorem xbh.pre {f:FuncId} {ηs ξ:List SB} {args:List SV} {res:SV} (h:xbh Γ P f ηs args ηs res) (hs:∀ r,ηs.map (rnSB r)=ηs) (ha:args.map (xbb (atR (List.range ηs.length) (ηs++ξ).length))=args) (hr:rnSV (atR (List.range ηs.length) (ηs++ξ).length) res=res):xbh Γ P f (ηs++ξ) args (ηs++ξ) res:=by
 have hfix:∀(r:Nat->Nat) (i:Nat) (x:SB),ηs[i]? = some x->rnSB r x=x:=fun r i x hx=>by
  have:=congrArg (fun l=>l[i]?) (hs r)
  simp only [List.getElem?_map,hx,Option.map_some] at this;exact Option.some.inj this
 have hlt:∀ j∈List.range ηs.length,j<(ηs++ξ).length:=fun j hj=>by
  rw [List.mem_range] at hj;rw [List.length_append];omega
 have hk:=xbh.frame (φ:=List.range ηs.length) (η:=ηs++ξ) List.nodup_range hlt ⟨by simp,fun i x hx=>by
  have hi:i<ηs.length:=(List.getElem?_eq_some_iff.1 hx).1
  exact ⟨i,by simp [hi],by rw [hfix _ i x hx,List.getElem?_append_left hi];exact hx⟩⟩ (by simp) h
 rw [ha,hr] at hk
 have hp:putR (List.range ηs.length) (ηs++ξ) ηs=ηs++ξ:=by
  apply List.ext_getElem?;intro i;by_cases hi:i<ηs.length
  . have h1:=yay (φ:=List.range ηs.length) (η:=ηs++ξ) (ηs':=ηs) List.nodup_range hlt (List.getElem?_eq_getElem hi);rw [w2m hi,hfix _ i _ (List.getElem?_eq_getElem hi)] at h1;rw [h1,List.getElem?_append_left hi,List.getElem?_eq_getElem hi]
  . by_cases hi2:i<(ηs++ξ).length
    . exact xzj hi2 (by simpa using hi)
    . rw [List.getElem?_eq_none (by rw [ywq];simp at hi2 ⊢;omega),List.getElem?_eq_none (by omega)]
 rw [hp] at hk;exact hk
end Go.Hp
namespace Go.Hp.T
open Go Go.RowKit Go.Slot Go.Hp
end Go.Hp.T
namespace Go.Hp.T
open Go Go.RowKit Go.Slot Go.Hp Go.Slot.T
open Go.Proofs.Tryz
variable {L:List Tk} {a:Nat} {b:Bool} {k:Int}
attribute [local irreducible] hide RH
set_option maxRecDepth 10000
set_option maxHeartbeats 8000000
variable {Γ:List (Nat×List Cell)}
abbrev rdF (L:List Tk) (a:Nat) (b:Bool):SB:=.box [.dat (.sl 4 (L.map Tk.C)),.dat (cI a),.dat (cB b)] (some 293)
def kdF (L:List Tk) (a:Nat) (b:Bool) (k:Int):Bool:=!b&&(decide ((a:Int)<L.length)&&decide ((L.getD a default).k=k))
def isF (L:List Tk) (a:Nat) (b:Bool) (k:Int) (t:ByteArray):Bool:=!b&&(decide ((a:Int)<L.length)&&(decide ((L.getD a default).k=k)&&seq (L.getD a default).t t))
theorem vjj {t:ByteArray} (h:isF L a b k t=true):a<L.length/\b=false:=by
 unfold isF at h;simp only [Bool.and_eq_true,decide_eq_true_eq,Bool.not_eq_true'] at h;exact ⟨by omega,h.1⟩
theorem w5h (h:kdF L a b k=true):a<L.length/\b=false:=by
 unfold kdF at h;simp only [Bool.and_eq_true,decide_eq_true_eq,Bool.not_eq_true'] at h;exact ⟨by omega,h.1⟩
theorem cFIs (L:List Tk) (a:Nat) (b:Bool) (k:Int) (t:ByteArray):xbh Γ prog 226 [rdF L a b] [.one (.ptr 0 0),.one (.dat (cI k)),.one (.dat (cS t))] [rdF L a b] (.one (.dat (cB (isF L a b k t)))):=by
 refine hEh [] func226 f226.eq_1 ?_
 repeat' first|refine hF ?_ ?_<;>intros|refine hI ?_
 all_goals exact StH.y4a rfl (by kernel_rfl) (by ((refine bs1 @isF.eq_def ?_;try exact trivial))<;>first | rfl | trivial)
theorem vpf (L:List Tk) (a:Nat) (b:Bool) (k:Int):xbh Γ prog 227 [rdF L a b] [.one (.ptr 0 0),.one (.dat (cI k))] [rdF L a b] (.one (.dat (cB (kdF L a b k)))):=by
 refine hEh [] func227 f227.eq_1 ?_
 repeat' first|refine hF ?_ ?_<;>intros|refine hI ?_
 all_goals exact StH.y4a rfl (by kernel_rfl) (by ((refine bs1 @kdF.eq_def ?_;try exact trivial))<;>first | rfl | trivial)
def skF (L:List Tk) (a:Nat) (b:Bool) (k:Int) (t:ByteArray):Nat:=bif isF L a b k t then a+1 else a
theorem yp9 (L:List Tk) (a:Nat) (b:Bool) (k:Int) (t:ByteArray) (hl:L.length<=1073741824):xbh Γ prog 221 [rdF L a b] [.one (.ptr 0 0),.one (.dat (cI k)),.one (.dat (cS t))] [rdF L (skF L a b k t) b] (.one (.dat (cB (isF L a b k t)))):=by
 have c:=cFIs (Γ:=Γ) L a b k t;unfold skF
 cases h:isF L a b k t with
 | true=>
  have hlt:=vjj h;rw [h] at c;refine hEh [] func221 f221.eq_1 ?_;refine zue c ?_;refine hg ?_;exact sS
 | false=>
  rw [h] at c;refine hEh [] func221 f221.eq_1 ?_;refine zue c ?_;refine hg ?_;exact sS
theorem zdt (L:List Tk) (a:Nat) (b:Bool) (k:Int) (t:ByteArray) (hl:L.length<=1073741824):xbh Γ prog 223 [rdF L a b] [.one (.ptr 0 0),.one (.dat (cI k)),.one (.dat (cS t))] [rdF L (skF L a b k t) (!isF L a b k t)] (.tup []):=by
 have c:=yp9 (Γ:=Γ) L a b k t hl;unfold skF at c ⊢
 cases h:isF L a b k t with
 | true=>
  obtain ⟨hlt,rfl⟩:=vjj h;rw [h] at c;rw [cond_true] at c ⊢;refine hEh [] func223 f223.eq_1 ?_
  first | refine zue c ?_ | refine vbv [(0,rdF L (a+1) false)] c ?_
  refine hg ?_;exact sS
 | false=>
  rw [h] at c;rw [cond_false] at c ⊢;refine hEh [] func223 f223.eq_1 ?_
  first | refine zue c ?_ | refine vbv [] c ?_
  refine hg ?_;exact sS
theorem w9y (L:List Tk) (a:Nat) (b:Bool) (t:ByteArray) (hl:L.length<=1073741824):xbh Γ prog 230 [rdF L a b] [.one (.ptr 0 0),.one (.dat (cS t))] [rdF L (skF L a b 3 t) (!isF L a b 3 t)] (.tup []):=by
 have c:=zdt (Γ:=Γ) L a b 3 t hl;refine hEh [] func230 f230.eq_1 ?_;refine zue c ?_;refine hg ?_;exact sS
theorem xsc (L:List Tk) (a:Nat) (b:Bool) (hl:L.length<=1073741824) (h:a<L.length):xbh Γ prog 234 [rdF L a b] [.one (.ptr 0 0)] [rdF L (a+1) b] (.agg ((tkC (L.getD a default)).map .dat)):=by
 refine hEh [] func234 f234.eq_1 ?_;refine hI ?_;rw [show ((a:Int)+1-1).toNat=a by omega];exact StH.done 1 rfl (by kernel_rfl) rfl rfl
def nmOk (L:List Tk) (a:Nat) (b:Bool):Bool:=kdF L a b 0&&!isWord (L.getD a default).t
def nmS (L:List Tk) (a:Nat) (b:Bool):ByteArray:=bif nmOk L a b then (L.getD a default).t else ⟨#[]⟩
theorem z3c (L:List Tk) (a:Nat) (b:Bool) (hl:L.length<=1073741824):xbh Γ prog 231 [rdF L a b] [.one (.ptr 0 0)] [rdF L (bif nmOk L a b then a+1 else a) (bif nmOk L a b then b else true)] (.one (.dat (cS (nmS L a b)))):=by
 have c:=vpf (Γ:=Γ) L a b 0;have w:=ylp (Γ:=Γ) (L.getD a default).t;unfold nmS nmOk
 cases h:kdF L a b 0 with
 | false=>
  rw [h] at c;refine hEh [] func231 f231.eq_1 ?_
  first | refine zue c ?_ | refine z5f 1 (fun ξ=>xbh.pre (ξ:=ξ) c (fun r=>rfl) rfl rfl) rfl rfl ?_
  refine hg ?_;refine hI ?_;exact sS
 | true=>
  obtain ⟨hlt,rfl⟩:=w5h h;have tk:=xsc (Γ:=Γ) L a false hl hlt;rw [h] at c;clear h
  cases hw:isWord (L.getD a default).t with
  | true=>
   rw [hw] at w;refine hEh [] func231 f231.eq_1 ?_
   first | refine zue c ?_ | refine z5f 1 (fun ξ=>xbh.pre (ξ:=ξ) c (fun r=>rfl) rfl rfl) rfl rfl ?_
   refine hg ?_
   repeat' first|refine hI ?_|(with_reducible refine y04 w ?_)<;>refine hgS ?_
   exact sS
  | false=>
   rw [hw] at w;refine hEh [] func231 f231.eq_1 ?_
   first | refine zue c ?_ | refine z5f 1 (fun ξ=>xbh.pre (ξ:=ξ) c (fun r=>rfl) rfl rfl) rfl rfl ?_
   refine hg ?_
   repeat' first|refine hI ?_|(with_reducible refine y04 w ?_)<;>refine hgS ?_
   refine zue tk ?_;refine hg ?_;exact sS
end Go.Hp.T
namespace Go.Hp
open Go Go.RowKit Go.Slot
variable {P:Program} {Γ:List (Nat×List Cell)} {e:List SB}
variable {l sl J':List SV} {η:List SB} {avs:List AV} {bs:List Nat}
theorem StH.frzT (h:y7w η l=some (avs,bs)) (hs:xo6 avs=some sl):StH Γ e [.tup l] η [.tup sl] (appL (frzE η bs) η):=fun E ρ a w _ hR=>by
 obtain ⟨h1,h2⟩:=hR.frz (y8d h);refine ⟨ρ,h1.hd,h1.hs,fun i x hi=>?_,h1.went⟩
 cases i with
 | zero=>
  simp only [List.getElem?_cons_zero,Option.some.injEq] at hi;subst hi;obtain ⟨vs,hv,hr⟩:=h1.slot 0 (.tup l) rfl;exact ⟨vs,hv,xht hs (yt1 h1.inv h h2 hr)⟩
 | succ i=>simp at hi
theorem StH.frzA {x y:SV} {η:List SB} {av:AV} {bs:List Nat} (h:y7w η [x]=some ([av],bs)) (hs:xo6 [av]=some [y]) (hx:∀ l,x≠.tup l) (hy:∀ l,y≠.tup l):StH Γ e [x] η [y] (appL (frzE η bs) η):=fun E ρ a w _ hR=>by
 obtain ⟨h1,h2⟩:=hR.frz (y8d h);refine ⟨ρ,h1.hd,h1.hs,fun i z hi=>?_,h1.went⟩
 cases i with
 | zero=>
  simp only [List.getElem?_cons_zero,Option.some.injEq] at hi;subst hi;have hr:=h1.slot 0 x rfl
  have hr:SRL _ ρ _ w [a.tmps.getD 0 Go.undef] [x]:=⟨by
   cases x with
   | tup l=>exact absurd rfl (hx l)
   | _=>exact hr,trivial⟩
  have h3:=(xht (η:=appL (frzE η bs) η) (ρ:=ρ) hs (yt1 h1.inv h h2 hr)).1
  cases y with
  | tup l=>exact absurd rfl (hy l)
  | _=>exact h3
 | succ i=>simp at hi
theorem StH.agg1 {l l':List HC} (h:SVle (.agg l) (.agg l')):StH Γ e [.agg l] η [.agg l'] η:=StH.same (.cons h .nil) rfl
theorem StH.va6 (h:y7w η l=some (avs,bs)) (hs:xo6 avs=some sl) (he:(appL (frzE η bs) η).take e.length=e) (hb:([SV.tup sl].all fun x=>(x3b x).all fun b=>Nat.blt b e.length)=true) (hσ:[SV.tup sl]=J'):StH Γ e [.tup l] η J' e:=
 StH.trans (StH.frzT h hs) (StH.y4a he hb hσ)
theorem StH.xw7 {x y:SV} {av:AV} (h:y7w η [x]=some ([av],bs)) (hs:xo6 [av]=some [y]) (hx:∀ l,x≠.tup l) (hy:∀ l,y≠.tup l) (he:(appL (frzE η bs) η).take e.length=e) (hb:([y].all fun x=>(x3b x).all fun b=>Nat.blt b e.length)=true) (hσ:[y]=J'):StH Γ e [x] η J' e:=
 StH.trans (@StH.frzA Γ e x y η av bs h hs hx hy) (StH.y4a he hb hσ)
end Go.Hp
namespace Go.Hp.T
open Go Go.RowKit Go.Slot Go.Hp Go.Slot.T
open Go.Proofs.Tryz
attribute [local irreducible] hide RH
set_option maxRecDepth 10000
set_option maxHeartbeats 8000000
variable {Γ:List (Nat×List Cell)}
theorem yiq {e η η':List SB} {o n:Int} {u s:ByteArray} (m:Nat) (hm:Nat.ble e.length m=true) (h:wd9 m [SV.agg [.dat (cI o),.dat (cI n),.dat (cS u),.dat (cS s),.dat .zc]] η=true) (hη:η.take m=η') :
 StH Γ e [SV.agg [.dat (cI o),.dat (cI n),.dat (cS u),.dat (cS s),.dat .zc]] η [SV.agg ((exC (.mk o n u s [])).map .dat)] η':=
 StH.trans (StH.done m hm h rfl hη) (StH.agg1 (.agg (.cons (.refl _) (.cons (.refl _) (.cons (.refl _) (.cons (.refl _) (.cons (.dat (.zcSl _)) .nil)))))))
def nbE (L:List Tk) (a:Nat) (b:Bool):Ex:=.mk 0 (L.getD a default).n (bif kdF L (a+1) b 2 then (L.getD (a+1) default).t else ⟨#[]⟩) ⟨#[]⟩ []
def nbA (L:List Tk) (a:Nat) (b:Bool):Nat:=bif kdF L (a+1) b 2 then a+2 else a+1
theorem ymd (L:List Tk) (a:Nat) (b:Bool) (hl:L.length<=1073741824) (h:a<L.length):xbh Γ prog 228 [rdF L a b] [.one (.ptr 0 0)] [rdF L (nbA L a b) b] (.agg ((exC (nbE L a b)).map .dat)):=by
 have t1:=xsc (Γ:=Γ) L a b hl h;have k1:=vpf (Γ:=Γ) L (a+1) b 2;unfold nbA nbE
 cases hk:kdF L (a+1) b 2 with
 | false=>
  rw [hk] at k1;refine hEh [] func228 f228.eq_1 ?_;refine hca [0] t1 ?_;refine hca [0] k1 ?_;exact yiq 1 rfl (by kernel_rfl) rfl
 | true=>
  obtain ⟨hlt,rfl⟩:=w5h hk;have t2:=xsc (Γ:=Γ) L (a+1) false hl hlt;rw [hk] at k1;refine hEh [] func228 f228.eq_1 ?_;refine hca [0] t1 ?_;refine hca [0] k1 ?_;refine hca [0] t2 ?_;exact yiq 1 rfl (by kernel_rfl) rfl
def opKd (o:Int):Int:=bif decide (o=14)||decide (o=15) then 0 else 3
def opIs (L:List Tk) (a:Nat) (b:Bool) (o:Int):Bool:=isOp o&&isF L a b (opKd o) (zuh o)
def opNx (L:List Tk) (a:Nat) (b:Bool):Option Nat:=(List.range 16).find? fun i=>opIs L a b i
theorem zco {p:Nat->Bool} {n i:Nat} (hi:i<n) (h:p i=true) (hj:∀ j,j<i->p j=false):(List.range n).find? p=some i:=by
 rw [List.find?_range_eq_some];exact ⟨h,List.mem_range.2 hi,fun j hji=>by rw [hj j hji];rfl⟩
theorem wtl {p:Nat->Bool} {n:Nat} (hj:∀ j,j<n->p j=false):(List.range n).find? p=none:=by
 rw [List.find?_eq_none];intro x hx;rw [hj x (List.mem_range.1 hx)];decide
def opR:Option Nat->SV
 | none=>.tup [.one (.dat (cI 0)),.one (.dat (cB false))]
 | some i=>.tup [.one (.dat (cI i)),.one (.dat (cB true))]
theorem wg7 (L:List Tk) (a:Nat) (b:Bool) (hl:L.length<=1073741824):xbh Γ prog 224 [rdF L a b] [.one (.ptr 0 0)] [rdF L (bif (opNx L a b).isSome then a+1 else a) b] (opR (opNx L a b)):=by
 generalize hR:opNx L a b=R;refine hEh [] func224 f224.eq_1 ?_;refine wf5 [0] (fun i:Nat=>[(8,.one (.dat (cI i)))]) (fun _=>[rdF L a b]) (fun i=>i<=16/\∀ j,j<i->opIs L a b j=false) (fun i=>16-i) 0 ⟨Nat.zero_le _,fun j hj=>by omega⟩ ?_ ?_
 . refine hg ?_;exact sS
 rintro i ⟨h1,h2⟩;refine hg ?_;refine y8g (fun hlt _=>?_) (fun hlt _=>?_)
 . have hi:i<16:=by omega
   have co:=vqb (Γ:=Γ) (i:Int)
   have hyes:=fun h=>zco (p:=fun i:Nat=>opIs L a b i) hi h h2
   have hno:opIs L a b i=false->∀ j,j<i+1->opIs L a b (j:Nat)=false:=fun h j hj=>by
    rcases Nat.lt_or_eq_of_le (Nat.le_of_lt_succ hj) with h3 | h3
    . exact h2 j h3
    . rw [h3];exact h
   clear h2
   have hk:opKd (i:Int)=bif decide ((i:Int)=14)||decide ((i:Int)=15) then 0 else 3:=rfl
   have hkd:∃ p q,decide ((i:Int)=14)=p/\decide ((i:Int)=15)=q:=⟨_,_,rfl,rfl⟩;obtain ⟨p,q,d14,d15⟩:=hkd;rw [d14,d15] at hk
   cases ho:isOp (i:Int) with
   | false=>
    have hno:=hno (by unfold opIs;rw [ho];rfl);rw [ho] at co;clear hyes hR hk
    cases p<;>cases q
    all_goals
     refine hg ?_
     repeat' ((with_reducible refine wdy co ?_)<;>refine hgS ?_)
     exact ⟨i+1,⟨by omega,hno⟩,by omega,sS⟩
   | true=>
    rw [ho] at co;have sk:=yp9 (Γ:=Γ) L a b (opKd i) (zuh i) hl;unfold skF at sk
    cases hs:isF L a b (opKd i) (zuh i) with
    | true=>
     have hy:R=some i:=by rw [<-hR];exact hyes (by unfold opIs;rw [ho,hs];rfl)
     subst hy;rw [hs,cond_true,hk] at sk;clear hyes hno hR hs hk ho
     cases p<;>cases q
     all_goals
      simp only [Bool.or_false,Bool.or_true,cond_true,cond_false] at sk;refine hg ?_
      repeat' ((with_reducible refine wdy co ?_)<;>refine hgS ?_)
      refine zue sk ?_;refine hg ?_;exact sS
    | false=>
     have hno:=hno (by unfold opIs;rw [ho,hs];rfl);rw [hs,cond_false,hk] at sk;clear hyes hR hs hk ho
     cases p<;>cases q
     all_goals
      simp only [Bool.or_false,Bool.or_true,cond_true,cond_false] at sk;refine hg ?_
      repeat' ((with_reducible refine wdy co ?_)<;>refine hgS ?_)
      refine zue sk ?_;refine hg ?_;exact ⟨i+1,⟨by omega,hno⟩,by omega,sS⟩
 . have e:=wtl (p:=fun i:Nat=>opIs L a b i) (n:=16) (fun j hj=>h2 j (by omega))
   have hy:R=none:=by rw [<-hR];exact e
   subst hy;clear hR e h2;refine hg ?_;exact sS
end Go.Hp.T
