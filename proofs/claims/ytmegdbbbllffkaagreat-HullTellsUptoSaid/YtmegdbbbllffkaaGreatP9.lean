/- The proof, part P9: Ie, Id, If, Nc, Na, La, Lb, Lc, Ba, Bb, Bc, Bd, Be, Bf, Bg, Bh, Bi, Bj. -/
import Derived.Test.YtmegdbbbllffkaaGreatP8
import Derived.Test.YtmegdbbbllffkaaGreatP4
namespace Go.Hp.T
open Go Go.RowKit Go.Slot Go.Hp
set_option maxRecDepth 10000
variable {α:Type} {i:Nat}
inductive Ex where
 | mk (op n:Int) (unit name:ByteArray) (args:List Ex)
def Ex.op:Ex->Int | .mk o _ _ _ _=>o
def Ex.n:Ex->Int | .mk _ n _ _ _=>n
def Ex.unit:Ex->ByteArray | .mk _ _ u _ _=>u
def Ex.name:Ex->ByteArray | .mk _ _ _ s _=>s
def Ex.args:Ex->List Ex | .mk _ _ _ _ l=>l
def Ex.zero:Ex:=.mk 0 0 ⟨#[]⟩ ⟨#[]⟩ []
instance:Inhabited Ex:=⟨Ex.zero⟩
theorem Ex.ind {Q:Ex->Prop} (h:∀ x:Ex,(∀ y∈x.args,Q y)->Q x):∀ x,Q x
 | .mk o n u s l=>h _ (fun y _hy=>Ex.ind h y)
termination_by x=>SizeOf.sizeOf x
decreasing_by
 have:=List.sizeOf_lt_of_mem (show y∈l from _hy)
 simp only [Ex.mk.sizeOf_spec];omega
mutual
def Ex.cells:Ex->List Cell
 | .mk o n u s l=>[cI o,cI n,cS u,cS s,.sl 5 (Ex.wif l)]
def Ex.wif:List Ex->List (List Cell)
 | []=>[]
 | x::l=>Ex.cells x::Ex.wif l
end
theorem Ex.v1u:∀ l:List Ex,Ex.wif l=l.map Ex.cells
 | []=>by rw [Ex.wif];rfl
 | x::l=>by rw [Ex.wif,Ex.v1u l];rfl
abbrev exC (x:Ex):List Cell:=[cI x.op,cI x.n,cS x.unit,cS x.name,.sl 5 (x.args.map Ex.cells)]
theorem Ex.vle (x:Ex):Ex.cells x=exC x:=by
 cases x with
 | mk o n u s l=>rw [Ex.cells,Ex.v1u];rfl
theorem getD_map' {α β:Type} [Inhabited α] (f:α->β) (d:β):∀(l:List α) (i:Nat),i<l.length->(l.map f).getD i d=f (l.getD i default)
 | [],_,h=>by simp at h
 | _::_,0,_=>rfl
 | _::l,i+1,h=>by simpa using getD_map' f d l i (by simpa using h)
theorem getD_map {β:Type} [Inhabited α] {f:α->β} {d:β} {l:List α} (h:i<l.length):(l.map f).getD i d=f (l.getD i default):=getD_map' f d l i h
attribute [go_sem] getD_map Ex.vle
theorem w4t [Inhabited α] {l:List α} (h:i<l.length):l.getD i default∈l:=by
 have:l.getD i default=l[i]:=by simp [h]
 rw [this];exact List.getElem_mem h
theorem xqz [Inhabited α] {l:List α} (h:i<l.length):l.drop i=l.getD i default::l.drop (i+1):=by
 have:l.getD i default=l[i]:=by simp [h]
 rw [this];exact List.drop_eq_getElem_cons h
theorem z4f [Inhabited α] {l:List α} (h:i<l.length):l.take (i+1)=l.take i++[l.getD i default]:=by
 have:l.getD i default=l[i]:=by simp [h]
 rw [this,List.take_add_one];simp [h]
inductive Ex.Sm:Ex->Prop
 | mk (x:Ex) (hl:x.args.length<=1073741824) (hu:x.unit.size<=1073741824) (hs:x.name.size<=1073741824) (h:∀ y∈x.args,Ex.Sm y):Ex.Sm x
theorem Ex.Sm.len {x:Ex} (h:x.Sm):x.args.length<=1073741824:=by cases h;assumption
theorem Ex.Sm.u {x:Ex} (h:x.Sm):x.unit.size<=1073741824:=by cases h;assumption
theorem Ex.Sm.s {x:Ex} (h:x.Sm):x.name.size<=1073741824:=by cases h;assumption
theorem Ex.Sm.arg {x:Ex} (h:x.Sm):∀ y∈x.args,y.Sm:=by cases h;assumption
def isWord (s:ByteArray):Bool:=seq s ⟨#[110,111,116]⟩||seq s ⟨#[105,102]⟩||seq s ⟨#[116,104,101,110]⟩||seq s ⟨#[101,108,115,101]⟩||seq s ⟨#[97,110,100]⟩||seq s ⟨#[111,114]⟩||seq s ⟨#[108,111,111,107]⟩||seq s ⟨#[109,105,110]⟩||seq s ⟨#[109,97,120]⟩||seq s ⟨#[105,110,116,111]⟩||seq s ⟨#[116,111]⟩||seq s ⟨#[97,115]⟩
def isNamed (s:ByteArray):Bool:=isName s&&!isWord s
def zgj (o:Int):ByteArray:=bif decide (o=6) then ⟨#[43]⟩ else bif decide (o=7) then ⟨#[45]⟩ else bif decide (o=8) then ⟨#[42]⟩ else bif decide (o=9) then ⟨#[47]⟩ else bif decide (o=12) then ⟨#[60]⟩ else bif decide (o=13) then ⟨#[61]⟩ else bif decide (o=14) then ⟨#[97,110,100]⟩ else bif decide (o=15) then ⟨#[111,114]⟩ else ⟨#[]⟩
def isOp (o:Int):Bool:=decide (o=6)||decide (o=7)||decide (o=8)||decide (o=9)||decide (o=12)||decide (o=13)||decide (o=14)||decide (o=15)
mutual
def Ex.cnt:Ex->Int->Int->Bool×Int
 | .mk _ _ _ _ l,n,lv=>bif decide (200<n+1)||decide (20<lv) then (false,n+1) else Ex.cntL l (n+1) (lv+1)
def Ex.cntL:List Ex->Int->Int->Bool×Int
 | [],n,_=>(true,n)
 | y::l,n,lv=>match Ex.cnt y n lv with
  | (false,m)=>(false,m)
  | (true,m)=>Ex.cntL l m lv
end
theorem Ex.vrw (x:Ex) (n lv:Int):x.cnt n lv=bif decide (200<n+1)||decide (20<lv) then (false,n+1) else Ex.cntL x.args (n+1) (lv+1):=by cases x;rw [Ex.cnt];rfl
theorem Ex.v24:∀(x:Ex) (n lv k:Int),x.cnt n lv=(true,k)->n<k/\k<=200:=by
 have hL:∀ l:List Ex,(∀ y∈l,∀(n lv k:Int),y.cnt n lv=(true,k)->n<k/\k<=200)->∀ n lv k:Int,n<=200->Ex.cntL l n lv=(true,k)->n<=k/\k<=200:=by
  intro l
  induction l with
  | nil=>intro _ n lv k hn h;rw [Ex.cntL] at h;cases h;omega
  | cons y l ih=>
   intro hy n lv k hn h;rw [Ex.cntL] at h;split at h
   . cases h
   . rename_i m hm;have h1:=hy y (by simp) _ _ _ hm;have h2:=ih (fun z hz=>hy z (by simp [hz])) _ _ _ h1.2 h;omega
 refine Ex.ind (fun x ih n lv k h=>?_);rw [Ex.vrw] at h;by_cases h1:200<n+1
 . simp [h1] at h
 . by_cases h2:20<lv
   . simp [h2] at h
   . simp only [h1,h2,decide_false,Bool.or_self,cond_false] at h
     have:=hL x.args ih _ _ _ (by omega) h
     omega
def yxn (x:Ex):Bool:=
 bif decide (x.op=0) then wku x.unit&&decide (0<=x.n)&&decide (x.n<=1099511627776)&&decide (x.name.size=0)&&decide ((x.args.length:Int)=0) else
 bif decide (¬x.n=0)||decide (¬x.unit.size=0) then false else
 bif decide (x.op=1) then isNamed x.name&&decide ((x.args.length:Int)=0) else
 bif decide (x.op=2) then isNamed x.name&&decide ((x.args.length:Int)=1) else
 bif decide (x.op=3) then isNamed x.name&&decide (1<=(x.args.length:Int))&&decide ((x.args.length:Int)<=6) else
 bif decide (x.op=4) then decide (x.name.size=0)&&decide ((x.args.length:Int)=1) else
 bif decide (x.op=5) then decide (x.name.size=0)&&decide ((x.args.length:Int)=3) else
 bif decide (x.op=10)||decide (x.op=11) then decide (x.name.size=0)&&decide ((x.args.length:Int)=2) else
 isOp x.op&&decide (x.name.size=0)&&decide ((x.args.length:Int)=2)
mutual
def Ex.shaped:Ex->Bool
 | .mk o n u s l=>yxn (.mk o n u s l)&&Ex.zpf l
def Ex.zpf:List Ex->Bool
 | []=>true
 | y::l=>Ex.shaped y&&Ex.zpf l
end
theorem Ex.xcf:∀ l:List Ex,Ex.zpf l=l.all Ex.shaped
 | []=>by rw [Ex.zpf];rfl
 | y::l=>by rw [Ex.zpf,Ex.xcf l];rfl
theorem Ex.xg3 (x:Ex):x.shaped=(yxn x&&x.args.all Ex.shaped):=by cases x;rw [Ex.shaped,Ex.xcf];rfl
def xub (x:Ex):Bool:=(x.cnt 0 1).1&&x.shaped
def idxF {α:Type} (p:α->Bool):List α->Int
 | []=>-1
 | x::l=>bif p x then 0 else bif decide (idxF p l = -1) then -1 else idxF p l+1
theorem yag {α:Type} (p:α->Bool):∀ l:List α,-1<=idxF p l
 | []=>by unfold idxF;omega
 | x::l=>by
  have:=yag p l
  unfold idxF
  cases p x with
  | true=>simp
  | false=>
   by_cases h:idxF p l = -1
   . simp [h]
   . simp [h];omega
theorem wb5 {α:Type} (p:α->Bool):∀ l:List α,decide (0<=idxF p l)=l.any p
 | []=>rfl
 | x::l=>by
  have h2:=wb5 p l;have h3:=yag p l;unfold idxF;rw [List.any_cons,<-h2]
  cases p x with
  | true=>simp
  | false=>
   by_cases h:idxF p l = -1
   . simp [h]
   . simp [h];omega
theorem yo6 {α:Type} [Inhabited α] {p:α->Bool}:∀{l:List α} {i:Nat},i<=l.length->(∀ j,j<i->p (l.getD j default)=false)->(i=l.length->idxF p l = -1)/\(i<l.length->p (l.getD i default)=true->idxF p l=i)
 | [],i,hi,_=>by simp at hi;subst hi;exact ⟨fun _=>rfl,fun h=>by simp at h⟩
 | x::l,0,_,_=>⟨fun h=>by simp at h,fun _ h=>by unfold idxF;have:p x=true:=h;rw [this];rfl⟩
 | x::l,i+1,hi,hj=>by
  have h0:p x=false:=hj 0 (by omega);obtain ⟨h1,h2⟩:=yo6 (l:=l) (i:=i) (by simpa using hi) (fun j hj'=>by simpa using hj (j+1) (by omega));unfold idxF;rw [h0];refine ⟨fun h=>?_,fun h hp=>?_⟩
  . rw [h1 (by simpa using h)];rfl
  . rw [h2 (by simpa using h) (by simpa using hp)]
    have:¬((i:Int) = -1):=by omega
    simp [this]
end Go.Hp.T
namespace Go.Hp
open Go Go.RowKit Go.Slot
variable {P:Program} {Γ:List (Nat×List Cell)} {e:List SB} {G:List (Nat×List GhH)}
variable {I I':List SV} {J:List SB}
def wco (n m:Nat) (I:List SV) (J:List SB):Bool:=(I.all fun x=>(vp6 x).all fun b=>Nat.blt b m)&&(((J.take m).drop n).all fun x=>(z0y x).all fun b=>Nat.blt b m)
theorem StH.cutE (m:Nat) (hm:e.length<=m) (he:J.take e.length=e) (h:wco e.length m I J=true):StH Γ e I J I (J.take m):=by
 unfold wco at h;rw [Bool.and_eq_true,List.all_eq_true,List.all_eq_true] at h;refine StH.cut hm (fun i x hx b hb=>?_) (fun i x hi hx=>?_)
 . have:=h.1 x (List.mem_of_getElem? hx)
   rw [List.all_eq_true] at this;simpa using this b hb
 . by_cases hie:i<e.length
   . left
     rw [<-he,List.getElem?_take_of_lt hie];exact hx
   . right
     intro b hb
     have hmem:x∈(J.take m).drop e.length:=by
      have:((J.take m).drop e.length)[i-e.length]? = some x:=by
       rw [List.getElem?_drop,show e.length+(i-e.length)=i from by omega,List.getElem?_take_of_lt hi];exact hx
      exact List.mem_of_getElem? this
     have:=h.2 x hmem
     rw [List.all_eq_true] at this;simpa using this b hb
theorem StH.zx4 (he:J.take e.length=e) (h:(I.all fun x=>(vp6 x).all fun b=>Nat.blt b e.length)=true) (hσ:I=I'):StH Γ e I J I' e:=by
 have hc:wco e.length e.length I J=true:=by
  unfold wco;rw [h,Bool.true_and,List.all_eq_true];intro x hx;rw [List.drop_eq_nil_of_le (by rw [List.length_take];omega)] at hx
  cases hx
 have:=StH.cutE (Γ:=Γ) (I:=I) e.length (Nat.le_refl _) he hc
 rw [he] at this;exact hσ▸this
def swLE (n i j:Nat) (J:List SB):List SB:=(List.range J.length).map fun k=>bif Nat.blt k n then gB J k else swSB i j (gB J (sw i j k))
theorem StH.wj3 {i j:Nat} (he:J.take e.length=e) (hi:e.length<=i) (hj:e.length<=j) (hil:i<J.length) (hjl:j<J.length):StH Γ e I J (I.map (swSV i j)) (swLE e.length i j J):=by
 refine StH.swap hi hj hil hjl (fun b x hb=>?_) (by simp [swLE]);have hbl:b<J.length:=(List.getElem?_eq_some_iff.1 hb).1;by_cases hbe:b<e.length
 . right
   refine ⟨by rw [<-he,List.getElem?_take_of_lt hbe];exact hb,?_⟩;unfold swLE;rw [List.getElem?_map,List.getElem?_range hbl]
   have hbt:Nat.blt b e.length=true:=by simpa using hbe
   have hg:gB J b=x:=by unfold gB;rw [hb];rfl
   simp only [Option.map_some,hbt,cond_true,hg]
 . left
   have hsw:e.length<=sw i j b:=by unfold sw;split<;>(try split)<;>omega
   unfold swLE;rw [List.getElem?_map,List.getElem?_range (wny hil hjl hbl)]
   have h1:Nat.blt (sw i j b) e.length=false:=by
    have:¬(sw i j b<e.length):=by omega
    cases hh:Nat.blt (sw i j b) e.length with
    | false=>rfl
    | true=>exact absurd (by simpa using hh) this
   have hg:gB J b=x:=by unfold gB;rw [hb];rfl
   simp only [Option.map_some,xfs,h1,cond_false,hg]
theorem StH.xuw {J':List SB} (ks:List Nat) (i j m:Nat) (he:J.take e.length=e) (he':(swLE e.length i j J).take e.length=e) (hi:Nat.ble e.length i=true) (hj:Nat.ble e.length j=true) (hm:Nat.ble e.length m=true) (hil:Nat.blt i J.length=true) (hjl:Nat.blt j J.length=true)
 (h:wco e.length m ((wue ks 0 I).map (swSV i j)) (swLE e.length i j J)=true) (hk:StH Γ e ((wue ks 0 I).map (swSV i j)) ((swLE e.length i j J).take m) I' J'):StH Γ e I J I' J':=
 StH.trans (StH.only ks) (StH.trans (StH.wj3 he (by simpa using hi) (by simpa using hj) (by simpa using hil) (by simpa using hjl)) (StH.trans (StH.cutE m (by simpa using hm) he' h) hk))
def envM {α:Type} (C:α->SV):List (ByteArray×α)->List (Value×SV)
 | []=>[]
 | p::l=>(.string p.1,C p.2)::envM C l
def ycr {α:Type}:List (ByteArray×α)->ByteArray->Option α
 | [],_=>none
 | p::l,s=>bif seq s p.1 then some p.2 else ycr l s
def updF {α:Type}:List (ByteArray×α)->ByteArray->α->List (ByteArray×α)
 | [],s,v=>[(s,v)]
 | p::l,s,v=>bif seq s p.1 then (s,v)::l else p::updF l s v
theorem w1z {α:Type} (C:α->SV):∀ l:List (ByteArray×α),(envM C l).length=l.length
 | []=>rfl
 | _::l=>by rw [envM,List.length_cons,w1z C l];rfl
theorem wda {a b:ByteArray}:seq a b=seq b a:=by rw [z9f,z9f];exact decide_eq_decide.2 eq_comm
theorem vi5 {α:Type} {C:α->SV} {s:ByteArray}:∀{l:List (ByteArray×α)},zgw (envM C l) (.string s)=some ((ycr l s).map C)
 | []=>rfl
 | p::l=>by
  have ih:=vi5 (C:=C) (s:=s) (l:=l);simp only [envM,zgw,kEq,ycr];rw [ih]
  first
   | (cases seq s p.1<;>rfl)
   | (rw [wda];cases seq s p.1<;>rfl)
theorem z6j {α:Type} {C:α->SV} {s:ByteArray} {v:α}:∀{l:List (ByteArray×α)},updM (envM C l) (.string s) (C v)=some (envM C (updF l s v))
 | []=>rfl
 | p::l=>by
  have ih:=z6j (C:=C) (s:=s) (v:=v) (l:=l);simp only [envM,updM,kEq,updF];rw [ih]
  first
   | (cases seq s p.1<;>rfl)
   | (rw [wda];cases seq s p.1<;>rfl)
attribute [go_sem] vi5 w1z
end Go.Hp
namespace Go.Hp.T
open Go Go.RowKit Go.Slot Go.Hp
set_option maxRecDepth 10000
structure Dm where
 a:Int
 b:Int
 c:Int
 d:Int
 e:Int
 f:Int
deriving DecidableEq
def Dm.zero:Dm:=⟨0,0,0,0,0,0⟩
instance:Inhabited Dm:=⟨Dm.zero⟩
abbrev dmC (x:Dm):List Cell:=[cI x.a,cI x.b,cI x.c,cI x.d,cI x.e,cI x.f]
def bad9 (n:Int):Bool:=decide (n < -9)||decide (9<n)
def zmf (x:Dm):Bool:=!bad9 x.a&&!bad9 x.b&&!bad9 x.c&&!bad9 x.d&&!bad9 x.e&&!bad9 x.f
def Dm.add (x y:Dm):Dm:=⟨x.a+y.a,x.b+y.b,x.c+y.c,x.d+y.d,x.e+y.e,x.f+y.f⟩
def Dm.sub (x y:Dm):Dm:=⟨x.a-y.a,x.b-y.b,x.c-y.c,x.d-y.d,x.e-y.e,x.f-y.f⟩
def yq5 (x:Dm):Dm×Int:=bif zmf x then (x,0) else (Dm.zero,3)
def dMul (x y:Dm):Dm×Int:=bif !zmf x||!zmf y then (Dm.zero,1) else yq5 (x.add y)
def dDiv (x y:Dm):Dm×Int:=bif !zmf x||!zmf y then (Dm.zero,1) else yq5 (x.sub y)
structure Ty where
 t:Bool
 d:Dm
deriving DecidableEq
def Ty.zero:Ty:=⟨false,Dm.zero⟩
instance:Inhabited Ty:=⟨Ty.zero⟩
def Ty.C (x:Ty):List Cell:=cB x.t::dmC x.d
abbrev tyC (x:Ty):List Cell:=[cB x.t,cI x.d.a,cI x.d.b,cI x.d.c,cI x.d.d,cI x.d.e,cI x.d.f]
theorem Ty.C_eq (x:Ty):x.C=tyC x:=rfl
attribute [go_sem] Ty.C_eq
mutual
def Ex.xi4:Ex->Bool
 | .mk o _ _ _ l=>decide (o=3)||Ex.zcp l
def Ex.zcp:List Ex->Bool
 | []=>false
 | y::l=>Ex.xi4 y||Ex.zcp l
end
theorem Ex.vv8:∀ l:List Ex,Ex.zcp l=l.any Ex.xi4
 | []=>by rw [Ex.zcp];rfl
 | y::l=>by rw [Ex.zcp,Ex.vv8 l];rfl
theorem Ex.wd9 (x:Ex):x.xi4=(decide (x.op=3)||x.args.any Ex.xi4):=by cases x;rw [Ex.xi4,Ex.vv8];rfl
def xkg (a b r:Ty):Ty×Int:=bif a.t||b.t then (Ty.zero,13) else bif !decide (a.d=b.d) then (Ty.zero,14) else (r,0)
def zom (o:Int) (a b:Ty):Ty×Int:=bif a.t||b.t then (Ty.zero,13) else
 bif !decide ((bif decide (o=9) then dDiv a.d b.d else dMul a.d b.d).2=0) then (Ty.zero,14) else (⟨false,(bif decide (o=9) then dDiv a.d b.d else dMul a.d b.d).1⟩,0)
def xc6 (l:List Ty):Ty×Int:=bif l.any (fun t=>!t.t) then (Ty.zero,13) else (⟨true,Dm.zero⟩,0)
def x59 (T:List (ByteArray×Dm)) (s:ByteArray) (k:Ty):Ty×Int:=match ycr T s with
 | none=>(Ty.zero,11)
 | some d=>bif k.t then (Ty.zero,13) else bif !decide (k.d=Dm.zero) then (Ty.zero,14) else (⟨false,d⟩,0)
def wqq (T:List (ByteArray×Dm)) (o:Int) (nm:ByteArray) (ts:List Ty):Ty×Int:=
 bif decide (o=2) then x59 T nm (ts.getD 0 default) else
 bif decide (o=6)||decide (o=7)||decide (o=10)||decide (o=11) then xkg (ts.getD 0 default) (ts.getD 1 default) (ts.getD 0 default) else
 bif decide (o=12)||decide (o=13) then xkg (ts.getD 0 default) (ts.getD 1 default) ⟨true,Dm.zero⟩ else
 bif decide (o=8)||decide (o=9) then zom o (ts.getD 0 default) (ts.getD 1 default) else
 bif decide (o=5) then (bif !(ts.getD 0 default).t then (Ty.zero,13) else xkg (ts.getD 1 default) (ts.getD 2 default) (ts.getD 1 default)) else
 xc6 ts
structure Rw where
 k:Int
 v:Int
instance:Inhabited Rw:=⟨⟨0,0⟩⟩
def Rw.C (x:Rw):List Cell:=[cI x.k,cI x.v]
abbrev rwC (x:Rw):List Cell:=[cI x.k,cI x.v]
theorem Rw.C_eq (x:Rw):x.C=rwC x:=rfl
structure Tb where
 name:ByteArray
 unit:ByteArray
 rows:List Rw
instance:Inhabited Tb:=⟨⟨⟨#[]⟩,⟨#[]⟩,[]⟩⟩
def Tb.C (x:Tb):List Cell:=[cS x.name,cS x.unit,.sl 2 (x.rows.map Rw.C)]
abbrev tbC (x:Tb):List Cell:=[cS x.name,cS x.unit,.sl 2 (x.rows.map Rw.C)]
theorem Tb.C_eq (x:Tb):x.C=tbC x:=rfl
structure Vr where
 name:ByteArray
 d:Dm
instance:Inhabited Vr:=⟨⟨⟨#[]⟩,Dm.zero⟩⟩
def Vr.C (x:Vr):List Cell:=[cS x.name,cI x.d.a,cI x.d.b,cI x.d.c,cI x.d.d,cI x.d.e,cI x.d.f]
abbrev vrC (x:Vr):List Cell:=[cS x.name,cI x.d.a,cI x.d.b,cI x.d.c,cI x.d.d,cI x.d.e,cI x.d.f]
theorem Vr.C_eq (x:Vr):x.C=vrC x:=rfl
attribute [go_sem] Rw.C_eq Tb.C_eq Vr.C_eq
def inT (n:Int):Bool:=decide (-1099511627776<=n)&&decide (n<=1099511627776)
def rowAt (l:List Rw) (i:Nat):Bool:=inT (l.getD i default).k&&inT (l.getD i default).v&&!(decide (0<(i:Int))&&decide ((l.getD i default).k<=(l.getD (i-1) default).k))
def zx5 (l:List Rw):Bool:=(List.range l.length).all (rowAt l)
theorem ye8 {p:Nat->Bool} {n:Nat}:(∀ j,j<n->p j=true)->(List.range n).all p=true:=fun h=>by
 rw [List.all_eq_true];exact fun x hx=>h x (List.mem_range.1 hx)
theorem zch {p:Nat->Bool} {n j:Nat} (hj:j<n) (h:p j=false):(List.range n).all p=false:=by
 cases ha:(List.range n).all p with
 | false=>rfl
 | true=>rw [List.all_eq_true.1 ha j (List.mem_range.2 hj)] at h;cases h
def zi4 (uerr:ByteArray->Int) (t:Tb):Bool:=!decide (¬uerr t.unit=0)&&isName t.name&&!decide (100<(t.rows.length:Int))&&zx5 t.rows
theorem xrx {p:Nat->Prop} {i:Nat} (h:∀ j,j<i->p j) (hi:p i):∀ j,j<i+1->p j:=fun j hj=>by
 rcases Nat.lt_or_eq_of_le (Nat.le_of_lt_succ hj) with h2 | h2
 . exact h j h2
 . rw [h2];exact hi
end Go.Hp.T
namespace Go.Hp.T
open Go Go.RowKit Go.Slot Go.Hp Go.Slot.T
open Go.Proofs.Tryz (prog)
set_option maxRecDepth 10000
set_option maxHeartbeats 4000000
variable {Γ:List (Nat×List Cell)}
theorem ygx (x:Dm):CallsD Γ prog 78 [.agg (dmC x)] (.one (cB (zmf x))):=by
 refine CallsD.run [] Go.Proofs.Tryz.func78 rfl rfl rfl ?_;simp only [Go.Proofs.Tryz.f78];refine hgR ?_
 repeat' ((first | refine hfk ?_ ?_<;>intros | refine hik ?_ | with_reducible refine zum ?_ | with_reducible refine v3j ?_)<;>refine hgS ?_)
 all_goals refine lf2 @zmf.eq_def @bad9.eq_def ?_;first | exact trivial | rfl
theorem vvj (c:Int):CallsD Γ prog 123 [.one (c8 c)] (.one (cB (yio c))):=by
 refine CallsD.run [] Go.Proofs.Tryz.func123 rfl rfl rfl ?_;simp only [Go.Proofs.Tryz.f123];refine hgR ?_
 repeat' ((first | refine hfk ?_ ?_<;>intros | refine hik ?_)<;>refine hgS ?_)
 all_goals refine lf1 @yio.eq_def ?_;first | exact trivial | rfl
theorem xq6 (c:Int):CallsD Γ prog 179 [.one (c8 c)] (.one (cB (isDigit c))):=by
 refine CallsD.run [] Go.Proofs.Tryz.func179 rfl rfl rfl ?_;simp only [Go.Proofs.Tryz.f179];refine hgR ?_
 repeat' ((first | refine hfk ?_ ?_<;>intros | refine hik ?_)<;>refine hgS ?_)
 all_goals refine lf1 @isDigit.eq_def ?_;first | exact trivial | rfl
theorem vys (c:Int):CallsD Γ prog 220 [.one (c8 c)] (.one (cB (ztv c))):=by
 refine CallsD.run [] Go.Proofs.Tryz.func220 rfl rfl rfl ?_;simp only [Go.Proofs.Tryz.f220];refine hgR ?_
 repeat' ((first | refine hfk ?_ ?_<;>intros | refine hik ?_)<;>refine hgS ?_)
 all_goals refine lf1 @ztv.eq_def ?_;first | exact trivial | rfl
theorem v2j (c:Int):CallsD Γ prog 125 [.one (c8 c)] (.one (cB (ycl c))):=by
 refine CallsD.run [] Go.Proofs.Tryz.func125 rfl rfl rfl ?_;simp only [Go.Proofs.Tryz.f125];refine hgR ?_
 repeat' ((first | refine hfk ?_ ?_<;>intros | refine hik ?_ | with_reducible first | refine v6l (vvj _) ?_ | refine vgi (vvj _) ?_ | refine v6l (xq6 _) ?_ | refine vgi (xq6 _) ?_)<;>refine hgS ?_)
 all_goals refine lf1 @ycl.eq_def ?_;first | exact trivial | rfl
theorem w3g (s:ByteArray) (f:FuncId) (p:Int->Bool) (hs:s.size<=1099511627776) (h:∀ c,CallsD Γ prog f [.one (c8 c)] (.one (cB (p c)))):CallsD Γ prog 124 [.one (cS s),fN f] (.one (cI (z1a p s))):=by
 refine CallsD.run [] Go.Proofs.Tryz.func124 rfl rfl rfl ?_;simp only [Go.Proofs.Tryz.f124];refine hgR ?_;refine y55 [0,1] (fun n:Nat=>[(5,.one (.dat (cI n)))]) (fun _=>[]) (fun n=>n<=s.size/\∀ j,j<n->p (x41 s j)=true) (fun n=>s.size-n) 0 ⟨Nat.zero_le _,fun j hj=>by omega⟩ ?_ ?_
 . refine hg ?_;exact StH.wph (by repeat' first | exact .nil | refine .cons (by first | exact .refl _ | exact .any _) ?_)
 intro n hn;obtain ⟨hn,hj⟩:=hn;refine hg ?_
 repeat' ((first | refine hfk ?_ ?_<;>intros | refine hik ?_ | with_reducible first | refine v6l (h _) ?_ | refine vgi (h _) ?_)<;>refine hgS ?_)
 . rename_i h1;refine ⟨n+1,⟨by omega,fun j hj'=>?_⟩,by omega,by exact StH.wph (by repeat' first | exact .nil | refine .cons (by first | exact .refl _ | exact .any _) ?_)⟩
   rcases Nat.lt_or_eq_of_le (Nat.le_of_lt_succ hj') with h2 | h2
   . exact hj j h2
   . rw [h2];exact h1
 . rename_i h1;rw [xwo hn hj (.inr h1)];exact RLe.ofEq rfl
 . rw [xwo hn hj (.inl (by omega))];exact RLe.ofEq rfl
theorem vv6 (s:ByteArray) (hs:s.size<=1099511627776):CallsD Γ prog 76 [.one (cS s)] (.one (cB (isName s))):=by
 refine CallsD.run [] Go.Proofs.Tryz.func76 rfl rfl rfl ?_;simp only [Go.Proofs.Tryz.f76];refine hgR ?_
 repeat' ((first | refine hfk ?_ ?_<;>intros | refine hik ?_ | with_reducible first | refine v6l (vvj _) ?_ | refine vgi (vvj _) ?_ | refine v6l (w3g s _ _ hs v2j) ?_ | refine vgi (w3g s _ _ hs v2j) ?_)<;>refine hgS ?_)
 all_goals refine lf1 @isName.eq_def ?_;first | exact trivial | rfl
abbrev bldB (n:Nat):SB:=.box [.ptr 0 0,.sl 1 1 0 n] (some 260)
abbrev bldA (l:List Int):SB:=.arr (.ints .u8 l) 0 (some 5)
theorem zyc:liesAt prog prog.depth 260 (2 / prog.cellsOf 260) 0 260 1=true:=by kernel_rfl
theorem coU8:prog.cellsOf 5=1:=by kernel_rfl
attribute [go_sem] zyc coU8
theorem zmz (x:HC):vfe Γ prog 261 [.box [.dat (.raw (.pointer none)),x] (some 260)] [.one (.ptr 0 0)] [.box [.ptr 0 0,x] (some 260)] (.tup []):=by
 refine vfe.run [] Go.Proofs.Tryz.func261 rfl rfl ?_;simp only [Go.Proofs.Tryz.f261];refine hgR ?_;exact StH.refl
theorem xsq (x:HC) (T:Option TypeId) (y:SB):vfe Γ prog 261 [.box [.ptr 0 0,x] T,y] [.one (.ptr 0 0)] [.box [.ptr 0 0,x] T,y] (.tup []):=by
 refine vfe.run [] Go.Proofs.Tryz.func261 rfl rfl ?_;simp only [Go.Proofs.Tryz.f261];refine hgR ?_;exact StH.refl
theorem vce (c:Int):vfe Γ prog 249 [.box [.dat (.raw (.pointer none)),.dat .zc] (some 260)] [.one (.ptr 0 0),.one (.dat (c8 c))] [bldB 1,bldA [c]] (.one (.dat (.raw .nilIface))):=by
 refine vfe.run [] Go.Proofs.Tryz.func249 rfl rfl ?_;simp only [Go.Proofs.Tryz.f249];refine hgR ?_;refine xwg (zmz _) ?_;refine hg ?_;exact StH.refl
theorem yj5 (l:List Int) (c:Int) (hl:l.length<=68719476736):vfe Γ prog 249 [bldB l.length,bldA l] [.one (.ptr 0 0),.one (.dat (c8 c))] [.box [.ptr 0 0,.sl 2 1 0 (l++[c]).length] (some 260),.dead,bldA (l++[c])] (.one (.dat (.raw .nilIface))):=by
 refine vfe.run [] Go.Proofs.Tryz.func249 rfl rfl ?_;simp only [Go.Proofs.Tryz.f249];refine hgR ?_;refine xwg (xsq _ _ _) ?_;refine hg ?_;exact StH.refl
theorem x2f (l:List Int) (hl:l.all yua=true) (h0:0<l.length) (h1:l.length<=1099511627776):vfe Γ prog 250 [bldB l.length,bldA l] [.one (.ptr 0 0)] [bldB l.length,.dead] (.one (.dat (cS (strOfNums l)))):=by
 refine vfe.run [] Go.Proofs.Tryz.func250 rfl rfl ?_;simp only [Go.Proofs.Tryz.f250];refine hgR ?_
 conv=>simp (maxSteps:=2000000) (disch:=omega) only [go_sem,Nat.reduceAdd,Nat.reduceSub,Nat.reduceMul,Int.reduceToNat,Nat.reduceEqDiff,Nat.reduceBEq,Nat.reduceBneDiff,Nat.reduceLT,Int.reduceEq,Int.reduceLT,Int.reduceLE,Int.reduceNeg,Int.reduceAdd,Int.reduceSub,Int.reduceMul,hl,h0,true_and,show l.length<=9223372036854775807 from by omega]
 repeat' ((first | refine hfk ?_ ?_<;>intros | refine hik ?_)<;>refine hgS ?_)
 exact StH.refl
theorem yi5 (s:ByteArray) (hs:s.size<=1073741824):CallsD Γ prog 221 [.one (cS s)] (.one (cS (escS s))):=by
 refine CallsD.run [] Go.Proofs.Tryz.func221 rfl rfl rfl ?_;simp only [Go.Proofs.Tryz.f221];refine hgR ?_;refine xwg (vce _) ?_;refine hg ?_;refine y55 [0,2,3,7] (fun i:Nat=>[(8,.one (.dat (cI i)))]) (fun i=>[bldB (escA s i).length,bldA (escA s i)]) (fun i=>i<=s.size) (fun i=>s.size-i) 0 (Nat.zero_le _) ?_ ?_
 . refine hg ?_;exact StH.same svl rfl
 intro i hi;have hlen:=yil s i;refine hg ?_
 have two:∀ c,(c=34\/c=92)->i<s.size->x41 s i=c->escA s (i+1)=escA s i++[92]++[c]:=fun c h hi h2=>by
  rw [xm4 hi,List.append_assoc,h2];rcases h with h | h<;>rw [h]<;>rfl
 repeat' ((first | refine hfk ?_ ?_<;>intros | refine hik ?_)<;>refine hgS ?_)
 . rename_i h _;refine xwg (yj5 _ _ (by omega)) ?_;refine hgS ?_;refine z4m [0,2] (yj5 (escA s i++[92]) _ (by simp only [List.length_append,List.length_singleton];omega)) rfl (by decide) rfl rfl rfl ?_;refine hgS ?_;rw [<-two 92 (.inr rfl) (by omega) h];refine ⟨i+1,by omega,by omega,StH.back [0,2,3,7,8] 1 3 2 rfl rfl rfl rfl rfl (by kernel_rfl) ?_⟩;refine hg ?_;exact StH.same svl rfl
 . rename_i h1 _ h2 _ h3 _;refine xwg (yj5 _ _ (by omega)) ?_;refine hgS ?_
   have one:escA s i++[x41 s i]=escA s (i+1):=by
    rw [xm4 (by omega)];unfold escB;rw [decide_eq_false h2,decide_eq_false h3];rfl
   rw [one];refine ⟨i+1,by omega,by omega,StH.back [0,2,3,7,8] 1 2 2 rfl rfl rfl rfl rfl (by kernel_rfl) ?_⟩;refine hg ?_;exact StH.same svl rfl
 . rename_i h _;refine xwg (yj5 _ _ (by omega)) ?_;refine hgS ?_;refine z4m [0,2] (yj5 (escA s i++[92]) _ (by simp only [List.length_append,List.length_singleton];omega)) rfl (by decide) rfl rfl rfl ?_;refine hgS ?_;rw [<-two 34 (.inl rfl) (by omega) h];refine ⟨i+1,by omega,by omega,StH.back [0,2,3,7,8] 1 3 2 rfl rfl rfl rfl rfl (by kernel_rfl) ?_⟩;refine hg ?_;exact StH.same svl rfl
 . have e:i=s.size:=by omega
   subst e;refine xwg (yj5 _ _ (by omega)) ?_;refine hg ?_;refine z4m [0,2] (x2f (escA s s.size++[34]) (by rw [List.all_append,xmf];rfl) (by simp) (by simp only [List.length_append,List.length_singleton];omega)) rfl (by decide) rfl rfl rfl ?_;refine hg ?_;exact RLe.ofEq rfl
theorem yph (s:ByteArray) (hs:s.size<=1073741824):∃ t,CallsD Γ prog 176 [.one (cS s)] (.tup [.one (cS t),.one (cB (wku s))]):=by
 refine ⟨bif wku s then escS s else ⟨#[]⟩,?_⟩;refine CallsD.run [] Go.Proofs.Tryz.func176 rfl rfl rfl ?_;simp only [Go.Proofs.Tryz.f176];refine hgR ?_
 repeat' ((first | refine hfk ?_ ?_<;>intros | refine hik ?_ | with_reducible first | refine v6l (w3g s _ _ (by omega) vys) ?_ | refine vgi (w3g s _ _ (by omega) vys) ?_ | refine v6l (yi5 s hs) ?_ | refine vgi (yi5 s hs) ?_)<;>refine hgS ?_)
 all_goals refine lf1 @wku.eq_def ?_;first | exact trivial | rfl
end Go.Hp.T
namespace Go.Slot
open Go Go.RowKit
set_option maxRecDepth 10000
variable {l L a b:List Int} {m i j k:Nat}
def digits (L:List Int):Prop:=∀ x∈L,0<=x/\x<=1048575
instance (L:List Int):Decidable (digits L):=inferInstanceAs (Decidable (∀ x∈L,0<=x/\x<=1048575))
def num:List Int->Int
 | []=>0
 | d::l=>d+1048576*num l
theorem digits.nil:digits []:=fun _ h=>by cases h
theorem digits.cons {d:Int} (h:0<=d/\d<=1048575) (hl:digits l):digits (d::l):=fun x hx=>by
 rcases List.mem_cons.1 hx with rfl | hx
 . exact h
 . exact hl x hx
theorem digits.head {d:Int} (h:digits (d::l)):0<=d/\d<=1048575:=h d (by simp)
theorem digits.tail {d:Int} (h:digits (d::l)):digits l:=fun x hx=>h x (by simp [hx])
theorem digits.append {m:List Int} (hl:digits l) (hm:digits m):digits (l++m):=fun x hx=>by
 rcases List.mem_append.1 hx with hx | hx
 . exact hl x hx
 . exact hm x hx
theorem digits.take {l:List Int} (h:digits l) (n:Nat):digits (l.take n):=fun x hx=>h x (List.mem_of_mem_take hx)
theorem digits.drop {l:List Int} (h:digits l) (n:Nat):digits (l.drop n):=fun x hx=>h x (List.mem_of_mem_drop hx)
theorem digits.getD {l:List Int} (h:digits l) (i:Nat):0<=l.getD i 0/\l.getD i 0<=1048575:=by
 rw [List.getD_eq_getElem?_getD]
 cases hh:l[i]? with
 | none=>simp
 | some x=>exact h x (List.mem_of_getElem? hh)
theorem digits.set {l:List Int} (h:digits l) (i:Nat) {x:Int} (hx:0<=x/\x<=1048575):digits (l.set i x):=fun y hy=>by
 rcases List.mem_or_eq_of_mem_set hy with hy | rfl
 . exact h y hy
 . exact hx
theorem digits.rep (n:Nat):digits (List.replicate n 0):=fun x hx=>by
 rw [List.mem_replicate] at hx;omega
theorem num_nonneg:∀{l:List Int},digits l->0<=num l
 | [],_=>Int.le_refl _
 | d::l,h=>by have:=num_nonneg h.tail;have:=h.head;simp only [num];omega
theorem zou (n:Nat):(0:Int)<1048576 ^ n:=Int.pow_pos (by decide)
theorem wqr {n:Nat} (h:m<=n):(1048576:Int) ^ m<=1048576 ^ n:=by
 obtain ⟨k,rfl⟩:=Nat.exists_eq_add_of_le h;rw [Int.pow_add];have h1:=zou k;have h2:=Int.mul_le_mul_of_nonneg_left (show (1:Int)<=1048576 ^ k by omega) (Int.le_of_lt (zou m))
 rwa [Int.mul_one] at h2
theorem xxq:∀{l:List Int},digits l->num l<1048576 ^ l.length
 | [],_=>by simp [num]
 | d::l,h=>by
  have:=xxq h.tail
  have:=h.head
  simp only [num,List.length_cons,Int.pow_succ];omega
theorem xtv:∀(l m:List Int),num (l++m)=num l+1048576 ^ l.length*num m
 | [],m=>by simp [num]
 | d::l,m=>by
  simp only [List.cons_append,num,List.length_cons,xtv l m,Int.pow_succ];rw [Int.mul_add,Int.mul_comm (1048576 ^ l.length) 1048576,Int.mul_assoc];omega
theorem ya9 (n:Nat):num (List.replicate n 0)=0:=by
 induction n with
 | zero=>rfl
 | succ n ih=>simp [List.replicate_succ,num,ih]
theorem w4d:∀(l:List Int) (i:Nat),num (l.take (i+1))=num (l.take i)+1048576 ^ i*l.getD i 0
 | [],i=>by simp [num]
 | d::l,0=>by simp [num]
 | d::l,i+1=>by
  simp only [List.take_succ_cons,num,w4d l i,List.getD_cons_succ,Int.pow_succ];rw [Int.mul_add,Int.mul_comm (1048576 ^ i) 1048576,Int.mul_assoc];omega
theorem y8v:∀(l:List Int) (i:Nat) (x:Int),i<l.length->num (l.set i x)=num l+1048576 ^ i*(x-l.getD i 0)
 | [],i,x,h=>by simp at h
 | d::l,0,x,_=>by simp [num];omega
 | d::l,i+1,x,h=>by
  simp only [List.set_cons_succ,num,y8v l i x (by simpa using h),List.getD_cons_succ,Int.pow_succ];rw [Int.mul_add,Int.mul_comm (1048576 ^ i) 1048576,Int.mul_assoc];omega
theorem zlm (l:List Int) (i:Nat):num l=num (l.take i)+1048576 ^ (l.take i).length*num (l.drop i):=by
 rw [<-xtv,List.take_append_drop]
def xl7 (l:List Int) (i:Nat):Prop:=∀ j,i<=j->l.getD j 0=0
theorem xl7.rep (n:Nat):xl7 (List.replicate n 0) 0:=fun j _=>by
 rw [List.getD_eq_getElem?_getD,List.getElem?_replicate];split<;>rfl
theorem v3y (x:Int) (h:i≠j):(l.set i x).getD j 0=l.getD j 0:=by
 rw [List.getD_eq_getElem?_getD,List.getElem?_set_ne h,List.getD_eq_getElem?_getD]
theorem xl7.set {l:List Int} {i:Nat} (h:xl7 l i) (x:Int):xl7 (l.set i x) (i+1):=fun j hj=>by
 rw [v3y x (by omega)];exact h j (by omega)
theorem xl7.wkp (h:xl7 l i) (x:Int) (hk:k<i):xl7 (l.set k x) i:=fun j hj=>by
 rw [v3y x (by omega)];exact h j hj
theorem xl7.mono (h:xl7 l i) (hij:i<=j):xl7 l j:=fun k hk=>h k (by omega)
theorem z4f {n:Nat} (h:i<n):(l.take n).getD i 0=l.getD i 0:=by
 rw [List.getD_eq_getElem?_getD,List.getElem?_take_of_lt h,List.getD_eq_getElem?_getD]
theorem vv7 (h:l.length<=i):l.getD i 0=0:=by
 rw [List.getD_eq_getElem?_getD,List.getElem?_eq_none h];rfl
theorem zvp (h:l.length<=i):l.take i=l:=List.take_of_length_le h
theorem vks {o:List Int} (hi:i<o.length) (s:Int):num (o.set i (s % 1048576))+1048576 ^ (i+1)*(s / 1048576)=num o+1048576 ^ i*(s-o.getD i 0):=by
 rw [y8v o i _ hi,Int.pow_succ];have h:=Int.emod_add_mul_ediv s 1048576;generalize (1048576:Int) ^ i=P;generalize s % 1048576=r at *;generalize s / 1048576=q at *;generalize o.getD i 0=z
 grind
def norm (l:List Int):Prop:=l≠[]->l.getD (l.length-1) 0≠0
theorem norm.nil:norm []:=fun h=>absurd rfl h
theorem norm.tail {d:Int} (h:norm (d::l)):norm l:=fun hl=>by
 have:=h (by simp)
 have hp:0<l.length:=List.length_pos_iff.2 hl;rw [List.length_cons,show l.length+1-1=(l.length-1)+1 by omega,List.getD_cons_succ] at this;exact this
theorem norm.pos:∀{l:List Int},digits l->norm l->l≠[]->0<num l
 | [],_,_,h=>absurd rfl h
 | d::l,hd,hn,_=>by
  simp only [num];by_cases hl:l=[]
  . subst hl
    have:=hn (by simp)
    have h0:=hd.head;simp at this;simp only [num];omega
  . have:=norm.pos hd.tail hn.tail hl
    have h0:=hd.head;omega
theorem y5v:∀{l m:List Int},digits l->norm l->digits m->norm m->num l=num m->l=m
 | [],[],_,_,_,_,_=>rfl
 | [],d::m,_,_,hm,nm,h=>by have:=norm.pos hm nm (by simp);rw [<-h] at this;simp [num] at this
 | d::l,[],hl,nl,_,_,h=>by have:=norm.pos hl nl (by simp);rw [h] at this;simp [num] at this
 | d::l,e::m,hl,nl,hm,nm,h=>by
  simp only [num] at h;have h1:=hl.head;have h2:=hm.head
  have hde:d=e:=by omega
  have:=y5v hl.tail nl.tail hm.tail nm.tail (by omega)
  rw [hde,this]
def dig (n:Nat):List Int:=if h:n=0 then [] else ((n % 1048576:Nat):Int)::dig (n / 1048576)
 termination_by n
 decreasing_by omega
theorem ylp:dig 0=[]:=by unfold dig;simp
theorem yzy {n:Nat} (h:n≠0):dig n=((n % 1048576:Nat):Int)::dig (n / 1048576):=by
 rw [dig];simp [h]
theorem zne:∀ n:Nat,digits (dig n)/\norm (dig n)/\num (dig n)=n/\(dig n=[]->n=0):=by
 intro n
 induction n using Nat.strongRecOn with
 | ind n ih =>
  by_cases h:n=0
  . subst h;rw [ylp];exact ⟨digits.nil,norm.nil,rfl,fun _=>rfl⟩
  . rw [yzy h];obtain ⟨h1,h2,h3,h4⟩:=ih (n / 1048576) (by omega);refine ⟨digits.cons (by omega) h1,fun _=>?_,by simp only [num,h3];omega,fun e=>by cases e⟩;by_cases hn:dig (n / 1048576)=[]
    . rw [hn]
      have:=h4 hn
      simp;omega
    . have:=h2 hn
      have hp:0<(dig (n / 1048576)).length:=List.length_pos_iff.2 hn;rw [List.length_cons,show (dig (n / 1048576)).length+1-1=((dig (n / 1048576)).length-1)+1 by omega,List.getD_cons_succ];exact this
theorem wo6 (n:Nat):digits (dig n):=(zne n).1
theorem yrd (n:Nat):norm (dig n):=(zne n).2.1
theorem yn8 (n:Nat):num (dig n)=n:=(zne n).2.2.1
theorem zrh {n:Nat}:dig n=[]↔n=0:=⟨(zne n).2.2.2,fun h=>by rw [h,ylp]⟩
theorem yke (hd:digits l) (hn:norm l):l=dig (num l).toNat:=
 y5v hd hn (wo6 _) (yrd _) (by rw [yn8];have:=num_nonneg hd;omega)
theorem zh8 {n:Int} (hd:digits l) (hn:norm l) (h:num l=n):l=dig n.toNat:=by rw [<-h];exact yke hd hn
theorem vwv {n:Nat} (h:n<1048576 ^ k):(dig n).length<=k:=by
 induction k generalizing n with
 | zero=>have:n=0:=(by simpa using h);subst this;rw [ylp];exact Nat.le_refl _
 | succ k ih=>
  by_cases h0:n=0
  . subst h0;rw [ylp];exact Nat.zero_le _
  . rw [yzy h0,List.length_cons];exact Nat.succ_le_succ (ih (by rw [Nat.pow_succ] at h;omega))
theorem x38 {n:Nat} (h:(dig n).length<=k):n<1048576 ^ k:=by
 have h1:=xxq (wo6 n);rw [yn8] at h1;have h2:(1048576:Nat) ^ (dig n).length<=1048576 ^ k:=Nat.pow_le_pow_right (by decide) h
 have h3:((1048576 ^ (dig n).length:Nat):Int)=1048576 ^ (dig n).length:=by simp
 omega
theorem wxv {n:Nat} (h:m<=n):(dig m).length<=(dig n).length:=vwv (Nat.lt_of_le_of_lt h (x38 (Nat.le_refl _)))
def z4o (L:List Int):Nat->Nat
 | 0=>0
 | n+1=>if L.getD n 0=0 then z4o L n else n+1
theorem zdf (L:List Int):∀ n,z4o L n<=n
 | 0=>Nat.le_refl _
 | n+1=>by unfold z4o;split;exact Nat.le_succ_of_le (zdf L n);exact Nat.le_refl _
def xun (L:List Int):List Int:=L.take (z4o L L.length)
theorem vuy (L:List Int):(xun L).length=z4o L L.length:=by
 have:=zdf L L.length
 simp [xun];omega
theorem wzg (L:List Int):∀ n,n<=L.length->norm (L.take (z4o L n))/\num (L.take (z4o L n))=num (L.take n)
 | 0,_=>by simp [z4o,norm]
 | n+1,h=>by
  unfold z4o
  split
  . rename_i h0;obtain ⟨h1,h2⟩:=wzg L n (by omega);refine ⟨h1,?_⟩;rw [h2,w4d,h0];simp
  . rename_i h0;refine ⟨fun _=>?_,rfl⟩;rw [show (L.take (n+1)).length-1=n by simp;omega,z4f (by omega)];exact h0
theorem z00 (hd:digits L):xun L=dig (num L).toNat:=by
 have h:=wzg L L.length (Nat.le_refl _);rw [List.take_length] at h;exact zh8 (hd.take _) h.1 h.2
theorem wai {n:Int} (hd:digits L) (h:num L=n):xun L=dig n.toNat:=by rw [<-h];exact z00 hd
theorem wb6 (n:Nat):xun (dig n)=dig n:=by rw [z00 (wo6 n),yn8];rfl
theorem zhu (L:List Int):(xun L).length<=L.length:=by rw [vuy];exact zdf _ _
theorem win:∀(l:List Int) (n:Nat),num (l.drop n)=l.getD n 0+1048576*num (l.drop (n+1))
 | [],n=>by simp [num]
 | d::l,0=>by simp [num]
 | d::l,n+1=>by simpa using win l n
theorem x7k (x:Int) (h:i<l.length):(l.set i x).drop i=x::l.drop (i+1):=by
 rw [List.drop_set,if_neg (by omega),Nat.sub_self]
 cases hh:l.drop i with
 | nil=>have:=congrArg List.length hh;simp at this;omega
 | cons y r=>rw [List.set_cons_zero,<-List.drop_drop,hh];rfl
def ord (x y:Int):Int:=if x<y then -1 else if y<x then 1 else 0
theorem yck (ha:digits a) (na:norm a) (hb:digits b) (nb:norm b) (h:a.length<b.length):num a<num b:=by
 rw [yke ha na,yke hb nb] at h
 have h1:¬(num b).toNat<=(num a).toNat:=fun h2=>by have:=wxv h2;omega
 have:=num_nonneg ha
 omega
theorem wyj (ha:digits a) (hb:digits b) (hl:a.length=b.length) (i:Nat) (hi:i<a.length) (h:a.drop (i+1)=b.drop (i+1)) (hlt:a.getD i 0<b.getD i 0):num a<num b:=by
 rw [zlm a i,zlm b i,win a,win b,h];have h1:=xxq (ha.take i);have h2:=num_nonneg (hb.take i)
 have e1:(a.take i).length=i:=by simp;omega
 have e2:(b.take i).length=i:=by simp;omega
 rw [e1] at h1 ⊢;rw [e2];have hp:=zou i;generalize (1048576:Int) ^ i=P at *;generalize num (b.drop (i+1))=T;have h3:P*(a.getD i 0+1)<=P*b.getD i 0:=Int.mul_le_mul_of_nonneg_left (by omega) (by omega);rw [Int.mul_add,Int.mul_add];rw [Int.mul_add] at h3;omega
def fixd:Nat->Int->List Int
 | 0,_=>[]
 | n+1,z=>z % 1048576::fixd n (z / 1048576)
theorem xwf:∀{l:List Int},digits l->l=fixd l.length (num l)
 | [],_=>rfl
 | d::l,h=>by
  have h1:=h.head;have h2:=xwf h.tail
  have e1:(d+1048576*num l) % 1048576=d:=by omega
  have e2:(d+1048576*num l) / 1048576=num l:=by omega
  simp only [List.length_cons,fixd,num,e1,e2];rw [<-h2]
theorem yc5 {n:Nat} {z:Int} (h:digits l) (hn:l.length=n) (hz:num l=z):l=fixd n z:=by rw [<-hn,<-hz];exact xwf h
theorem wpd:∀(n:Nat) (z:Int),(fixd n z).length=n
 | 0,_=>rfl
 | n+1,z=>by simp [fixd,wpd n]
theorem xvy:∀(n:Nat) (z:Int),digits (fixd n z)
 | 0,_=>digits.nil
 | n+1,z=>digits.cons (by omega) (xvy n _)
theorem x8e:∀(n:Nat) (z:Int),0<=z->z<1048576 ^ n->num (fixd n z)=z
 | 0,z,h1,h2=>by simp at h2;simp [fixd,num];omega
 | n+1,z,h1,h2=>by
  rw [Int.pow_succ] at h2;simp only [fixd,num];rw [x8e n (z / 1048576) (by omega) (by omega)];omega
theorem vuf (n:Int):iand .i64 n 1048575=n % 1048576:=by
 unfold iand
 have h1:(BitVec.ofInt IntKind.i64.bits n &&&BitVec.ofInt IntKind.i64.bits 1048575).toNat=(n % 1048576).toNat:=by
  show (BitVec.ofInt 64 n &&&BitVec.ofInt 64 1048575).toNat=_;rw [BitVec.toNat_and,BitVec.toNat_ofInt,BitVec.toNat_ofInt]
  have:((1048575:Int) % ((2 ^ 64:Nat):Int)).toNat=2 ^ 20-1:=by decide
  rw [this,Nat.and_two_pow_sub_one_eq_mod];omega
 rw [h1,w64 (by omega)];omega
theorem and1 (n:Int):iand .i64 n 1=n % 2:=by
 unfold iand
 have h1:(BitVec.ofInt IntKind.i64.bits n &&&BitVec.ofInt IntKind.i64.bits 1).toNat=(n % 2).toNat:=by
  show (BitVec.ofInt 64 n &&&BitVec.ofInt 64 1).toNat=_;rw [BitVec.toNat_and,BitVec.toNat_ofInt,BitVec.toNat_ofInt]
  have:((1:Int) % ((2 ^ 64:Nat):Int)).toNat=2 ^ 1-1:=by decide
  rw [this,Nat.and_two_pow_sub_one_eq_mod];omega
 rw [h1,w64 (by omega)];omega
theorem v2y (n:Int):ishr .i64 n 20=n / 1048576:=by
 unfold ishr
 have:(2:Int) ^ (min (20:Int).toNat IntKind.i64.bits)=1048576:=by decide
 rw [this,Int.fdiv_eq_ediv_of_nonneg _ (by decide)]
theorem yzv {n:Int} (h:-8796093022208<=n/\n<8796093022208):ishl .i64 n 20=n*1048576:=by
 unfold ishl
 have:(2:Int) ^ (min (20:Int).toNat IntKind.i64.bits)=1048576:=by decide
 rw [this,w64 (by omega)]
theorem or20 {a d:Int} (ha:0<=a/\a<8796093022208) (hd:0<=d/\d<=1048575):ior .i64 (a*1048576) d=a*1048576+d:=by
 unfold ior
 have h1:(BitVec.ofInt IntKind.i64.bits (a*1048576) |||BitVec.ofInt IntKind.i64.bits d).toNat=(a*1048576+d).toNat:=by
  show (BitVec.ofInt 64 (a*1048576) |||BitVec.ofInt 64 d).toNat=_;rw [BitVec.toNat_or,BitVec.toNat_ofInt,BitVec.toNat_ofInt]
  have e1:((a*1048576) % ((2 ^ 64:Nat):Int)).toNat=a.toNat <<< 20:=by rw [Nat.shiftLeft_eq];omega
  have e2:(d % ((2 ^ 64:Nat):Int)).toNat=d.toNat:=by omega
  rw [e1,e2,<-Nat.shiftLeft_add_eq_or_of_lt (by omega),Nat.shiftLeft_eq];omega
 rw [h1,w64 (by omega)];omega
end Go.Slot
namespace Go.Slot
open Go Go.RowKit
variable {l:List Int} {q z:Int}
theorem xob (l:List Int) (n:Nat) (hn:2<=n) (hl:l.length=n):num l=(l.getD (n-1) 0*1048576+l.getD (n-2) 0)*1048576 ^ (n-2)+num (l.take (n-2)):=by
 obtain ⟨m,rfl⟩:∃ m,n=m+2:=⟨n-2,by omega⟩;have h1:=w4d l (m+1);have h2:=w4d l m;rw [zvp (by omega)] at h1;rw [h1,h2,show m+2-1=m+1 by omega,show m+2-2=m by omega,Int.pow_succ]
 grind
theorem v2f (l:List Int) (n:Nat) (hn:2<=n) (hl:l.length=n+1) :
 num l=((l.getD n 0*1048576+l.getD (n-1) 0)*1048576+l.getD (n-2) 0)*1048576 ^ (n-2)+num (l.take (n-2)):=by
 obtain ⟨m,rfl⟩:∃ m,n=m+2:=⟨n-2,by omega⟩;have h1:=w4d l (m+2);have h2:=w4d l (m+1);have h3:=w4d l m;rw [zvp (by omega)] at h1;rw [h1,h2,h3,show m+2-1=m+1 by omega,show m+2-2=m by omega,Int.pow_succ,Int.pow_succ]
 grind
section
variable {W V P t u2 v1 v2 w0 v0 g rest:Int}
theorem y59 (hP:0<P) (hW:W=(t*1048576+u2)*P+w0) (hw:w0<P) (hu:u2<=1048575) (hV:V=(v1*1048576+v2)*P+v0) (hv0:0<=v0) (hv2:0<=v2) (hg:t+1<=(g+1)*v1) (hg0:0<=g):W<(g+1)*V:=by
 have h1:(t+1)*1048576*P<=(g+1)*v1*1048576*P:=Int.mul_le_mul_of_nonneg_right (Int.mul_le_mul_of_nonneg_right hg (by decide)) (Int.le_of_lt hP);have h2:0<=(g+1)*(v2*P+v0):=Int.mul_nonneg (by omega) (Int.add_nonneg (Int.mul_nonneg hv2 (Int.le_of_lt hP)) hv0);have h3:u2*P<=1048575*P:=Int.mul_le_mul_of_nonneg_right hu (Int.le_of_lt hP)
 have e1:(g+1)*V=(g+1)*v1*1048576*P+(g+1)*(v2*P+v0):=by rw [hV];grind
 have e2:(t*1048576+u2)*P=(t+1)*1048576*P-1048576*P+u2*P:=by grind
 omega
theorem wi4 (hP:0<P) (hW:W=(t*1048576+u2)*P+w0) (hw:w0<P) (hV:V=(v1*1048576+v2)*P+v0) (hv0:0<=v0) (hg0:0<=g) (ht:t=g*v1+rest) (hc:rest*1048576+u2<g*v2):W<g*V:=by
 have h1:(t*1048576+u2+1)*P<=g*(v1*1048576+v2)*P:=by
  apply Int.mul_le_mul_of_nonneg_right _ (Int.le_of_lt hP)
  have:g*(v1*1048576+v2)=g*v1*1048576+g*v2:=by grind
  omega
 have h2:0<=g*v0:=Int.mul_nonneg hg0 hv0
 have e1:g*V=g*(v1*1048576+v2)*P+g*v0:=by rw [hV];grind
 have e2:(t*1048576+u2+1)*P=(t*1048576+u2)*P+P:=by grind
 omega
theorem vpk (hP:0<P) (hW:W=(t*1048576+u2)*P+w0) (hw:0<=w0) (hu2:0<=u2) (hV:V=(v1*1048576+v2)*P+v0) (hv0:v0<P) (hv1:1<=v1) (hv2:0<=v2/\v2<=1048575) (hV0:0<V) (hW0:0<=W) (hg0:0<=g) (hg1:g<=1048575) (ht:t=g*v1+rest)
 (hc:1048576<=rest\/g*v2<=rest*1048576+u2):(g-1)*V<=W:=by
 by_cases h0:g=0
 . subst h0
   have:(0-1)*V = - V:=by grind
   omega
 have hg:0<=g-1:=by omega
 have hb:(g-1)*(v1*1048576+v2+1)<=t*1048576+u2:=by
  have e:(g-1)*(v1*1048576+v2+1)=g*v1*1048576+g*v2+g-v1*1048576-v2-1:=by grind
  rcases hc with hc | hc
  . have h1:g*v2<=g*1048575:=Int.mul_le_mul_of_nonneg_left hv2.2 hg0;rw [e,ht]
    have:(g*v1+rest)*1048576=g*v1*1048576+rest*1048576:=by grind
    omega
  . rw [e,ht]
    have:(g*v1+rest)*1048576=g*v1*1048576+rest*1048576:=by grind
    omega
 have h1:(g-1)*(v1*1048576+v2+1)*P<=(t*1048576+u2)*P:=Int.mul_le_mul_of_nonneg_right hb (Int.le_of_lt hP);have h2:(g-1)*v0<=(g-1)*P:=Int.mul_le_mul_of_nonneg_left (Int.le_of_lt hv0) hg
 have e1:(g-1)*V=(g-1)*(v1*1048576+v2+1)*P-(g-1)*P+(g-1)*v0:=by rw [hV];grind
 omega
end
theorem zpk (hd:digits l) (hn:norm l) (h:l≠[]):1048576 ^ (l.length-1)<=num l:=by
 have hp:0<l.length:=List.length_pos_iff.2 h;have h1:=w4d l (l.length-1);rw [zvp (by omega)] at h1;have h2:=num_nonneg (hd.take (l.length-1));have h3:=hn h;have h4:=hd.getD (l.length-1);have h5:=Int.mul_le_mul_of_nonneg_left (show (1:Int)<=l.getD (l.length-1) 0 by omega) (Int.le_of_lt (zou (l.length-1)));rw [Int.mul_one] at h5;omega
theorem vhw (w:List Int) (i k:Nat) (h:i+k<=w.length):num w=num (w.take i)+1048576 ^ i*num ((w.drop i).take k)+1048576 ^ (i+k)*num (w.drop (i+k)):=by
 have h1:=zlm w i;have h2:=zlm (w.drop i) k
 have e1:(w.take i).length=i:=by simp;omega
 have e2:((w.drop i).take k).length=k:=by simp;omega
 rw [e1] at h1;rw [e2,List.drop_drop] at h2;rw [h1,h2,Int.pow_add]
 grind
theorem y3m (w d:List Int) (i k:Nat) (h:i+k<=w.length) (hd:d.length=k):num (w.take i++d++w.drop (i+k))=num (w.take i)+1048576 ^ i*num d+1048576 ^ (i+k)*num (w.drop (i+k)):=by
 have e1:(w.take i).length=i:=by simp;omega
 rw [xtv,xtv,List.length_append,e1,hd]
theorem ws7 {a b s w:Int} (hs:0<s) (hb:0<b) (he:a*s=b*s*q+w) (h0:0<=w) (h1:w<b*s):a / b=q/\a % b=w / s:=by
 have hbs:0<b*s:=Int.mul_pos hb hs
 have hq:a / b=q:=by
  rw [<-Int.mul_ediv_mul_of_pos_left a b hs,he,Int.add_comm,Int.add_mul_ediv_left _ _ (by omega),Int.ediv_eq_zero_of_lt h0 h1];omega
 refine ⟨hq,?_⟩;have h2:=Int.emod_add_mul_ediv a b;rw [hq] at h2
 have h3:w=(a % b)*s:=by
  have:(a % b+b*q)*s=b*s*q+w:=by rw [h2];exact he
  have h4:(a % b+b*q)*s=a % b*s+b*s*q:=by grind
  omega
 rw [h3,Int.mul_ediv_cancel _ (by omega)]
theorem xkt {i n k:Nat} (h:k<n):((l.drop i).take n).getD k 0=l.getD (i+k) 0:=by
 rw [z4f h,List.getD_eq_getElem?_getD,List.getElem?_drop,List.getD_eq_getElem?_getD]
def sg (z:Int):Int:=if z<0 then -1 else if 0<z then 1 else 0
theorem zgv (h:0<z):sg z=1:=by unfold sg;rw [if_neg (by omega),if_pos h]
theorem xxz (h:z<0):sg z = -1:=by unfold sg;rw [if_pos h]
theorem vap:sg 0=0:=rfl
theorem wzq (z:Int):(z<0/\sg z = -1)\/(z=0/\sg z=0)\/(0<z/\sg z=1):=by
 rcases Int.lt_trichotomy z 0 with h | h | h
 . exact .inl ⟨h,xxz h⟩
 . exact .inr (.inl ⟨h,by rw [h];rfl⟩)
 . exact .inr (.inr ⟨h,zgv h⟩)
def zC (z:Int):List Cell:=[.raw (.int .i64 (sg z)),.ints .i64 (dig z.natAbs)]
def xhn (s:Int) (L:List Int):Prop:=digits L/\((L=[]/\s=0)\/(L≠[]/\(s=1\/s = -1)/\L.getD (L.length-1) 0≠0))
instance (s:Int) (L:List Int):Decidable (xhn s L):=inferInstanceAs (Decidable (_/\_))
theorem wa6 (s:Int) (L:List Int):xhn s L↔∃ z:Int,s=sg z/\L=dig z.natAbs:=by
 constructor
 . rintro ⟨hd,⟨rfl,rfl⟩ | ⟨hne,hs,htop⟩⟩
   . exact ⟨0,rfl,by rw [show (0:Int).natAbs=0 from rfl,ylp]⟩
   . have hn:norm L:=fun _=>htop
     have hp:=norm.pos hd hn hne
     rcases hs with rfl | rfl
     . exact ⟨num L,(zgv hp).symm,by rw [show (num L).natAbs=(num L).toNat by omega];exact yke hd hn⟩
     . exact ⟨-num L,(xxz (by omega)).symm,by rw [show (-num L).natAbs=(num L).toNat by omega];exact yke hd hn⟩
 . rintro ⟨z,rfl,rfl⟩;refine ⟨wo6 _,?_⟩
   rcases wzq z with ⟨h,e⟩ | ⟨h,e⟩ | ⟨h,e⟩
   . exact .inr ⟨fun h'=>by have:=zrh.1 h';omega,.inr e,yrd _ (fun h'=>by have:=zrh.1 h';omega)⟩
   . exact .inl ⟨by rw [h,show (0:Int).natAbs=0 from rfl,ylp],e⟩
   . exact .inr ⟨fun h'=>by have:=zrh.1 h';omega,.inl e,yrd _ (fun h'=>by have:=zrh.1 h';omega)⟩
theorem xpw (z:Int):xhn (sg z) (dig z.natAbs):=(wa6 _ _).2 ⟨z,rfl,rfl⟩
def fits (k:Nat) (z:Int):Prop:=(dig z.natAbs).length<=k
theorem zeb (z:Int):num (dig z.natAbs)=z.natAbs:=yn8 _
theorem z4z (a b:Nat):(dig (a+b)).length<=max (dig a).length (dig b).length+1:=by
 apply vwv;have h1:=x38 (n:=a) (k:=max (dig a).length (dig b).length) (Nat.le_max_left _ _);have h2:=x38 (n:=b) (k:=max (dig a).length (dig b).length) (Nat.le_max_right _ _);rw [Nat.pow_succ];omega
theorem ysr (a b:Nat):(dig (a*b)).length<=(dig a).length+(dig b).length:=by
 apply vwv;rw [Nat.pow_add];have h1:=x38 (n:=a) (Nat.le_refl _);have h2:=x38 (n:=b) (Nat.le_refl _);exact Nat.mul_lt_mul_of_lt_of_lt h1 h2
theorem zzg (x y:Int):(dig (x+y).natAbs).length<=max (dig x.natAbs).length (dig y.natAbs).length+1:=
 Nat.le_trans (wxv (by omega)) (z4z x.natAbs y.natAbs)
theorem wm8 (x y:Int):(dig (x*y).natAbs).length<=(dig x.natAbs).length+(dig y.natAbs).length:=by
 rw [Int.natAbs_mul];exact ysr _ _
theorem v03 {x y r:Int} (h:x=y*q+r) (h0:0<=r) (h1:r<y):x / y=q/\x % y=r:=by
 rw [h,Int.add_comm];refine ⟨?_,?_⟩
 . rw [Int.add_mul_ediv_left _ _ (by omega),Int.ediv_eq_zero_of_lt h0 h1];omega
 . rw [Int.add_mul_emod_self_left,Int.emod_eq_of_lt h0 h1]
theorem vam {s:Int} (h:(s=1/\0<=z)\/(s = -1/\z<=0)\/z=0):[Cell.raw (.int .i64 (if xun (dig z.natAbs)=[] then 0 else s)),Cell.ints .i64 (xun (dig z.natAbs))]=zC z:=by
 rw [wb6];unfold zC;by_cases h0:z=0
 . subst h0;rw [if_pos (by rw [show (0:Int).natAbs=0 from rfl,ylp])];rfl
 . rw [if_neg (fun h'=>by have:=zrh.1 h';omega)]
   rcases h with ⟨rfl,h⟩ | ⟨rfl,h⟩ | h
   . rw [zgv (by omega)]
   . rw [xxz (by omega)]
   . exact absurd h h0
theorem y79 (x y:Int) (h:sg x≠sg y):ord (sg x) (sg y)=ord x y:=by
 rcases wzq x with ⟨h1,e1⟩ | ⟨h1,e1⟩ | ⟨h1,e1⟩<;>rcases wzq y with ⟨h2,e2⟩ | ⟨h2,e2⟩ | ⟨h2,e2⟩<;>rw [e1,e2] at h ⊢<;>unfold ord<;>first | (exact absurd rfl h) | (repeat' split)<;>omega
theorem zn8 (x y:Int) (h:sg x=sg y):sg x*ord (num (dig x.natAbs)) (num (dig y.natAbs))=ord x y:=by
 rw [zeb,zeb]
 rcases wzq x with ⟨h1,e1⟩ | ⟨h1,e1⟩ | ⟨h1,e1⟩<;>rcases wzq y with ⟨h2,e2⟩ | ⟨h2,e2⟩ | ⟨h2,e2⟩<;>rw [e1] at h ⊢<;>rw [e2] at h<;>first | omega | (unfold ord;(repeat' split)<;>omega)
end Go.Slot
namespace Go.Slot.T
open Go Go.RowKit Go.Slot
open Go.Proofs.Tryz (prog)
set_option maxRecDepth 10000
set_option maxHeartbeats 2000000
variable {L:List Int}
theorem xz2 (s:Int) (L:List Int) (hL:L.length<4611686018427387904):yn2 prog 70 [.agg [.raw (.int .i64 s),.ints .i64 L]] (.one (.raw (.bool (decide (xhn s L))))):=by
 refine yn2.run [] Go.Proofs.Tryz.func70 rfl rfl ?_
 conv=>simp (disch:=omega) only [go_sem,Go.Proofs.Tryz.f70,List.replicate]
 refine xyc (fun i:Nat=>[(5,.any),(12,.one (.raw (.int .i64 i))),(13,.any),(14,.any),(15,.any),(16,.any),(17,.any),(18,.any),(19,.any),(20,.any),(21,.any),(22,.any)])
  (fun i=>i<=L.length/\digits (L.take i)) (fun i=>L.length-i) 0 ⟨by omega,by simp [digits]⟩ ?_ ?_
 . simp only [go_sem];exact StLe.weaken (by repeat' first | exact .nil | refine .cons (by first | exact .refl _ | exact .any _) ?_) rfl
 intro i ⟨hi,hd⟩
 conv=>simp (disch:=omega) only [go_sem]
 refine z08 (fun h=>?_) (fun h=>?_)
 . have hi':i<L.length:=by omega
   have hget:L.getD i 0=L[i]:=by simp [hi']
   have hmem:L[i]∈L:=List.getElem_mem hi'
   have hbad:¬(0<=L.getD i 0/\L.getD i 0<=1048575)->¬xhn s L:=fun hn hr=>hn (by rw [hget];exact hr.1 _ hmem)
   conv=>simp (disch:=omega) only [go_sem,yim]
   refine xjr (fun h1=>?_) (fun h1=>?_)
   . conv=>simp (disch:=omega) only [go_sem,yim,h1]
     refine z08 (fun h2=>?_) (fun h2=>?_)
     . conv=>simp (disch:=omega) only [go_sem,yim]
       refine ⟨_,rfl,?_⟩;rw [decide_eq_false (hbad (by omega))];exact .one (.refl _)
     . conv=>simp (disch:=omega) only [go_sem,yim,w64]
       refine ⟨i+1,⟨by omega,?_⟩,by omega,?_⟩
       . intro x hx;rw [List.take_add_one,List.mem_append] at hx
         rcases hx with hx | hx
         . exact hd x hx
         . simp [hi'] at hx;subst hx;rw [<-hget];omega
       . exact StLe.weaken (by repeat' first | exact .nil | refine .cons (by first | exact .refl _ | exact .any _) ?_) rfl
   . conv=>simp (disch:=omega) only [go_sem,yim,h1]
     refine ⟨_,rfl,?_⟩;rw [decide_eq_false (hbad (by omega))];exact .one (.refl _)
 . have hi':i=L.length:=by omega
   have hdig:digits L:=by rw [hi',List.take_length] at hd;exact hd
   conv=>simp (disch:=omega) only [go_sem,yim]
   refine z08 (fun h1=>?_) (fun h1=>?_)
   . have hnil:L=[]:=by have:L.length=0:=(by omega);simpa using this
     conv=>simp (disch:=omega) only [go_sem,yim]
     refine ⟨_,rfl,?_⟩
     have:decide (xhn s L)=decide (s=0):=by
      apply decide_eq_decide.2;simp [xhn,hnil,digits]
     rw [this];exact .one (.refl _)
   . have hne:L≠[]:=fun e=>h1 (by rw [e];rfl)
     have hpos:0<L.length:=List.length_pos_iff.2 hne
     conv=>simp (disch:=omega) only [go_sem,yim]
     have hlast:(s=1\/s = -1)->decide (xhn s L)=decide (L.getD (L.length-1) 0≠0):=fun hs=>by
      apply decide_eq_decide.2;simp only [xhn];constructor
      . rintro ⟨_,⟨h4,_⟩ | ⟨_,_,h4⟩⟩
        . exact absurd h4 hne
        . exact h4
      . exact fun h4=>⟨hdig,.inr ⟨hne,hs,h4⟩⟩
     have e:((L.length:Int)-1).toNat=L.length-1:=by omega
     refine xjr (fun h2=>?_) (fun h2=>?_)
     . conv=>simp (disch:=omega) only [go_sem,yim,h2]
       refine z4u (fun h3=>?_) (fun h3=>?_)
       . subst h3
         conv=>simp (disch:=omega) only [go_sem,yim,w64,e]
         refine ⟨_,rfl,?_⟩;rw [hlast (.inr rfl)];exact .one (.refl _)
       . conv=>simp (disch:=omega) only [go_sem,yim,h3]
         refine ⟨_,rfl,?_⟩
         have:¬xhn s L:=by
          rintro ⟨_,⟨h4,_⟩ | ⟨_,h4,_⟩⟩
          . exact hne h4
          . omega
         rw [decide_eq_false this];exact .one (.refl _)
     . subst h2
       conv=>simp (disch:=omega) only [go_sem,yim,w64,e]
       refine ⟨_,rfl,?_⟩;rw [hlast (.inl rfl)];exact .one (.refl _)
theorem xam (L:List Int) (hL:L.length<4611686018427387904):yn2 prog 146 [.one (.ints .i64 L)] (.one (.ints .i64 (L.take (z4o L L.length)))):=by
 refine yn2.run [] Go.Proofs.Tryz.func146 rfl rfl ?_
 conv=>simp (disch:=omega) only [go_sem,Go.Proofs.Tryz.f146,List.replicate]
 refine xyc (fun n:Nat=>[(3,.one (.raw (.int .i64 n))),(6,.any),(7,.any),(8,.any),(9,.any),(10,.any),(11,.any),(12,.any),(13,.any),(14,.any),(15,.any),(16,.any),(17,.any)])
  (fun n=>n<=L.length/\z4o L L.length=z4o L n) (fun n=>n) L.length ⟨Nat.le_refl _,rfl⟩ ?_ ?_
 . simp only [go_sem];exact StLe.weaken (by repeat' first | exact .nil | refine .cons (by first | exact .refl _ | exact .any _) ?_) rfl
 intro n ⟨hn,ht⟩
 conv=>simp (disch:=omega) only [go_sem]
 have done:z4o L L.length=n->((n:Int)).toNat=z4o L L.length:=fun h=>by omega
 refine z4u (fun h=>?_) (fun h=>?_)
 . obtain ⟨m,rfl⟩:∃ m,n=m+1:=⟨n-1,by omega⟩
   have e:((m+1:Nat):Int)-1=(m:Nat):=by omega
   conv=>simp (disch:=omega) only [go_sem,yim,h,w64,e]
   refine z08 (fun h2=>?_) (fun h2=>?_)
   . conv=>simp (disch:=omega) only [go_sem,yim,h,w64,e]
     refine ⟨m,⟨by omega,by rw [ht];simp only [z4o];rw [if_pos h2]⟩,by omega,?_⟩;exact StLe.weaken (by repeat' first | exact .nil | refine .cons (by first | exact .refl _ | exact .any _) ?_) rfl
   . have hfin:z4o L L.length=m+1:=by rw [ht];simp only [z4o];rw [if_neg h2]
     conv=>simp (disch:=omega) only [go_sem,yim,h,w64,e]
     refine ⟨_,rfl,?_⟩;rw [hfin];exact .one (.refl _)
 . have h0:n=0:=by omega
   subst h0
   conv=>simp (disch:=omega) only [go_sem,yim,h,w64]
   refine ⟨_,rfl,?_⟩;rw [ht];exact .one (.refl _)
theorem zu8 (pre:List Value) (q:List Value) (L:List Int) (hL:L.length<4611686018427387904):wmo prog 146 [.arr pre (.ints .i64 L) (some q)] 0 (.arr pre (.ints .i64 L) (some q)) (.awn 0 1 0 (z4o L L.length)):=by
 refine wmo.run [] Go.Proofs.Tryz.func146 rfl rfl (fun t h=>h) ?_
 conv=>simp (disch:=omega) only [go_sem,Go.Proofs.Tryz.f146,List.replicate]
 refine xyc (fun n:Nat=>[(3,.one (.raw (.int .i64 n))),(6,.any),(7,.any),(8,.any),(9,.any),(10,.any),(11,.any),(12,.any),(13,.any),(14,.any),(15,.any),(16,.any),(17,.any)])
  (fun n=>n<=L.length/\z4o L L.length=z4o L n) (fun n=>n) L.length ⟨Nat.le_refl _,rfl⟩ ?_ ?_
 . simp only [go_sem];exact StLe.weaken (by repeat' first | exact .nil | refine .cons (by first | exact .refl _ | exact .any _) ?_) rfl
 intro n ⟨hn,ht⟩
 conv=>simp (disch:=omega) only [go_sem]
 have done:z4o L L.length=n->((n:Int)).toNat=z4o L L.length:=fun h=>by omega
 refine z4u (fun h=>?_) (fun h=>?_)
 . obtain ⟨m,rfl⟩:∃ m,n=m+1:=⟨n-1,by omega⟩
   have e:((m+1:Nat):Int)-1=(m:Nat):=by omega
   conv=>simp (disch:=omega) only [go_sem,yim,h,w64,e]
   refine z08 (fun h2=>?_) (fun h2=>?_)
   . conv=>simp (disch:=omega) only [go_sem,yim,h,w64,e]
     refine ⟨m,⟨by omega,by rw [ht];simp only [z4o];rw [if_pos h2]⟩,by omega,?_⟩;exact StLe.weaken (by repeat' first | exact .nil | refine .cons (by first | exact .refl _ | exact .any _) ?_) rfl
   . have hfin:z4o L L.length=m+1:=by rw [ht];simp only [z4o];rw [if_neg h2]
     conv=>simp (disch:=omega) only [go_sem,yim,h,w64,e]
     exact ⟨rfl,rfl,rfl,2,rfl,by rw [hfin];rfl⟩
 . have h0:n=0:=by omega
   subst h0
   conv=>simp (disch:=omega) only [go_sem,yim,h,w64]
   exact ⟨rfl,rfl,rfl,2,rfl,by rw [ht];rfl⟩
theorem wlw (L:List Int) (n:Nat) (hn:n=L.length) (hL:L.length<4611686018427387904):vpg prog 146 [.any] 0 (.wn (.ints .i64 L) 0 n) (.wn (.ints .i64 L) 0 n) (.awn 0 1 0 (z4o L L.length)):=fun pre q=>by
 have:(Cell.ints .i64 L).sub 0 n=.ints .i64 L:=by simp [Cell.sub,hn]
 rw [this];exact zu8 pre q L hL
theorem v6x {n:Int} (hd:digits L) (h:num L=n):AV.arr [] (.ints .i64 (L.take (z4o L L.length))) none=.arr [] (.ints .i64 (dig n.toNat)) none:=by
 rw [<-wai hd h];rfl
def bigC (s:Int) (L:List Int):List Cell:=[.raw (.int .i64 s),.ints .i64 L]
theorem y7y (s:Int) (L:List Int) (hL:L.length<4611686018427387904) :
 yn2 prog 95 [.one (.raw (.int .i64 s)),.one (.ints .i64 L)] (.agg (bigC (if xun L=[] then 0 else s) (xun L))):=by
 refine yn2.run [] Go.Proofs.Tryz.func95 rfl rfl ?_
 conv=>simp (disch:=omega) only [go_sem,Go.Proofs.Tryz.f95,List.replicate]
 refine v1h (xam L hL) ?_;rw [show L.take (z4o L L.length)=xun L from rfl]
 conv=>simp (disch:=omega) only [go_sem]
 refine z08 (fun h=>?_) (fun h=>?_)
 . have h0:xun L=[]:=by have:(xun L).length=0:=(by omega);simpa using this
   conv=>simp (disch:=omega) only [go_sem,yim]
   refine ⟨_,rfl,?_⟩;rw [h0];exact .one (.agg (.cons (.refl _) (.cons (.ysc _) .nil)))
 . have h0:xun L≠[]:=fun e=>h (by rw [e];rfl)
   conv=>simp (disch:=omega) only [go_sem,yim]
   refine ⟨_,rfl,?_⟩
   try rw [if_neg h0]
   exact .one (.refl _)
theorem z8n (b:Bool) (s:Int) (L:List Int) :
 yn2 prog 117 [.one (.raw (.bool b)),.agg (bigC s L)] (.tup [.agg (if b then bigC s L else bigC 0 []),.one (.raw (.int .i64 (if b then 0 else 1)))]):=by
 refine yn2.run [] Go.Proofs.Tryz.func117 rfl rfl ?_
 conv=>simp (disch:=omega) only [go_sem,Go.Proofs.Tryz.f117,List.replicate,bigC]
 refine wqz (fun h=>?_) (fun h=>?_)
 . have h:b=false:=by simpa using h
   subst h
   conv=>simp (disch:=omega) only [go_sem,yim]
   refine ⟨_,rfl,?_⟩;exact .tup (.cons (.agg (.cons (.refl _) (.cons (.ysc _) .nil))) (.cons (.refl _) .nil))
 . have h:b=true:=by simpa using h
   subst h
   conv=>simp (disch:=omega) only [go_sem,yim]
   refine ⟨_,rfl,?_⟩;exact .tup (.cons (.refl _) (.cons (.refl _) .nil))
theorem xl1:yn2 prog 91 [.one (.ints .i64 [])] (.one (.ints .i64 [])):=by
 refine yn2.zrt (fun b=>?_);refine yn2.run [] Go.Proofs.Tryz.func91 rfl rfl ?_
 conv=>simp (disch:=omega) only [go_sem,Go.Proofs.Tryz.f91,List.replicate]
 refine wqz (fun h=>?_) (fun h=>?_)
 . conv=>simp (disch:=omega) only [go_sem,yim]
   exact ⟨_,rfl,.one (.one (.zrt _))⟩
 . conv=>simp (disch:=omega) only [go_sem,yim]
   exact ⟨_,rfl,.one (.refl _)⟩
theorem xfv (L:List Int) (h0:0<L.length) (hL:L.length<=17592186044416):yn2 prog 91 [.one (.ints .i64 L)] (.arr [] (.ints .i64 L) none):=by
 refine yn2.run [] Go.Proofs.Tryz.func91 rfl rfl ?_
 conv=>simp (disch:=omega) only [go_sem,Go.Proofs.Tryz.f91,List.replicate,yim]
 exact ⟨_,rfl,.one (.refl _)⟩
theorem yud (L:List Int) (hL:L.length<=17592186044416):yn2 prog 91 [.one (.ints .i64 L)] (.one (.ints .i64 L)):=by
 by_cases h:L=[]
 . subst h;exact xl1
 . exact (xfv L (List.length_pos_iff.2 h) hL).le .own
theorem wu3 (a b:List Int) (ha:digits a) (hb:digits b) (la:a.length<=1099511627776) (lb:b.length<=1099511627776) :
 yn2 prog 144 [.one (.ints .i64 a),.one (.ints .i64 b)] (.one (.ints .i64 (dig (num a+num b).toNat))):=by
 refine yn2.run [(3,[.join])] Go.Proofs.Tryz.func144 rfl rfl ?_;simp only [Go.Proofs.Tryz.f144];refine rgR ?_;refine zu4 [0,1] (fun p:List Int×List Int=>[(0,.one (.ints .i64 p.1)),(1,.one (.ints .i64 p.2))])
  (fun p=>p.2.length<=p.1.length/\digits p.1/\digits p.2/\num p.1+num p.2=num a+num b/\p.1.length<=1099511627776) ?_ ?_
 . refine rg ?_;refine z08 (fun h=>?_) (fun h=>?_)
   . refine rg ?_;exact ⟨(b,a),⟨by dsimp only;omega,hb,ha,Int.add_comm _ _,lb⟩,StLe.weaken (by repeat' first | exact .nil | refine .cons (by first | exact .refl _ | exact .any _) ?_) rfl⟩
   . refine rg ?_;exact ⟨(a,b),⟨by dsimp only;omega,ha,hb,rfl,la⟩,StLe.weaken (by repeat' first | exact .nil | refine .cons (by first | exact .refl _ | exact .any _) ?_) rfl⟩
 rintro ⟨p,q⟩ ⟨hle,hp,hq,hs,hl⟩;simp only at hle hp hq hs hl;refine rg ?_;refine vxs [0,1,5,20,21] (fun x:Nat×List Int×Int=>[(6,.one (.raw (.int .i64 x.2.2))),(19,.arr [] (.ints .i64 x.2.1) none),(22,.one (.raw (.int .i64 x.1)))])
  (fun x=>x.1<=p.length/\x.2.1.length=p.length+1/\digits x.2.1/\xl7 x.2.1 x.1/\(0<=x.2.2/\x.2.2<=1)/\num x.2.1+1048576 ^ x.1*x.2.2=num (p.take x.1)+num (q.take x.1))
  (fun x=>p.length-x.1) (0,List.replicate ((p.length:Int)+1).toNat 0,0)
  ⟨Nat.zero_le _,by simp,digits.rep _,xl7.rep _,by simp,by simp [ya9,num]⟩ ?_ ?_
 . refine rg ?_;exact StLe.weaken (by repeat' first | exact .nil | refine .cons (by first | exact .refl _ | exact .any _) ?_) rfl
 rintro ⟨i,o,c⟩ ⟨hi,ho,hdo,hz,hc,hn⟩;simp only at hi ho hdo hz hc hn;refine rg ?_;refine z08 (fun h=>?_) (fun h=>?_)
 . have hpi:=hp.getD i;have hqi:=hq.getD i;refine rg ?_;have hz0:=hz i (Nat.le_refl _)
   have key:∀ s:Int,s=c+p.getD i 0+q.getD i 0->num (o.set i (s % 1048576))+1048576 ^ (i+1)*(s / 1048576)=num (p.take (i+1))+num (q.take (i+1)):=fun s hs=>by
    rw [vks (by omega) s,w4d,w4d,hz0,hs]
    grind
   refine z08 (fun h1=>?_) (fun h1=>?_)
   . refine rg2 @vuf @v2y ?_
     exact ⟨(i+1,o.set i ((c+p.getD i 0+q.getD i 0) % 1048576),(c+p.getD i 0+q.getD i 0) / 1048576),
      ⟨by dsimp only;omega,by simpa using ho,hdo.set i (by omega),hz.set _,by dsimp only;omega,key _ rfl⟩,by dsimp only;omega,StLe.weaken (by repeat' first | exact .nil | refine .cons (by first | exact .refl _ | exact .any _) ?_) rfl⟩
   . refine rg2 @vuf @v2y ?_;have hq0:=vv7 (l:=q) (i:=i) (by omega)
     exact ⟨(i+1,o.set i ((c+p.getD i 0) % 1048576),(c+p.getD i 0) / 1048576),
      ⟨by dsimp only;omega,by simpa using ho,hdo.set i (by omega),hz.set _,by dsimp only;omega,key _ (by omega)⟩,by dsimp only;omega,StLe.weaken (by repeat' first | exact .nil | refine .cons (by first | exact .refl _ | exact .any _) ?_) rfl⟩
 . refine rg ?_
   have hip:i=p.length:=by omega
   subst hip
   have hlen:(o.set p.length c).length<4611686018427387904:=by simp;omega
   have hnum:num (o.set p.length c)=num a+num b:=by
    rw [y8v _ _ _ (by omega),hz _ (Nat.le_refl _),<-hs];rw [zvp (Nat.le_refl _),zvp hle] at hn;rw [<-hn];grind
   have hdig:digits (o.set p.length c):=hdo.set _ (by omega);rw [show o.length=(o.set p.length c).length by simp];generalize o.set p.length c=r at *;have htr:=zdf r r.length;refine ownk (wlw r _ rfl hlen) ?_;refine rg ?_;exact ⟨_,rfl,by rw [v6x hdig hnum];exact .own⟩
theorem viv (a b:List Int) (ha:digits a) (hb:digits b) (la:a.length<=1099511627776) (hlen:b.length<=a.length) (hle:num b<=num a) :
 yn2 prog 145 [.one (.ints .i64 a),.one (.ints .i64 b)] (.one (.ints .i64 (dig (num a-num b).toNat))):=by
 by_cases hnil:a=[]
 . subst hnil;have hb0:b=[]:=List.eq_nil_of_length_eq_zero (by simpa using hlen);subst hb0;refine yn2.run [] Go.Proofs.Tryz.func145 rfl rfl ?_;simp only [Go.Proofs.Tryz.f145];refine rgR ?_;refine v1h xl1 ?_;refine rg ?_;refine xyc (fun _:Unit=>[(14,.any)]) (fun _=>True) (fun _=>0) () trivial ?_ ?_
   . refine rg ?_;exact StLe.weaken (by repeat' first | exact .nil | refine .cons (by first | exact .refl _ | exact .any _) ?_) rfl
   rintro ⟨⟩ _;refine rg ?_;refine z08 (fun h=>?_) (fun h=>?_)
   . exact absurd h (by simp)
   . refine rg ?_;refine v1h (xam [] (by decide)) ?_;refine rg ?_;refine ⟨_,rfl,?_⟩;rw [show num []-num []=0 from rfl,show (0:Int).toNat=0 from rfl,ylp];exact .one (.refl _)
 have hpos:0<a.length:=List.length_pos_iff.2 hnil;refine yn2.run [] Go.Proofs.Tryz.func145 rfl rfl ?_;simp only [Go.Proofs.Tryz.f145];refine rgR ?_;refine v1h (xfv a hpos (by omega)) ?_;refine rg ?_;refine vxs [0,1,5,11,12] (fun x:Nat×List Int×Int=>[(6,.one (.raw (.int .i64 x.2.2))),(10,.arr [] (.ints .i64 x.2.1) none),(13,.one (.raw (.int .i64 x.1)))])
  (fun x=>x.1<=a.length/\x.2.1.length=a.length/\digits x.2.1/\(0<=x.2.2/\x.2.2<=1)/\num x.2.1-1048576 ^ x.1*x.2.2=num a-num (b.take x.1))
  (fun x=>a.length-x.1) (0,a,0)
  ⟨Nat.zero_le _,rfl,ha,by simp,by simp [num]⟩ ?_ ?_
 . refine rg ?_;exact StLe.weaken (by repeat' first | exact .nil | refine .cons (by first | exact .refl _ | exact .any _) ?_) rfl
 rintro ⟨i,o,c⟩ ⟨hi,ho,hdo,hc,hn⟩;simp only at hi ho hdo hc hn;refine rg ?_;refine z08 (fun h=>?_) (fun h=>?_)
 . have hoi:=hdo.getD i;have hbi:=hb.getD i;refine rg ?_
   have key:∀ s:Int,s=o.getD i 0-c-b.getD i 0->num (o.set i (s % 1048576))-1048576 ^ (i+1)*(s / 1048576 % 2)=num a-num (b.take (i+1)):=fun s hs=>by
    have h1:=vks (o:=o) (i:=i) (by omega) s
    have h2:s / 1048576 % 2 = - (s / 1048576):=by omega
    rw [w4d,h2];rw [hs] at h1 ⊢
    grind
   refine z08 (fun h1=>?_) (fun h1=>?_)
   . refine rg3 @vuf @and1 @v2y ?_
     exact ⟨(i+1,o.set i ((o.getD i 0-c-b.getD i 0) % 1048576),(o.getD i 0-c-b.getD i 0) / 1048576 % 2),
      ⟨by dsimp only;omega,by simpa using ho,hdo.set i (by omega),by dsimp only;omega,key _ rfl⟩,by dsimp only;omega,StLe.weaken (by repeat' first | exact .nil | refine .cons (by first | exact .refl _ | exact .any _) ?_) rfl⟩
   . refine rg3 @vuf @and1 @v2y ?_;have hb0:=vv7 (l:=b) (i:=i) (by omega)
     exact ⟨(i+1,o.set i ((o.getD i 0-c) % 1048576),(o.getD i 0-c) / 1048576 % 2),
      ⟨by dsimp only;omega,by simpa using ho,hdo.set i (by omega),by dsimp only;omega,key _ (by omega)⟩,by dsimp only;omega,StLe.weaken (by repeat' first | exact .nil | refine .cons (by first | exact .refl _ | exact .any _) ?_) rfl⟩
 . refine rg ?_
   have hip:i=a.length:=by omega
   subst hip;rw [zvp hlen] at hn;have h1:=xxq hdo;have h2:=num_nonneg hdo;rw [ho] at h1
   have hc0:c=0:=by
    rcases Int.le_iff_eq_or_lt.1 hc.2 with h3 | h3
    . rw [h3] at hn;omega
    . omega
   subst hc0
   have hnum:num o=num a-num b:=by rw [<-hn];simp
   have htr:=zdf o o.length;refine ownk (wlw o _ rfl (by omega)) ?_;refine rg ?_;exact ⟨_,rfl,by rw [v6x hdo hnum];exact .own⟩
theorem y5t (a b:List Int) (ha:digits a) (hb:digits b) (la:a.length<=1099511627776) (lb:b.length<=1099511627776) :
 yn2 prog 173 [.one (.ints .i64 a),.one (.ints .i64 b)] (.arr [] (.ints .i64 (dig (num a*num b).toNat)) none):=by
 refine yn2.run [] Go.Proofs.Tryz.func173 rfl rfl ?_;simp only [Go.Proofs.Tryz.f173];refine rgR ?_;refine vxs [0,1,5,18,19] (fun x:Nat×List Int=>[(17,.arr [] (.ints .i64 x.2) none),(20,.one (.raw (.int .i64 x.1)))])
  (fun x=>x.1<=a.length/\x.2.length=a.length+b.length/\digits x.2/\xl7 x.2 (x.1+b.length)/\num x.2=num (a.take x.1)*num b)
  (fun x=>a.length-x.1) (0,List.replicate ((a.length:Int)+b.length).toNat 0)
  ⟨Nat.zero_le _,by simp;omega,digits.rep _,(xl7.rep _).mono (Nat.zero_le _),by simp [num,ya9]⟩ ?_ ?_
 . refine rg ?_;exact StLe.weaken (by repeat' first | exact .nil | refine .cons (by first | exact .refl _ | exact .any _) ?_) rfl
 rintro ⟨i,o⟩ ⟨hi,ho,hdo,hz,hn⟩;simp only at hi ho hdo hz hn;refine rg ?_;refine z08 (fun h=>?_) (fun h=>?_)
 . refine rg ?_;have hai:=ha.getD i;refine vxs [0,1,5,6,7,18,19,20,25,26] (fun x:Nat×List Int×Int=>[(8,.one (.raw (.int .i64 x.2.2))),(17,.arr [] (.ints .i64 x.2.1) none),(27,.one (.raw (.int .i64 x.1)))])
    (fun x=>x.1<=b.length/\x.2.1.length=a.length+b.length/\digits x.2.1/\xl7 x.2.1 (i+b.length)/\(0<=x.2.2/\x.2.2<=1048575)/\
      num x.2.1+1048576 ^ (i+x.1)*x.2.2=num (a.take i)*num b+1048576 ^ i*(a.getD i 0*num (b.take x.1)))
    (fun x=>b.length-x.1) (0,o,0)
    ⟨Nat.zero_le _,ho,hdo,hz,by simp,by simp [num,hn]⟩ ?_ ?_
   . refine rg ?_;exact StLe.weaken (by repeat' first | exact .nil | refine .cons (by first | exact .refl _ | exact .any _) ?_) rfl
   rintro ⟨k,o',c⟩ ⟨hk,ho',hdo',hz',hc,hn'⟩;simp only at hk ho' hdo' hz' hc hn';refine rg ?_;refine z08 (fun h1=>?_) (fun h1=>?_)
   . have hbk:=hb.getD k;have hok:=hdo'.getD (i+k);have hprod:0<=a.getD i 0*b.getD k 0/\a.getD i 0*b.getD k 0<=1048575*1048575:=⟨Int.mul_nonneg hai.1 hbk.1,Int.mul_le_mul hai.2 hbk.2 hbk.1 (by decide)⟩
     have eik:((i:Int)+k).toNat=i+k:=by omega
     refine rg3 @vuf @v2y @eik ?_;generalize hs:o'.getD (i+k) 0+a.getD i 0*b.getD k 0+c=s at *;have h2:=vks (o:=o') (i:=i+k) (by omega) s
     refine ⟨(k+1,o'.set (i+k) (s % 1048576),s / 1048576),
      ⟨by dsimp only;omega,by simpa using ho',hdo'.set _ (by omega),hz'.wkp _ (by omega),by dsimp only;omega,?_⟩,by dsimp only;omega,?_⟩
     . dsimp only;rw [w4d,show i+(k+1)=i+k+1 by omega,h2,<-hs,Int.pow_add];rw [Int.pow_add] at hn'
       grind
     . exact StLe.weaken (by repeat' first | exact .nil | refine .cons (by first | exact .refl _ | exact .any _) ?_) rfl
   . have hkb:k=b.length:=by omega
     subst hkb
     have eib:((i:Int)+b.length).toNat=i+b.length:=by omega
     have hz0:=hz' (i+b.length) (Nat.le_refl _)
     conv=>simp (maxSteps:=2000000) (disch:=omega) only [go_sem,Nat.reduceAdd,Nat.reduceSub,Nat.reduceMul,Int.reduceToNat,Nat.reduceEqDiff,Nat.reduceBEq,Nat.reduceBneDiff,eib,hz0,Int.zero_add]
     refine ⟨(i+1,o'.set (i+b.length) c),⟨by dsimp only;omega,by simpa using ho',hdo'.set _ (by omega),?_,?_⟩,by dsimp only;omega,?_⟩
     . exact (hz'.set c).mono (by dsimp only;omega)
     . dsimp only;rw [y8v _ _ _ (by omega),hz0,w4d];rw [List.take_length] at hn'
       grind
     . exact StLe.weaken (by repeat' first | exact .nil | refine .cons (by first | exact .refl _ | exact .any _) ?_) rfl
 . have hia:i=a.length:=by omega
   subst hia;rw [List.take_length] at hn;refine rg ?_;have htr:=zdf o o.length;refine ownk (wlw o _ rfl (by omega)) ?_;refine rg ?_;exact ⟨_,rfl,by rw [v6x hdo hn];exact .one (.refl _)⟩
theorem xrr {n:Int} (hd:digits L) (h:num L=n):Cell.ints .i64 (L.take (z4o L L.length))=.ints .i64 (dig n.toNat):=by
 rw [<-wai hd h];rfl
theorem yak (a:List Int) (d:Int) (ha:digits a) (la:a.length<=1099511627776) (hd:1<=d/\d<=1048576) :
 yn2 prog 174 [.one (.ints .i64 a),.one (.raw (.int .i64 d))] (.tup [.one (.ints .i64 (dig (num a / d).toNat)),.one (.raw (.int .i64 (num a % d)))]):=by
 refine yn2.run [] Go.Proofs.Tryz.func174 rfl rfl ?_;simp only [Go.Proofs.Tryz.f174];refine rgR ?_;refine vxs [0,1,6] (fun x:Nat×List Int×Int=>[(7,.one (.raw (.int .i64 x.2.2))),(8,.one (.raw (.int .i64 ((x.1:Int)-1)))),(11,.arr [] (.ints .i64 x.2.1) none)])
  (fun x=>x.1<=a.length/\x.2.1.length=a.length/\digits x.2.1/\(0<=x.2.2/\x.2.2<d)/\num (a.drop x.1)=d*num (x.2.1.drop x.1)+x.2.2)
  (fun x=>x.1) (a.length,List.replicate (a.length:Int).toNat 0,0)
  ⟨Nat.le_refl _,by simp,digits.rep _,by simp;omega,by simp [num]⟩ ?_ ?_
 . refine rg ?_;exact StLe.weaken (by repeat' first | exact .nil | refine .cons (by first | exact .refl _ | exact .any _) ?_) rfl
 rintro ⟨n,o,r⟩ ⟨hn,ho,hdo,hr,he⟩;simp only at hn ho hdo hr he;refine rg ?_;refine z08 (fun h=>?_) (fun h=>?_)
 . obtain ⟨i,rfl⟩:∃ i,n=i+1:=⟨n-1,by omega⟩
   have ei:((i+1:Nat):Int)-1=(i:Nat):=by omega
   have hai:=ha.getD i;refine rg3 @ei @yzv @or20 ?_;generalize ht:r*1048576+a.getD i 0=t at *
   have ht0:0<=t:=by omega
   have htd:t<d*1048576:=by
    have:r*1048576<=(d-1)*1048576:=Int.mul_le_mul_of_nonneg_right (by omega) (by decide)
    omega
   have hq:t.tdiv d=t / d:=Int.tdiv_eq_ediv_of_nonneg ht0;have hm:t.tmod d=t % d:=Int.tmod_eq_emod_of_nonneg ht0;have hq0:0<=t / d:=Int.ediv_nonneg ht0 (by omega);have hq1:t / d<1048576:=Int.ediv_lt_of_lt_mul (by omega) (by rw [Int.mul_comm];exact htd);have hm0:0<=t % d:=Int.emod_nonneg _ (by omega);have hm1:t % d<d:=Int.emod_lt_of_pos _ (by omega);have hdm:=Int.emod_add_mul_ediv t d;rw [hq,hm];refine rg ?_;refine ⟨(i,o.set i (t / d),t % d),⟨by dsimp only;omega,by simpa using ho,hdo.set _ (by omega),by dsimp only;omega,?_⟩,by dsimp only;omega,?_⟩
   . dsimp only;rw [x7k _ (by omega),win,he];simp only [num]
     grind
   . exact StLe.weaken (by repeat' first | exact .nil | refine .cons (by first | exact .refl _ | exact .any _) ?_) rfl
 . have h0:n=0:=by omega
   subst h0;simp only [List.drop_zero] at he;refine rg ?_;have htr:=zdf o o.length;refine ownk (wlw o _ rfl (by omega)) ?_;refine rg ?_
   have hq:num a / d=num o:=by
    rw [he,Int.add_comm,Int.add_mul_ediv_left _ _ (by omega),Int.ediv_eq_zero_of_lt hr.1 hr.2];omega
   have hm:num a % d=r:=by
    rw [he,Int.add_comm,Int.add_mul_emod_self_left,Int.emod_eq_of_lt hr.1 hr.2]
   exact ⟨_,rfl,by rw [xrr hdo rfl,hq,hm];exact .tup (.cons (.refl _) (.cons (.refl _) .nil))⟩
theorem cNaN (x:Int):yn2 prog 172 [.one (.raw (.int .i64 x))] (.one (.raw (.bool false))):=by
 refine yn2.run [] Go.Proofs.Tryz.func172 rfl rfl ?_;simp only [Go.Proofs.Tryz.f172];refine rgR ?_;exact ⟨_,rfl,.one (.refl _)⟩
theorem cCmp (x y:Int):yn2 prog 114 [.one (.raw (.int .i64 x)),.one (.raw (.int .i64 y))] (.one (.raw (.int .i64 (ord x y)))):=by
 refine yn2.run [] Go.Proofs.Tryz.func114 rfl rfl ?_;simp only [Go.Proofs.Tryz.f114];refine rgR ?_;refine v1h (cNaN x) ?_;refine rg ?_;refine v1h (cNaN y) ?_;refine rg ?_;unfold ord;refine z08 (fun h=>?_) (fun h=>?_)
 . refine rg ?_;exact ⟨_,rfl,.one (.refl _)⟩
 . refine rg ?_;refine z08 (fun h1=>?_) (fun h1=>?_)
   . refine rg ?_;exact ⟨_,rfl,.one (.refl _)⟩
   . refine rg ?_;exact ⟨_,rfl,.one (.refl _)⟩
theorem xxj (a b:List Int) (ha:digits a) (na:norm a) (hb:digits b) (nb:norm b) (la:a.length<=1099511627776) (_lb:b.length<=1099511627776) :
 yn2 prog 115 [.one (.ints .i64 a),.one (.ints .i64 b)] (.one (.raw (.int .i64 (ord (num a) (num b))))):=by
 refine yn2.run [] Go.Proofs.Tryz.func115 rfl rfl ?_;simp only [Go.Proofs.Tryz.f115];refine rgR ?_;refine z08 (fun h=>?_) (fun h=>?_)
 . refine rg ?_;refine v1h (cCmp _ _) ?_;refine rg ?_;refine ⟨_,rfl,?_⟩
   have:ord (a.length:Int) b.length=ord (num a) (num b):=by
    unfold ord
    rcases Nat.lt_or_gt_of_ne (fun e:a.length=b.length=>h (by omega)) with h1 | h1
    . have:=yck ha na hb nb h1
      rw [if_pos (by omega),if_pos this]
    . have:=yck hb nb ha na h1
      rw [if_neg (by omega),if_pos (by omega),if_neg (by omega),if_pos this]
   rw [this];exact .one (.refl _)
 . have hl:a.length=b.length:=by omega
   refine rg ?_;refine vxs [0,1] (fun n:Nat=>[(5,.one (.raw (.int .i64 ((n:Int)-1))))])
    (fun n=>n<=a.length/\a.drop n=b.drop n) (fun n=>n) a.length
    ⟨Nat.le_refl _,by rw [List.drop_length,hl,List.drop_length]⟩ ?_ ?_
   . refine rg ?_;exact StLe.weaken (by repeat' first | exact .nil | refine .cons (by first | exact .refl _ | exact .any _) ?_) rfl
   rintro n ⟨hn,he⟩;refine rg ?_;refine z08 (fun h1=>?_) (fun h1=>?_)
   . obtain ⟨i,rfl⟩:∃ i,n=i+1:=⟨n-1,by omega⟩
     have ei:((i+1:Nat):Int)-1=(i:Nat):=by omega
     refine rg1 @ei ?_;refine indk (by kernel_rfl) ?_;refine rg1 @ei ?_;refine z08 (fun h2=>?_) (fun h2=>?_)
     . refine rg1 @ei ?_;refine v1h (cCmp _ _) ?_;refine rg1 @ei ?_;refine indk (by kernel_rfl) ?_;refine rg1 @ei ?_;refine ⟨_,rfl,?_⟩
       have:ord (a.getD i 0) (b.getD i 0)=ord (num a) (num b):=by
        unfold ord
        rcases Int.lt_or_gt_of_ne h2 with h3 | h3
        . have:=wyj ha hb hl i (by omega) he h3
          rw [if_pos h3,if_pos this]
        . have:=wyj hb ha hl.symm i (by omega) he.symm h3
          rw [if_neg (by omega),if_pos (by omega),if_neg (by omega),if_pos this]
       rw [this];exact .one (.refl _)
     . have h2:a.getD i 0=b.getD i 0:=by omega
       refine rg1 @ei ?_;refine ⟨i,⟨by omega,?_⟩,by omega,StLe.weaken (by repeat' first | exact .nil | refine .cons (by first | exact .refl _ | exact .any _) ?_) rfl⟩
       have e1:∀(l:List Int),i<l.length->l.drop i=l.getD i 0::l.drop (i+1):=fun l hi=>by
        rw [List.drop_eq_getElem_cons hi]
        congr 1
        simp [hi]
       rw [e1 a (by omega),e1 b (by omega),he,h2]
   . have h0:n=0:=by omega
     subst h0
     have he:a=b:=by simpa using he
     refine rg ?_;refine ⟨_,rfl,?_⟩
     have:ord (num a) (num b)=0:=by rw [he];simp [ord]
     rw [this];exact .one (.refl _)
end Go.Slot.T
namespace Go.Slot.T
open Go Go.RowKit Go.Slot
open Go.Proofs.Tryz (prog)
set_option maxRecDepth 10000
set_option maxHeartbeats 4000000
def settled (u v g:Int):Int:=if u<g*v then g-1 else g
theorem yfv (pre q:List Value) (u v:List Int) (g:Int) (hu:digits u) (hv:digits v) (lu:u.length<=1099511627776) (hl:v.length<=u.length) (hg:0<=g/\g<=1048575)
 (h1:(g-1)*num v<=num u) :
 wmo prog 175 [.arr pre (.ints .i64 u) (some q),.one (.ints .i64 v),.one (.raw (.int .i64 g))] 0
  (.arr pre (.ints .i64 (fixd u.length (num u-settled (num u) (num v) g*num v))) (some q)) (.one (.raw (.int .i64 (settled (num u) (num v) g)))):=by
 refine wmo.run [] Go.Proofs.Tryz.func175 rfl rfl (fun t h=>h) ?_;simp only [Go.Proofs.Tryz.f175];refine rgR ?_;refine vxs [1,2,12,13] (fun x:Nat×List Int×Int=>[(0,.arr pre (.ints .i64 x.2.1) (some q)),(7,.one (.raw (.int .i64 x.2.2))),(14,.one (.raw (.int .i64 x.1)))])
  (fun x=>x.1<=u.length/\x.2.1.length=u.length/\digits x.2.1/\(0<=x.2.2/\x.2.2<=1048575)/\num x.2.1-1048576 ^ x.1*x.2.2=num u-g*num (v.take x.1))
  (fun x=>u.length-x.1) (0,u,0)
  ⟨Nat.zero_le _,rfl,hu,by simp,by simp [num]⟩ ?_ ?_
 . refine rg ?_;exact StLe.weaken (by repeat' first | exact .nil | refine .cons (by first | exact .refl _ | exact .any _) ?_) rfl
 rintro ⟨i,o,c⟩ ⟨hi,ho,hdo,hc,hn⟩;simp only at hi ho hdo hc hn;refine rg ?_;refine z08 (fun h=>?_) (fun h=>?_)
 . have hoi:=hdo.getD i;have hvi:=hv.getD i;have hprod:0<=g*v.getD i 0/\g*v.getD i 0<=1048575*1048575:=⟨Int.mul_nonneg hg.1 hvi.1,Int.mul_le_mul hg.2 hvi.2 hvi.1 (by decide)⟩
   have key:∀ s:Int,s=o.getD i 0-c-g*v.getD i 0->num (o.set i (s % 1048576))-1048576 ^ (i+1)*(0-s / 1048576)=num u-g*num (v.take (i+1)):=fun s hs=>by
    have h1:=vks (o:=o) (i:=i) (by omega) s;rw [w4d];rw [hs] at h1 ⊢
    grind
   refine rg ?_;refine z08 (fun h1=>?_) (fun h1=>?_)
   . refine rg ?_;generalize hp:g*v.getD i 0=p at *;refine rg2 @vuf @v2y ?_
     exact ⟨(i+1,o.set i ((o.getD i 0-c-p) % 1048576),0-(o.getD i 0-c-p) / 1048576),
      ⟨by dsimp only;omega,by simpa using ho,hdo.set i (by omega),by dsimp only;omega,key _ rfl⟩,by dsimp only;omega,StLe.weaken (by repeat' first | exact .nil | refine .cons (by first | exact .refl _ | exact .any _) ?_) rfl⟩
   . have hv0:=vv7 (l:=v) (i:=i) (by omega);refine rg2 @vuf @v2y ?_
     exact ⟨(i+1,o.set i ((o.getD i 0-c) % 1048576),0-(o.getD i 0-c) / 1048576),
      ⟨by dsimp only;omega,by simpa using ho,hdo.set i (by omega),by dsimp only;omega,key _ (by rw [hv0];simp)⟩,by dsimp only;omega,StLe.weaken (by repeat' first | exact .nil | refine .cons (by first | exact .refl _ | exact .any _) ?_) rfl⟩
 . have hip:i=u.length:=by omega
   subst hip;rw [zvp hl] at hn;have hlt:=xxq hdo;have hnn:=num_nonneg hdo;have hvn:=num_nonneg hv;have hvl:=xxq hv;rw [ho] at hlt;refine rg ?_;refine z08 (fun hc0=>?_) (fun hc0=>?_)
   . subst hc0
     have hs:settled (num u) (num v) g=g:=by
      unfold settled;rw [if_neg];simp at hn;omega
     refine rg ?_;refine ⟨?_,rfl,rfl,rfl,?_⟩
     . rw [hs,<-yc5 hdo ho (by simpa using hn)];rfl
     . rw [hs];exact ⟨_,rfl,.one (.refl _)⟩
   . have hlow:num u-g*num v<0:=by
      have hp:(1048576:Int) ^ u.length<=1048576 ^ u.length*c:=by
       have:=Int.mul_le_mul_of_nonneg_left (show (1:Int)<=c by omega) (Int.le_of_lt (zou u.length))
       rwa [Int.mul_one] at this
      omega
     have hs:settled (num u) (num v) g=g-1:=by
      unfold settled;rw [if_pos];omega
     rw [hs]
     have hgm:(g-1)*num v=g*num v-num v:=by rw [Int.sub_mul,Int.one_mul]
     refine rg ?_
     have hbig:num o+num v=num u-(g-1)*num v+1048576 ^ u.length:=by
      have hc1:c=1:=by
       rcases Int.lt_or_gt_of_ne hc0 with h4 | h4
       . omega
       . rcases Int.lt_or_le 1 c with h5 | h5
         . have hp:(1048576:Int) ^ u.length*2<=1048576 ^ u.length*c:=Int.mul_le_mul_of_nonneg_left (by omega) (Int.le_of_lt (zou u.length));have hvu:(1048576:Int) ^ v.length<=1048576 ^ u.length:=wqr hl;omega
         . omega
      subst hc1;omega
     refine vxs [1,2,47,48] (fun x:Nat×List Int×Int=>[(0,.arr pre (.ints .i64 x.2.1) (some q)),(10,.one (.raw (.int .i64 x.2.2))),(49,.one (.raw (.int .i64 x.1)))])
      (fun x=>x.1<=u.length/\x.2.1.length=u.length/\digits x.2.1/\(0<=x.2.2/\x.2.2<=1)/\num x.2.1+1048576 ^ x.1*x.2.2=num o+num (v.take x.1))
      (fun x=>u.length-x.1) (0,o,0)
      ⟨Nat.zero_le _,ho,hdo,by simp,by simp [num]⟩ ?_ ?_
     . refine rg ?_;exact StLe.weaken (by repeat' first | exact .nil | refine .cons (by first | exact .refl _ | exact .any _) ?_) rfl
     rintro ⟨i,r,d⟩ ⟨hi',hr,hdr,hd,hn'⟩;simp only at hi' hr hdr hd hn';refine rg ?_;refine z08 (fun h=>?_) (fun h=>?_)
     . have hri:=hdr.getD i;have hvi:=hv.getD i
       have key:∀ s:Int,s=d+r.getD i 0+v.getD i 0->num (r.set i (s % 1048576))+1048576 ^ (i+1)*(s / 1048576)=num o+num (v.take (i+1)):=fun s hs=>by
        rw [vks (by omega) s,w4d,hs]
        grind
       refine rg ?_;refine z08 (fun h1=>?_) (fun h1=>?_)
       . refine rg2 @vuf @v2y ?_
         exact ⟨(i+1,r.set i ((d+r.getD i 0+v.getD i 0) % 1048576),(d+r.getD i 0+v.getD i 0) / 1048576),
          ⟨by dsimp only;omega,by simpa using hr,hdr.set i (by omega),by dsimp only;omega,key _ rfl⟩,by dsimp only;omega,StLe.weaken (by repeat' first | exact .nil | refine .cons (by first | exact .refl _ | exact .any _) ?_) rfl⟩
       . have hv0:=vv7 (l:=v) (i:=i) (by omega);refine rg2 @vuf @v2y ?_
         exact ⟨(i+1,r.set i ((d+r.getD i 0) % 1048576),(d+r.getD i 0) / 1048576),
          ⟨by dsimp only;omega,by simpa using hr,hdr.set i (by omega),by dsimp only;omega,key _ (by omega)⟩,by dsimp only;omega,StLe.weaken (by repeat' first | exact .nil | refine .cons (by first | exact .refl _ | exact .any _) ?_) rfl⟩
     . have hip:i=u.length:=by omega
       subst hip;rw [zvp hl] at hn';have hlt':=xxq hdr;have hnn':=num_nonneg hdr;rw [hr] at hlt'
       have hd1:d=1:=by
        rcases Int.le_iff_eq_or_lt.1 hd.2 with h4 | h4
        . exact h4
        . have:d=0:=by omega
          subst this;omega
       subst hd1;refine rg ?_;refine ⟨?_,rfl,rfl,rfl,?_⟩
       . rw [<-yc5 hdr hr (by omega)];rfl
       . exact ⟨_,rfl,.one (.refl _)⟩
theorem xu8 {W V g:Int} (h1:(g-1)*V<=W) (h2:W<(g+1)*V) (_hV:0<V) (hW:0<=W) (hg:0<=g/\g<=1048575) :
 0<=settled W V g/\settled W V g<=1048575/\settled W V g*V<=W/\W<(settled W V g+1)*V:=by
 unfold settled
 split
 . rename_i h;refine ⟨?_,by omega,h1,by rw [show g-1+1=g by omega];exact h⟩
   rcases Int.lt_or_le 0 g with h3 | h3
   . omega
   . have:g=0:=by omega
     subst this;omega
 . exact ⟨hg.1,hg.2,by omega,h2⟩
theorem y1l (w v:List Int) (i k:Nat) (g:Int) (hw:digits w) (hv:digits v) (hk:k<=1099511627776) (hi:i+k<=w.length) (hl:v.length<=k) (hg:0<=g/\g<=1048575)
 (h1:(g-1)*num v<=num ((w.drop i).take k)) :
 vpg prog 175 [.any,.one (.ints .i64 v),.one (.raw (.int .i64 g))] 0 (.wn (.ints .i64 w) i k)
  (.wn (.ints .i64 (fixd k (num ((w.drop i).take k)-settled (num ((w.drop i).take k)) (num v) g*num v))) i k) (.one (.raw (.int .i64 (settled (num ((w.drop i).take k)) (num v) g)))):=fun pre q=>by
 have hlen:((w.drop i).take k).length=k:=by simp;omega
 have h:=yfv pre q ((w.drop i).take k) v g ((hw.drop i).take k) hv (by omega) (by omega) hg h1;rw [hlen] at h;exact h
end Go.Slot.T
namespace Go.Slot.T
open Go Go.RowKit Go.Slot
open Go.Proofs.Tryz (prog)
set_option maxRecDepth 10000
set_option maxHeartbeats 8000000
theorem xjz (a b:List Int) (ha:digits a) (na:norm a) (hb:digits b) (nb:norm b) (la:a.length<=1073741824) (lb:b.length<=1073741824) (hlt:num a<num b) :
 yn2 prog 118 [.one (.ints .i64 a),.one (.ints .i64 b)] (.tup [.one (.ints .i64 (dig (num a / num b).toNat)),.one (.ints .i64 (dig (num a % num b).toNat))]):=by
 refine yn2.run [] Go.Proofs.Tryz.func118 rfl rfl ?_;simp only [Go.Proofs.Tryz.f118];refine rgR ?_;refine v1h (xxj a b ha na hb nb (by omega) (by omega)) ?_;refine rg ?_;refine z08 (fun h=>?_) (fun h=>?_)
 . refine rg ?_;refine v1h (yud a (by omega)) ?_;refine rg ?_;refine ⟨_,rfl,?_⟩;have h0:=num_nonneg ha;rw [Int.ediv_eq_zero_of_lt h0 hlt,Int.emod_eq_of_lt h0 hlt,<-yke ha na,show (0:Int).toNat=0 from rfl,ylp];exact .tup (.cons (.one (.zrt _)) (.cons (.refl _) .nil))
 . exact absurd (by unfold ord;rw [if_pos hlt];decide) h
theorem vkh (a b:List Int) (ha:digits a) (na:norm a) (hb:digits b) (nb:norm b) (la:a.length<=1073741824) (lb:b.length=1) (hle:num b<=num a) :
 yn2 prog 118 [.one (.ints .i64 a),.one (.ints .i64 b)] (.tup [.one (.ints .i64 (dig (num a / num b).toNat)),.one (.ints .i64 (dig (num a % num b).toNat))]):=by
 have hord:¬ord (num a) (num b)<0:=by unfold ord;rw [if_neg (by omega)];split<;>decide
 have hb0:=hb.getD 0;have hbp:=norm.pos hb nb (fun e=>by rw [e] at lb;cases lb)
 have hbn:num b=b.getD 0 0:=by
  match b,lb with
  | [d],_=>simp [num]
 refine yn2.run [] Go.Proofs.Tryz.func118 rfl rfl ?_;simp only [Go.Proofs.Tryz.f118];refine rgR ?_;refine v1h (xxj a b ha na hb nb (by omega) (by omega)) ?_;refine rg ?_;refine z08 (fun h=>absurd h hord) (fun _=>?_);refine rg ?_;refine z08 (fun h=>?_) (fun h=>absurd (by omega) h);refine rg ?_;refine v1h (yak a _ ha (by omega) (by omega)) ?_;refine rg ?_;have hr0:0<=num a % b.getD 0 0:=Int.emod_nonneg _ (by omega);have hr1:num a % b.getD 0 0<b.getD 0 0:=Int.emod_lt_of_pos _ (by omega);refine v1h (xam [num a % b.getD 0 0] (by simp)) ?_;refine rg ?_;refine ⟨_,rfl,?_⟩;have hd:digits [num a % b.getD 0 0]:=digits.cons (by omega) digits.nil
 have:=xrr (L:=[num a % b.getD 0 0]) (n:=num a % num b) hd (by rw [hbn];simp [num])
 simp only [List.length_cons,List.length_nil,Nat.zero_add] at this;rw [this,hbn];exact .tup (.cons (.refl _) (.cons (.refl _) .nil))
end Go.Slot.T
