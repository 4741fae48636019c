/- The proof, part R27: Ie, Id, If, Ii, Og, Nc, Na. -/
import Derived.Test.YtmegdbbbllffkaaGreatDoorR26
import Derived.Test.YtmegdbbbllffkaaGreatDoorR23
import Derived.Test.YtmegdbbbllffkaaGreatDoorChecked
namespace Go.Hp.T
open Go Go.RowKit Go.Slot Go.Hp
set_option maxRecDepth 10000
variable {α:Type} {i:Nat}
inductive Ex where
 | mk (op n:Int) (unit name:ByteArray) (args:List Ex)
def Ex.op:Ex->Int | .mk o _ _ _ _=>o
def Ex.n:Ex->Int | .mk _ n _ _ _=>n
def Ex.unit:Ex->ByteArray | .mk _ _ u _ _=>u
def Ex.name:Ex->ByteArray | .mk _ _ _ s _=>s
def Ex.args:Ex->List Ex | .mk _ _ _ _ l=>l
def Ex.zero:Ex:=.mk 0 0 ⟨#[]⟩ ⟨#[]⟩ []
instance:Inhabited Ex:=⟨Ex.zero⟩
theorem Ex.ind {Q:Ex->Prop} (h:∀ x:Ex,(∀ y∈x.args,Q y)->Q x):∀ x,Q x
 | .mk o n u s l=>h _ (fun y _hy=>Ex.ind h y)
termination_by x=>SizeOf.sizeOf x
decreasing_by
 have:=List.sizeOf_lt_of_mem (show y∈l from _hy)
 simp only [Ex.mk.sizeOf_spec];omega
mutual
def Ex.cells:Ex->List Cell
 | .mk o n u s l=>[cI o,cI n,cS u,cS s,.sl 5 (Ex.wif l)]
def Ex.wif:List Ex->List (List Cell)
 | []=>[]
 | x::l=>Ex.cells x::Ex.wif l
end
theorem Ex.v1u:∀ l:List Ex,Ex.wif l=l.map Ex.cells
 | []=>by rw [Ex.wif];rfl
 | x::l=>by rw [Ex.wif,Ex.v1u l];rfl
abbrev exC (x:Ex):List Cell:=[cI x.op,cI x.n,cS x.unit,cS x.name,.sl 5 (x.args.map Ex.cells)]
theorem Ex.vle (x:Ex):Ex.cells x=exC x:=by
 cases x with
 | mk o n u s l=>rw [Ex.cells,Ex.v1u];rfl
theorem getD_map' {α β:Type} [Inhabited α] (f:α->β) (d:β):∀(l:List α) (i:Nat),i<l.length->(l.map f).getD i d=f (l.getD i default)
 | [],_,h=>by simp at h
 | _::_,0,_=>rfl
 | _::l,i+1,h=>by simpa using getD_map' f d l i (by simpa using h)
theorem getD_map {β:Type} [Inhabited α] {f:α->β} {d:β} {l:List α} (h:i<l.length):(l.map f).getD i d=f (l.getD i default):=getD_map' f d l i h
attribute [go_sem] getD_map Ex.vle
theorem w4t [Inhabited α] {l:List α} (h:i<l.length):l.getD i default∈l:=by
 have:l.getD i default=l[i]:=by simp [h]
 rw [this];exact List.getElem_mem h
theorem xqz [Inhabited α] {l:List α} (h:i<l.length):l.drop i=l.getD i default::l.drop (i+1):=by
 have:l.getD i default=l[i]:=by simp [h]
 rw [this];exact List.drop_eq_getElem_cons h
theorem z4f [Inhabited α] {l:List α} (h:i<l.length):l.take (i+1)=l.take i++[l.getD i default]:=by
 have:l.getD i default=l[i]:=by simp [h]
 rw [this,List.take_add_one];simp [h]
inductive Ex.Sm:Ex->Prop
 | mk (x:Ex) (hl:x.args.length<=1073741824) (hu:x.unit.size<=1073741824) (hs:x.name.size<=1073741824) (h:∀ y∈x.args,Ex.Sm y):Ex.Sm x
theorem Ex.Sm.len {x:Ex} (h:x.Sm):x.args.length<=1073741824:=by cases h;assumption
theorem Ex.Sm.u {x:Ex} (h:x.Sm):x.unit.size<=1073741824:=by cases h;assumption
theorem Ex.Sm.s {x:Ex} (h:x.Sm):x.name.size<=1073741824:=by cases h;assumption
theorem Ex.Sm.arg {x:Ex} (h:x.Sm):∀ y∈x.args,y.Sm:=by cases h;assumption
def isWord (s:ByteArray):Bool:=seq s ⟨#[110,111,116]⟩||seq s ⟨#[105,102]⟩||seq s ⟨#[116,104,101,110]⟩||seq s ⟨#[101,108,115,101]⟩||seq s ⟨#[97,110,100]⟩||seq s ⟨#[111,114]⟩||seq s ⟨#[108,111,111,107]⟩||seq s ⟨#[109,105,110]⟩||seq s ⟨#[109,97,120]⟩||seq s ⟨#[105,110,116,111]⟩||seq s ⟨#[116,111]⟩||seq s ⟨#[97,115]⟩
def isNamed (s:ByteArray):Bool:=isName s&&!isWord s
def zgj (o:Int):ByteArray:=bif decide (o=6) then ⟨#[43]⟩ else bif decide (o=7) then ⟨#[45]⟩ else bif decide (o=8) then ⟨#[42]⟩ else bif decide (o=9) then ⟨#[47]⟩ else bif decide (o=12) then ⟨#[60]⟩ else bif decide (o=13) then ⟨#[61]⟩ else bif decide (o=14) then ⟨#[97,110,100]⟩ else bif decide (o=15) then ⟨#[111,114]⟩ else ⟨#[]⟩
def isOp (o:Int):Bool:=decide (o=6)||decide (o=7)||decide (o=8)||decide (o=9)||decide (o=12)||decide (o=13)||decide (o=14)||decide (o=15)
mutual
def Ex.cnt:Ex->Int->Int->Bool×Int
 | .mk _ _ _ _ l,n,lv=>bif decide (200<n+1)||decide (20<lv) then (false,n+1) else Ex.cntL l (n+1) (lv+1)
def Ex.cntL:List Ex->Int->Int->Bool×Int
 | [],n,_=>(true,n)
 | y::l,n,lv=>match Ex.cnt y n lv with
  | (false,m)=>(false,m)
  | (true,m)=>Ex.cntL l m lv
end
theorem Ex.vrw (x:Ex) (n lv:Int):x.cnt n lv=bif decide (200<n+1)||decide (20<lv) then (false,n+1) else Ex.cntL x.args (n+1) (lv+1):=by cases x;rw [Ex.cnt];rfl
theorem Ex.v24:∀(x:Ex) (n lv k:Int),x.cnt n lv=(true,k)->n<k/\k<=200:=by
 have hL:∀ l:List Ex,(∀ y∈l,∀(n lv k:Int),y.cnt n lv=(true,k)->n<k/\k<=200)->∀ n lv k:Int,n<=200->Ex.cntL l n lv=(true,k)->n<=k/\k<=200:=by
  intro l
  induction l with
  | nil=>intro _ n lv k hn h;rw [Ex.cntL] at h;cases h;omega
  | cons y l ih=>
   intro hy n lv k hn h;rw [Ex.cntL] at h;split at h
   . cases h
   . rename_i m hm;have h1:=hy y (by simp) _ _ _ hm;have h2:=ih (fun z hz=>hy z (by simp [hz])) _ _ _ h1.2 h;omega
 refine Ex.ind (fun x ih n lv k h=>?_);rw [Ex.vrw] at h;by_cases h1:200<n+1
 . simp [h1] at h
 . by_cases h2:20<lv
   . simp [h2] at h
   . simp only [h1,h2,decide_false,Bool.or_self,cond_false] at h
     have:=hL x.args ih _ _ _ (by omega) h
     omega
def yxn (x:Ex):Bool:=
 bif decide (x.op=0) then wku x.unit&&decide (0<=x.n)&&decide (x.n<=1099511627776)&&decide (x.name.size=0)&&decide ((x.args.length:Int)=0) else
 bif decide (¬x.n=0)||decide (¬x.unit.size=0) then false else
 bif decide (x.op=1) then isNamed x.name&&decide ((x.args.length:Int)=0) else
 bif decide (x.op=2) then isNamed x.name&&decide ((x.args.length:Int)=1) else
 bif decide (x.op=3) then isNamed x.name&&decide (1<=(x.args.length:Int))&&decide ((x.args.length:Int)<=6) else
 bif decide (x.op=4) then decide (x.name.size=0)&&decide ((x.args.length:Int)=1) else
 bif decide (x.op=5) then decide (x.name.size=0)&&decide ((x.args.length:Int)=3) else
 bif decide (x.op=10)||decide (x.op=11) then decide (x.name.size=0)&&decide ((x.args.length:Int)=2) else
 isOp x.op&&decide (x.name.size=0)&&decide ((x.args.length:Int)=2)
mutual
def Ex.shaped:Ex->Bool
 | .mk o n u s l=>yxn (.mk o n u s l)&&Ex.zpg l
def Ex.zpg:List Ex->Bool
 | []=>true
 | y::l=>Ex.shaped y&&Ex.zpg l
end
theorem Ex.xcf:∀ l:List Ex,Ex.zpg l=l.all Ex.shaped
 | []=>by rw [Ex.zpg];rfl
 | y::l=>by rw [Ex.zpg,Ex.xcf l];rfl
theorem Ex.xg3 (x:Ex):x.shaped=(yxn x&&x.args.all Ex.shaped):=by cases x;rw [Ex.shaped,Ex.xcf];rfl
def xub (x:Ex):Bool:=(x.cnt 0 1).1&&x.shaped
def idxF {α:Type} (p:α->Bool):List α->Int
 | []=>-1
 | x::l=>bif p x then 0 else bif decide (idxF p l = -1) then -1 else idxF p l+1
theorem yag {α:Type} (p:α->Bool):∀ l:List α,-1<=idxF p l
 | []=>by unfold idxF;omega
 | x::l=>by
  have:=yag p l
  unfold idxF
  cases p x with
  | true=>simp
  | false=>
   by_cases h:idxF p l = -1
   . simp [h]
   . simp [h];omega
theorem wb5 {α:Type} (p:α->Bool):∀ l:List α,decide (0<=idxF p l)=l.any p
 | []=>rfl
 | x::l=>by
  have h2:=wb5 p l;have h3:=yag p l;unfold idxF;rw [List.any_cons,<-h2]
  cases p x with
  | true=>simp
  | false=>
   by_cases h:idxF p l = -1
   . simp [h]
   . simp [h];omega
theorem yo6 {α:Type} [Inhabited α] {p:α->Bool}:∀{l:List α} {i:Nat},i<=l.length->(∀ j,j<i->p (l.getD j default)=false)->(i=l.length->idxF p l = -1)/\(i<l.length->p (l.getD i default)=true->idxF p l=i)
 | [],i,hi,_=>by simp at hi;subst hi;exact ⟨fun _=>rfl,fun h=>by simp at h⟩
 | x::l,0,_,_=>⟨fun h=>by simp at h,fun _ h=>by unfold idxF;have:p x=true:=h;rw [this];rfl⟩
 | x::l,i+1,hi,hj=>by
  have h0:p x=false:=hj 0 (by omega);obtain ⟨h1,h2⟩:=yo6 (l:=l) (i:=i) (by simpa using hi) (fun j hj'=>by simpa using hj (j+1) (by omega));unfold idxF;rw [h0];refine ⟨fun h=>?_,fun h hp=>?_⟩
  . rw [h1 (by simpa using h)];rfl
  . rw [h2 (by simpa using h) (by simpa using hp)]
    have:¬((i:Int) = -1):=by omega
    simp [this]
end Go.Hp.T
namespace Go.Hp
open Go Go.RowKit Go.Slot
variable {P:Program} {Γ:List (Nat×List Cell)} {e:List SB} {G:List (Nat×List GhH)}
variable {σ σ':List SV} {η:List SB}
def wco (n m:Nat) (σ:List SV) (η:List SB):Bool:=(σ.all fun x=>(vp6 x).all fun b=>Nat.blt b m)&&(((η.take m).drop n).all fun x=>(z0y x).all fun b=>Nat.blt b m)
theorem StH.cutE (m:Nat) (hm:e.length<=m) (he:η.take e.length=e) (h:wco e.length m σ η=true):StH Γ e σ η σ (η.take m):=by
 unfold wco at h;rw [Bool.and_eq_true,List.all_eq_true,List.all_eq_true] at h;refine StH.cut hm (fun i x hx b hb=>?_) (fun i x hi hx=>?_)
 . have:=h.1 x (List.mem_of_getElem? hx)
   rw [List.all_eq_true] at this;simpa using this b hb
 . by_cases hie:i<e.length
   . left
     rw [<-he,List.getElem?_take_of_lt hie];exact hx
   . right
     intro b hb
     have hmem:x∈(η.take m).drop e.length:=by
      have:((η.take m).drop e.length)[i-e.length]? = some x:=by
       rw [List.getElem?_drop,show e.length+(i-e.length)=i from by omega,List.getElem?_take_of_lt hi];exact hx
      exact List.mem_of_getElem? this
     have:=h.2 x hmem
     rw [List.all_eq_true] at this;simpa using this b hb
theorem StH.zx4 (he:η.take e.length=e) (h:(σ.all fun x=>(vp6 x).all fun b=>Nat.blt b e.length)=true) (hσ:σ=σ'):StH Γ e σ η σ' e:=by
 have hc:wco e.length e.length σ η=true:=by
  unfold wco;rw [h,Bool.true_and,List.all_eq_true];intro x hx;rw [List.drop_eq_nil_of_le (by rw [List.length_take];omega)] at hx
  cases hx
 have:=StH.cutE (Γ:=Γ) (σ:=σ) e.length (Nat.le_refl _) he hc
 rw [he] at this;exact hσ▸this
def swLE (n i j:Nat) (η:List SB):List SB:=(List.range η.length).map fun k=>bif Nat.blt k n then gB η k else swSB i j (gB η (sw i j k))
theorem StH.wj3 {i j:Nat} (he:η.take e.length=e) (hi:e.length<=i) (hj:e.length<=j) (hil:i<η.length) (hjl:j<η.length):StH Γ e σ η (σ.map (swSV i j)) (swLE e.length i j η):=by
 refine StH.swap hi hj hil hjl (fun b x hb=>?_) (by simp [swLE]);have hbl:b<η.length:=(List.getElem?_eq_some_iff.1 hb).1;by_cases hbe:b<e.length
 . right
   refine ⟨by rw [<-he,List.getElem?_take_of_lt hbe];exact hb,?_⟩;unfold swLE;rw [List.getElem?_map,List.getElem?_range hbl]
   have hbt:Nat.blt b e.length=true:=by simpa using hbe
   have hg:gB η b=x:=by unfold gB;rw [hb];rfl
   simp only [Option.map_some,hbt,cond_true,hg]
 . left
   have hsw:e.length<=sw i j b:=by unfold sw;split<;>(try split)<;>omega
   unfold swLE;rw [List.getElem?_map,List.getElem?_range (wny hil hjl hbl)]
   have h1:Nat.blt (sw i j b) e.length=false:=by
    have:¬(sw i j b<e.length):=by omega
    cases hh:Nat.blt (sw i j b) e.length with
    | false=>rfl
    | true=>exact absurd (by simpa using hh) this
   have hg:gB η b=x:=by unfold gB;rw [hb];rfl
   simp only [Option.map_some,xfs,h1,cond_false,hg]
theorem StH.xuw {η':List SB} (ks:List Nat) (i j m:Nat) (he:η.take e.length=e) (he':(swLE e.length i j η).take e.length=e) (hi:Nat.ble e.length i=true) (hj:Nat.ble e.length j=true) (hm:Nat.ble e.length m=true) (hil:Nat.blt i η.length=true) (hjl:Nat.blt j η.length=true)
 (h:wco e.length m ((wue ks 0 σ).map (swSV i j)) (swLE e.length i j η)=true) (hk:StH Γ e ((wue ks 0 σ).map (swSV i j)) ((swLE e.length i j η).take m) σ' η'):StH Γ e σ η σ' η':=
 StH.trans (StH.only ks) (StH.trans (StH.wj3 he (by simpa using hi) (by simpa using hj) (by simpa using hil) (by simpa using hjl)) (StH.trans (StH.cutE m (by simpa using hm) he' h) hk))
def dzS (η:List SB):SV->SV×List Nat
 | .one h=>match v9i η h with
  | some (c,bs)=>(.one (.dat c),bs)
  | none=>(.one h,[])
 | x=>(x,[])
def dzL (η:List SB):List SV->List SV
 | []=>[]
 | x::l=>(dzS η x).1::dzL η l
def dzB (η:List SB):List SV->List Nat
 | []=>[]
 | x::l=>(dzS η x).2++dzB η l
theorem z0c {x:SV}:∀ b∈(dzS η x).2,vfv (gB η b)=true:=by
 intro b hb;unfold dzS at hb;split at hb
 . split at hb
   . rename_i hd;exact xee hd b hb
   . cases hb
 . cases hb
theorem wjv {η:List SB}:∀{l:List SV},∀ b∈dzB η l,vfv (gB η b)=true
 | [],b,hb=>by cases hb
 | x::l,b,hb=>by
  rcases List.mem_append.1 hb with h | h
  . exact z0c b h
  . exact wjv b h
theorem yk5 {Mo:Nat->Nat->Prop} {ρ:Nat->Value} {η η':List SB} {w:World} (hI:HInv Γ Mo ρ η' w):∀{l:List SV} {vs:List Value},(∀ b∈dzB η l,gB η' b=frzB (gB η b))->SRL η' ρ (MX Mo ρ η') w vs l->SRL η' ρ (MX Mo ρ η') w vs (dzL η l)
 | [],[],_,_=>trivial
 | [],_::_,_,h=>h.elim
 | _::_,[],_,h=>h.elim
 | x::l,v::vs,hf,h=>by
  refine ⟨?_,yk5 hI (fun b hb=>hf b (List.mem_append.2 (.inr hb))) h.2⟩;have h1:=h.1
  cases x with
  | one y=>
   cases hd:v9i η y with
   | none=>
    have:dzS η (.one y)=(.one y,[]):=by unfold dzS;simp only [hd]
    rw [this];exact h1
   | some p=>
    obtain ⟨c,bs⟩:=p
    have he:dzS η (.one y)=(.one (.dat c),bs):=by unfold dzS;simp only [hd]
    rw [he];exact ydh hI hd (fun b hb=>hf b (List.mem_append.2 (.inl (by rw [he];exact hb)))) h1
  | _=>exact h1
theorem vfe.frz {f:FuncId} {η η':List SB} {l:List SV} {res:SV} (h:vfe Γ P f (appL (frzE η (dzB η l)) η) (dzL η l) η' res):vfe Γ P f η l η' res:=by
 refine ⟨h.1,fun Mo ρ w vs hI hsr=>?_⟩;obtain ⟨h1,_,h3⟩:=Went.frz (dzB η l) η hI rfl wjv (fun _=>.inl rfl);refine (h.2 Mo ρ w vs h1.inv (yk5 h1.inv h3 (hsr.mv h1.mv))).mono ?_;rintro x w' ⟨v,ρ',rfl,hw,hv⟩;exact ⟨v,ρ',rfl,h1.trans hw,hv⟩
def envM {α:Type} (C:α->SV):List (ByteArray×α)->List (Value×SV)
 | []=>[]
 | p::l=>(.string p.1,C p.2)::envM C l
def ycr {α:Type}:List (ByteArray×α)->ByteArray->Option α
 | [],_=>none
 | p::l,s=>bif seq s p.1 then some p.2 else ycr l s
def updF {α:Type}:List (ByteArray×α)->ByteArray->α->List (ByteArray×α)
 | [],s,v=>[(s,v)]
 | p::l,s,v=>bif seq s p.1 then (s,v)::l else p::updF l s v
theorem w1z {α:Type} (C:α->SV):∀ l:List (ByteArray×α),(envM C l).length=l.length
 | []=>rfl
 | _::l=>by rw [envM,List.length_cons,w1z C l];rfl
theorem wda {a b:ByteArray}:seq a b=seq b a:=by rw [z9f,z9f];exact decide_eq_decide.2 eq_comm
theorem vi5 {α:Type} {C:α->SV} {s:ByteArray}:∀{l:List (ByteArray×α)},zgw (envM C l) (.string s)=some ((ycr l s).map C)
 | []=>rfl
 | p::l=>by
  have ih:=vi5 (C:=C) (s:=s) (l:=l);simp only [envM,zgw,kEq,ycr];rw [ih]
  first
   | (cases seq s p.1<;>rfl)
   | (rw [wda];cases seq s p.1<;>rfl)
theorem z6j {α:Type} {C:α->SV} {s:ByteArray} {v:α}:∀{l:List (ByteArray×α)},updM (envM C l) (.string s) (C v)=some (envM C (updF l s v))
 | []=>rfl
 | p::l=>by
  have ih:=z6j (C:=C) (s:=s) (v:=v) (l:=l);simp only [envM,updM,kEq,updF];rw [ih]
  first
   | (cases seq s p.1<;>rfl)
   | (rw [wda];cases seq s p.1<;>rfl)
attribute [go_sem] vi5 w1z
end Go.Hp
namespace Go.Hp.T
open Go Go.RowKit Go.Slot Go.Hp
set_option maxRecDepth 10000
structure Dm where
 a:Int
 b:Int
 c:Int
 d:Int
 e:Int
 f:Int
deriving DecidableEq
variable {x:Dm} {T:List (ByteArray×Dm)}
def Dm.zero:Dm:=⟨0,0,0,0,0,0⟩
instance:Inhabited Dm:=⟨Dm.zero⟩
abbrev dmC (x:Dm):List Cell:=[cI x.a,cI x.b,cI x.c,cI x.d,cI x.e,cI x.f]
def bad9 (n:Int):Bool:=decide (n < -9)||decide (9<n)
def zmf (x:Dm):Bool:=!bad9 x.a&&!bad9 x.b&&!bad9 x.c&&!bad9 x.d&&!bad9 x.e&&!bad9 x.f
theorem vsc (h:zmf x=true):(-9<=x.a/\x.a<=9)/\(-9<=x.b/\x.b<=9)/\(-9<=x.c/\x.c<=9)/\(-9<=x.d/\x.d<=9)/\(-9<=x.e/\x.e<=9)/\(-9<=x.f/\x.f<=9):=by
 simp only [zmf,bad9,Bool.and_eq_true,Bool.not_eq_true',Bool.or_eq_false_iff,decide_eq_false_iff_not] at h;omega
def Dm.add (x y:Dm):Dm:=⟨x.a+y.a,x.b+y.b,x.c+y.c,x.d+y.d,x.e+y.e,x.f+y.f⟩
def Dm.sub (x y:Dm):Dm:=⟨x.a-y.a,x.b-y.b,x.c-y.c,x.d-y.d,x.e-y.e,x.f-y.f⟩
def yq5 (x:Dm):Dm×Int:=bif zmf x then (x,0) else (Dm.zero,3)
def dMul (x y:Dm):Dm×Int:=bif !zmf x||!zmf y then (Dm.zero,1) else yq5 (x.add y)
def dDiv (x y:Dm):Dm×Int:=bif !zmf x||!zmf y then (Dm.zero,1) else yq5 (x.sub y)
theorem v7r {y:Dm}:(decide (x.a=y.a)&&(decide (x.b=y.b)&&(decide (x.c=y.c)&&(decide (x.d=y.d)&&(decide (x.e=y.e)&&decide (x.f=y.f))))))=decide (x=y):=by
 cases x;cases y;simp only [<-Bool.decide_and,Dm.mk.injEq]
structure Ty where
 t:Bool
 d:Dm
deriving DecidableEq
def Ty.zero:Ty:=⟨false,Dm.zero⟩
instance:Inhabited Ty:=⟨Ty.zero⟩
def Ty.C (x:Ty):List Cell:=cB x.t::dmC x.d
abbrev tyC (x:Ty):List Cell:=[cB x.t,cI x.d.a,cI x.d.b,cI x.d.c,cI x.d.d,cI x.d.e,cI x.d.f]
theorem Ty.C_eq (x:Ty):x.C=tyC x:=rfl
attribute [go_sem] Ty.C_eq v7r
abbrev tyR (r:Ty×Int):AV:=.tup [.agg (tyC r.1),.one (cI r.2)]
abbrev tyS (r:Ty×Int):SV:=.tup [.agg ((tyC r.1).map .dat),.one (.dat (cI r.2))]
mutual
def Ex.xi4:Ex->Bool
 | .mk o _ _ _ l=>decide (o=3)||Ex.zcp l
def Ex.zcp:List Ex->Bool
 | []=>false
 | y::l=>Ex.xi4 y||Ex.zcp l
end
theorem Ex.vv8:∀ l:List Ex,Ex.zcp l=l.any Ex.xi4
 | []=>by rw [Ex.zcp];rfl
 | y::l=>by rw [Ex.zcp,Ex.vv8 l];rfl
theorem Ex.wd9 (x:Ex):x.xi4=(decide (x.op=3)||x.args.any Ex.xi4):=by cases x;rw [Ex.xi4,Ex.vv8];rfl
def xkg (a b r:Ty):Ty×Int:=bif a.t||b.t then (Ty.zero,13) else bif !decide (a.d=b.d) then (Ty.zero,14) else (r,0)
def zom (o:Int) (a b:Ty):Ty×Int:=bif a.t||b.t then (Ty.zero,13) else
 bif !decide ((bif decide (o=9) then dDiv a.d b.d else dMul a.d b.d).2=0) then (Ty.zero,14) else (⟨false,(bif decide (o=9) then dDiv a.d b.d else dMul a.d b.d).1⟩,0)
def xc3 (l:List Ty):Ty×Int:=bif l.any (fun t=>!t.t) then (Ty.zero,13) else (⟨true,Dm.zero⟩,0)
def envE (l:List (ByteArray×Dm)):List (Value×SV):=envM (fun d=>.agg ((dmC d).map .dat)) l
def x59 (T:List (ByteArray×Dm)) (s:ByteArray) (k:Ty):Ty×Int:=match ycr T s with
 | none=>(Ty.zero,11)
 | some d=>bif k.t then (Ty.zero,13) else bif !decide (k.d=Dm.zero) then (Ty.zero,14) else (⟨false,d⟩,0)
def wqq (T:List (ByteArray×Dm)) (o:Int) (nm:ByteArray) (ts:List Ty):Ty×Int:=
 bif decide (o=2) then x59 T nm (ts.getD 0 default) else
 bif decide (o=6)||decide (o=7)||decide (o=10)||decide (o=11) then xkg (ts.getD 0 default) (ts.getD 1 default) (ts.getD 0 default) else
 bif decide (o=12)||decide (o=13) then xkg (ts.getD 0 default) (ts.getD 1 default) ⟨true,Dm.zero⟩ else
 bif decide (o=8)||decide (o=9) then zom o (ts.getD 0 default) (ts.getD 1 default) else
 bif decide (o=5) then (bif !(ts.getD 0 default).t then (Ty.zero,13) else xkg (ts.getD 1 default) (ts.getD 2 default) (ts.getD 1 default)) else
 xc3 ts
structure Rw where
 k:Int
 v:Int
instance:Inhabited Rw:=⟨⟨0,0⟩⟩
def Rw.C (x:Rw):List Cell:=[cI x.k,cI x.v]
abbrev rwC (x:Rw):List Cell:=[cI x.k,cI x.v]
theorem Rw.C_eq (x:Rw):x.C=rwC x:=rfl
structure Tb where
 name:ByteArray
 unit:ByteArray
 rows:List Rw
instance:Inhabited Tb:=⟨⟨⟨#[]⟩,⟨#[]⟩,[]⟩⟩
def Tb.C (x:Tb):List Cell:=[cS x.name,cS x.unit,.sl 2 (x.rows.map Rw.C)]
abbrev tbC (x:Tb):List Cell:=[cS x.name,cS x.unit,.sl 2 (x.rows.map Rw.C)]
theorem Tb.C_eq (x:Tb):x.C=tbC x:=rfl
structure Vr where
 name:ByteArray
 d:Dm
instance:Inhabited Vr:=⟨⟨⟨#[]⟩,Dm.zero⟩⟩
def Vr.C (x:Vr):List Cell:=[cS x.name,cI x.d.a,cI x.d.b,cI x.d.c,cI x.d.d,cI x.d.e,cI x.d.f]
abbrev vrC (x:Vr):List Cell:=[cS x.name,cI x.d.a,cI x.d.b,cI x.d.c,cI x.d.d,cI x.d.e,cI x.d.f]
theorem Vr.C_eq (x:Vr):x.C=vrC x:=rfl
attribute [go_sem] Rw.C_eq Tb.C_eq Vr.C_eq
def inT (n:Int):Bool:=decide (-1099511627776<=n)&&decide (n<=1099511627776)
def rowAt (l:List Rw) (i:Nat):Bool:=inT (l.getD i default).k&&inT (l.getD i default).v&&!(decide (0<(i:Int))&&decide ((l.getD i default).k<=(l.getD (i-1) default).k))
def zx5 (l:List Rw):Bool:=(List.range l.length).all (rowAt l)
theorem ye8 {p:Nat->Bool} {n:Nat}:(∀ j,j<n->p j=true)->(List.range n).all p=true:=fun h=>by
 rw [List.all_eq_true];exact fun x hx=>h x (List.mem_range.1 hx)
theorem zch {p:Nat->Bool} {n j:Nat} (hj:j<n) (h:p j=false):(List.range n).all p=false:=by
 cases ha:(List.range n).all p with
 | false=>rfl
 | true=>rw [List.all_eq_true.1 ha j (List.mem_range.2 hj)] at h;cases h
def zi4 (uerr:ByteArray->Int) (t:Tb):Bool:=!decide (¬uerr t.unit=0)&&isName t.name&&!decide (100<(t.rows.length:Int))&&zx5 t.rows
theorem xrx {p:Nat->Prop} {i:Nat} (h:∀ j,j<i->p j) (hi:p i):∀ j,j<i+1->p j:=fun j hj=>by
 rcases Nat.lt_or_eq_of_le (Nat.le_of_lt_succ hj) with h2 | h2
 . exact h j h2
 . rw [h2];exact hi
theorem wgv {s:ByteArray}:zgw (envE T) (.string s)=some ((ycr T s).map fun d=>.agg ((dmC d).map .dat)):=vi5
theorem wdv (T:List (ByteArray×Dm)):(envE T).length=T.length:=w1z _ T
theorem wn3 {s:ByteArray} {d:Dm}:updM (envE T) (.string s) (.agg [.dat (cI d.a),.dat (cI d.b),.dat (cI d.c),.dat (cI d.d),.dat (cI d.e),.dat (cI d.f)])=some (envE (updF T s d)):=z6j (C:=fun d=>.agg ((dmC d).map .dat))
attribute [go_sem] wgv wdv wn3
end Go.Hp.T
namespace Go.Hp
open Go Go.RowKit Go.Slot
variable {P:Program} {Γ:List (Nat×List Cell)}
mutual
def uz (k:Nat):Cell->Cell
 | .zc=>.sl k []
 | .sl n rows=>.sl n (uzLL k rows)
 | c=>c
def uzL (k:Nat):List Cell->List Cell
 | []=>[]
 | c::l=>uz k c::uzL k l
def uzLL (k:Nat):List (List Cell)->List (List Cell)
 | []=>[]
 | r::l=>uzL k r::uzLL k l
end
theorem x7g (k:Nat):∀ l:List Cell,uzL k l=l.map (uz k)
 | []=>by rw [uzL];rfl
 | _::l=>by rw [uzL,x7g k l];rfl
theorem yu4 (k:Nat):∀ l:List (List Cell),uzLL k l=l.map (uzL k)
 | []=>by rw [uzLL];rfl
 | _::l=>by rw [uzLL,yu4 k l];rfl
theorem xcy (k:Nat) (l:List Cell):(uzL k l).length=l.length:=by rw [x7g,List.length_map]
theorem yg1 (k:Nat) (l:List (List Cell)):(uzLL k l).length=l.length:=by rw [yu4,List.length_map]
theorem w5t (k:Nat) (l:List (List Cell)) (i:Nat) (h:i<(uzLL k l).length):(uzLL k l)[i]=uzL k (l[i]'(by rw [<-yg1 k];exact h)):=by
 simp only [yu4,List.getElem_map]
theorem ydn (k:Nat) (l:List Cell) (i:Nat) (h:i<(uzL k l).length):(uzL k l)[i]=uz k (l[i]'(by rw [<-xcy k];exact h)):=by
 simp only [x7g,List.getElem_map]
theorem RdC.uz {M:Nat->Nat->Prop} {w:World} {v:Value} {c:Cell} (k:Nat) (h:RdC M w v c):RdC M w v (uz k c):=by
 induction h with
 | raw h=>simp only [Go.Hp.uz];exact .raw h
 | zc=>rw [Go.Hp.uz];exact RdC.zcSl k
 | nn=>simp only [Go.Hp.uz];exact .nn
 | fnp h hp=>simp only [Go.Hp.uz];exact .fnp h hp
 | ints b off hl hc ha h=>simp only [Go.Hp.uz];exact .ints b off hl hc ha h
 | @sl a len cap n rows b off u hl hc ha hn hm hr ih =>
  rw [Go.Hp.uz];refine .sl b off u (by rw [yg1];exact hl) hc (fun hne=>ha (fun he=>hne (by rw [he];simp only [yu4,List.map_nil]))) (fun r hr'=>?_) (fun i hi j hj=>hm i (by rw [<-yg1 k];exact hi) j hj) (fun i hi j hj=>?_)
  . rw [yu4] at hr';obtain ⟨r0,h0,rfl⟩:=List.mem_map.1 hr';rw [xcy];exact hn _ h0
  . have hi2:i<rows.length:=by rw [<-yg1 k];exact hi
    have e1:((uzLL k rows)[i])=uzL k rows[i]:=w5t k rows i hi
    have hj2:j<rows[i].length:=by rw [<-xcy k,<-e1];exact hj
    have e2:((uzLL k rows)[i])[j]=Go.Hp.uz k (rows[i][j]):=by
     have:=ydn k rows[i] j (by rw [xcy];exact hj2)
     rw [<-this];congr 1
    rw [e2];exact ih i hi2 j hj2
theorem RdD.uz {M:Nat->Nat->Prop} {w:World} (k:Nat):∀{vs:List Value} {cs:List Cell},RdD M w vs cs->RdD M w vs (uzL k cs)
 | [],[],h=>by rw [uzL];exact h
 | _::_,[],h=>h.elim
 | [],_::_,h=>h.elim
 | _::_,_::_,h=>by rw [uzL];exact ⟨RdC.uz k h.1,RdD.uz k h.2⟩
theorem CallsD.uz {f:FuncId} {args:List AV} {cs:List Cell} {l:List AV} (k:Nat) (h:CallsD Γ P f args (.tup (.agg cs::l))):CallsD Γ P f args (.tup (.agg (uzL k cs)::l)):=
 ⟨h.1,fun M w vs hM hg hr=>(h.2 M w vs hM hg hr).mono (fun _ _ ⟨v,h1,h2,h3,h4⟩=>by
  obtain ⟨us,hu,hl⟩:=h3
  match us,hl with
  | u::us,hl=>
   obtain ⟨ws,hw,hrd⟩:=hl.1
   exact ⟨v,h1,h2,⟨u::us,hu,⟨ws,hw,RdD.uz k hrd⟩,hl.2⟩,fun hh=>by cases hh⟩)⟩
end Go.Hp
namespace Go.Hp.T
open Go Go.RowKit Go.Slot Go.Hp
open Go.Proofs.Tryz (prog)
def Gs:List (Nat×List Cell):=[(0,[.raw (.int .u8 40),.raw (.int .u8 41),.raw (.int .u8 44),.raw (.int .u8 59),.raw (.int .u8 58),.raw (.int .u8 61),.raw (.int .u8 60),.raw (.int .u8 43),.raw (.int .u8 45),.raw (.int .u8 42),.raw (.int .u8 47),.raw (.int .u8 123),.raw (.int .u8 125)])]
def exOf (o n:Int) (u s:List UInt8) (l:List Ex):Ex:=.mk o n ⟨⟨u⟩⟩ ⟨⟨s⟩⟩ l
abbrev zS:Cell:=cS ⟨⟨[]⟩⟩
abbrev parR (x:Ex):AV:=.tup [.agg (exC x),.one (cI 0),.one (cI 0)]
theorem CallsD.uzE {f:FuncId} {args:List AV} {cs cs':List Cell} {l:List AV} (k:Nat) (h:CallsD Gs prog f args (.tup (.agg cs::l))) (e:uzL k cs=cs'):CallsD Gs prog f args (.tup (.agg cs'::l)):=e▸h.uz k
def sx0:List UInt8:=[98,32,60,32,53,32,34,107,103,34]
def ex0:Ex:=exOf 12 0 [] [] [(exOf 1 0 [] [98] []),(exOf 0 5 [107,103] [] [])]
def sx1:List UInt8:=[97,32,43,32,50]
def ex1:Ex:=exOf 6 0 [] [] [(exOf 1 0 [] [97] []),(exOf 0 2 [] [] [])]
def sx2:List UInt8:=[40,97,32,45,32,122,41,32,47,32,52]
def ex2:Ex:=exOf 9 0 [] [] [(exOf 7 0 [] [] [(exOf 1 0 [] [97] []),(exOf 1 0 [] [122] [])]),(exOf 0 4 [] [] [])]
def sx3:List UInt8:=[108,111,111,107,40,103,114,105,100,44,32,97,41]
def ex3:Ex:=exOf 2 0 [] [103,114,105,100] [(exOf 1 0 [] [97] [])]
def sx4:List UInt8:=[108,111,111,107,40,103,114,105,100,44,32,48,32,45,32,97,41]
def ex4:Ex:=exOf 2 0 [] [103,114,105,100] [(exOf 7 0 [] [] [(exOf 0 0 [] [] []),(exOf 1 0 [] [97] [])])]
def sx5:List UInt8:=[97,32,47,32,122]
def ex5:Ex:=exOf 9 0 [] [] [(exOf 1 0 [] [97] []),(exOf 1 0 [] [122] [])]
def sx6:List UInt8:=[105,102,32,40,122,32,61,32,48,41,32,116,104,101,110,32,97,32,101,108,115,101,32,40,97,32,47,32,122,41]
def ex6:Ex:=exOf 5 0 [] [] [(exOf 13 0 [] [] [(exOf 1 0 [] [122] []),(exOf 0 0 [] [] [])]),(exOf 1 0 [] [97] []),(exOf 9 0 [] [] [(exOf 1 0 [] [97] []),(exOf 1 0 [] [122] [])])]
def sx7:List UInt8:=[40,49,32,47,32,122,41,32,43,32,40,97,32,97,110,100,32,97,41]
def ex7:Ex:=exOf 6 0 [] [] [(exOf 9 0 [] [] [(exOf 0 1 [] [] []),(exOf 1 0 [] [122] [])]),(exOf 14 0 [] [] [(exOf 1 0 [] [97] []),(exOf 1 0 [] [97] [])])]
def sx8:List UInt8:=[40,97,32,97,110,100,32,97,41,32,43,32,40,49,32,47,32,122,41]
def ex8:Ex:=exOf 6 0 [] [] [(exOf 14 0 [] [] [(exOf 1 0 [] [97] []),(exOf 1 0 [] [97] [])]),(exOf 9 0 [] [] [(exOf 0 1 [] [] []),(exOf 1 0 [] [122] [])])]
def sx9:List UInt8:=[99]
def ex9:Ex:=exOf 1 0 [] [99] []
def sx10:List UInt8:=[53,32,34,107,120,34]
def ex10:Ex:=exOf 0 5 [107,120] [] []
def sx11:List UInt8:=[105,102,32,97,32,116,104,101,110,32,99,32,101,108,115,101,32,99]
def ex11:Ex:=exOf 5 0 [] [] [(exOf 1 0 [] [97] []),(exOf 1 0 [] [99] []),(exOf 1 0 [] [99] [])]
def sx12:List UInt8:=[102,40,97,41]
def ex12:Ex:=exOf 3 0 [] [102] [(exOf 1 0 [] [97] [])]
end Go.Hp.T
namespace Go.Hp.T
open Go Go.RowKit Go.Slot Go.Hp Go.Slot.T
open Go.Proofs.Tryz (prog)
set_option maxRecDepth 10000
set_option maxHeartbeats 4000000
variable {Γ:List (Nat×List Cell)}
abbrev dmB (x:Dm):SB:=.box ((dmC x).map .dat) (some 42)
theorem ygx (x:Dm):CallsD Γ prog 42 [.agg (dmC x)] (.one (cB (zmf x))):=by
 refine CallsD.run [] Go.Proofs.Tryz.func42 rfl rfl rfl ?_;simp only [Go.Proofs.Tryz.f42];refine hgR ?_
 repeat' ((first | refine hfk ?_ ?_<;>intros | refine hik ?_ | with_reducible refine zum ?_ | with_reducible refine v3j ?_)<;>refine hgS ?_)
 all_goals refine lf2 @zmf.eq_def @bad9.eq_def ?_;first | exact trivial | rfl
theorem wsv (x y:Dm) (hx:zmf x=true) (hy:zmf y=true):∀ k:Nat,k<6->vfe Γ prog 214 [dmB x,dmB y] [.one (.dat (cI k)),.one (.ptr 0 0),.one (.ptr 1 0)] [dmB x,dmB y] (.one (.dat ((dmC (x.add y)).getD k .zc))):=by
 have h1:=vsc hx;have h2:=vsc hy;intro k hk
 have:k=0\/k=1\/k=2\/k=3\/k=4\/k=5:=by omega
 rcases this with rfl | rfl | rfl | rfl | rfl | rfl
 all_goals
  refine vfe.run [] Go.Proofs.Tryz.func214 rfl rfl ?_;simp only [Go.Proofs.Tryz.f214];refine hgR ?_
  repeat' ((first | refine hfk ?_ ?_<;>intros | refine hik ?_)<;>refine hgS ?_)
  exact StH.refl
theorem w1h (x y:Dm) (hx:zmf x=true) (hy:zmf y=true):∀ k:Nat,k<6->vfe Γ prog 215 [dmB x,dmB y] [.one (.dat (cI k)),.one (.ptr 0 0),.one (.ptr 1 0)] [dmB x,dmB y] (.one (.dat ((dmC (x.sub y)).getD k .zc))):=by
 have h1:=vsc hx;have h2:=vsc hy;intro k hk
 have:k=0\/k=1\/k=2\/k=3\/k=4\/k=5:=by omega
 rcases this with rfl | rfl | rfl | rfl | rfl | rfl
 all_goals
  refine vfe.run [] Go.Proofs.Tryz.func215 rfl rfl ?_;simp only [Go.Proofs.Tryz.f215];refine hgR ?_
  repeat' ((first | refine hfk ?_ ?_<;>intros | refine hik ?_)<;>refine hgS ?_)
  exact StH.refl
theorem wbj (f:FuncId) (x y z:Dm) (h:∀ k:Nat,k<6->vfe Γ prog f [dmB x,dmB y] [.one (.dat (cI k)),.one (.ptr 0 0),.one (.ptr 1 0)] [dmB x,dmB y] (.one (.dat ((dmC z).getD k .zc)))) :
 vfe Γ prog 213 [dmB x,dmB y,.clo f [.one (.ptr 0 0),.one (.ptr 1 0)]] [.one (.fnr 2)] [dmB x,dmB y,.clo f [.one (.ptr 0 0),.one (.ptr 1 0)]] (.tup [.agg ((dmC (yq5 z).1).map .dat),.one (.dat (cI (yq5 z).2))]):=by
 refine vfe.run [] Go.Proofs.Tryz.func213 rfl rfl ?_;simp only [Go.Proofs.Tryz.f213];refine hgR ?_
 repeat' ((first | refine hfk ?_ ?_<;>intros | refine hik ?_ | with_reducible refine zum ?_ | with_reducible refine v3j ?_)<;>refine hgS ?_)
 refine z4m [0,1] (h 0 (by decide)) rfl (by decide) rfl rfl rfl ?_;refine hg ?_
 repeat' ((first | refine hfk ?_ ?_<;>intros | refine hik ?_ | with_reducible refine zum ?_ | with_reducible refine v3j ?_)<;>refine hgS ?_)
 refine z4m [0,1] (h 1 (by decide)) rfl (by decide) rfl rfl rfl ?_;refine hg ?_
 repeat' ((first | refine hfk ?_ ?_<;>intros | refine hik ?_ | with_reducible refine zum ?_ | with_reducible refine v3j ?_)<;>refine hgS ?_)
 refine z4m [0,1] (h 2 (by decide)) rfl (by decide) rfl rfl rfl ?_;refine hg ?_
 repeat' ((first | refine hfk ?_ ?_<;>intros | refine hik ?_ | with_reducible refine zum ?_ | with_reducible refine v3j ?_)<;>refine hgS ?_)
 refine z4m [0,1] (h 3 (by decide)) rfl (by decide) rfl rfl rfl ?_;refine hg ?_
 repeat' ((first | refine hfk ?_ ?_<;>intros | refine hik ?_ | with_reducible refine zum ?_ | with_reducible refine v3j ?_)<;>refine hgS ?_)
 refine z4m [0,1] (h 4 (by decide)) rfl (by decide) rfl rfl rfl ?_;refine hg ?_
 repeat' ((first | refine hfk ?_ ?_<;>intros | refine hik ?_ | with_reducible refine zum ?_ | with_reducible refine v3j ?_)<;>refine hgS ?_)
 refine z4m [0,1] (h 5 (by decide)) rfl (by decide) rfl rfl rfl ?_;refine hg ?_
 repeat' ((first | refine hfk ?_ ?_<;>intros | refine hik ?_ | with_reducible refine zum ?_ | with_reducible refine v3j ?_ | with_reducible first | refine v6l (ygx z) ?_ | refine vgi (ygx z) ?_)<;>refine hgS ?_)
 all_goals
  rename_i hz;refine StH.done 3 rfl (by kernel_rfl) ?_ rfl;simp only [yq5,hz,cond_true,cond_false]
  try rfl
theorem zyo (x y:Dm):CallsD Γ prog 193 [.agg (dmC x),.agg (dmC y)] (.tup [.agg (dmC (dMul x y).1),.one (cI (dMul x y).2)]):=by
 refine CallsD.run [(3,[.clo])] Go.Proofs.Tryz.func193 rfl rfl rfl ?_;simp only [Go.Proofs.Tryz.f193];refine hgR ?_
 repeat' ((first | refine hfk ?_ ?_<;>intros | refine hik ?_ | with_reducible first | refine v6l (ygx x) ?_ | refine vgi (ygx x) ?_ | refine v6l (ygx y) ?_ | refine vgi (ygx y) ?_)<;>refine hgS ?_)
 . refine lf1 @dMul.eq_def ?_;first | exact trivial | rfl
 . rename_i hx hy;refine z4m [0,1,3] (wbj _ x y (x.add y) (wsv x y hx hy)) rfl (by decide) rfl rfl rfl ?_;refine hg ?_;exact RLe.ofEq (by simp only [dMul,hx,hy];rfl)
 . refine lf1 @dMul.eq_def ?_;first | exact trivial | rfl
theorem wxd (x y:Dm):CallsD Γ prog 194 [.agg (dmC x),.agg (dmC y)] (.tup [.agg (dmC (dDiv x y).1),.one (cI (dDiv x y).2)]):=by
 refine CallsD.run [(3,[.clo])] Go.Proofs.Tryz.func194 rfl rfl rfl ?_;simp only [Go.Proofs.Tryz.f194];refine hgR ?_
 repeat' ((first | refine hfk ?_ ?_<;>intros | refine hik ?_ | with_reducible first | refine v6l (ygx x) ?_ | refine vgi (ygx x) ?_ | refine v6l (ygx y) ?_ | refine vgi (ygx y) ?_)<;>refine hgS ?_)
 . refine lf1 @dDiv.eq_def ?_;first | exact trivial | rfl
 . rename_i hx hy;refine z4m [0,1,3] (wbj _ x y (x.sub y) (w1h x y hx hy)) rfl (by decide) rfl rfl rfl ?_;refine hg ?_;exact RLe.ofEq (by simp only [dDiv,hx,hy];rfl)
 . refine lf1 @dDiv.eq_def ?_;first | exact trivial | rfl
theorem vvj (c:Int):CallsD Γ prog 121 [.one (c8 c)] (.one (cB (yio c))):=by
 refine CallsD.run [] Go.Proofs.Tryz.func121 rfl rfl rfl ?_;simp only [Go.Proofs.Tryz.f121];refine hgR ?_
 repeat' ((first | refine hfk ?_ ?_<;>intros | refine hik ?_)<;>refine hgS ?_)
 all_goals refine lf1 @yio.eq_def ?_;first | exact trivial | rfl
theorem xq6 (c:Int):CallsD Γ prog 171 [.one (c8 c)] (.one (cB (isDigit c))):=by
 refine CallsD.run [] Go.Proofs.Tryz.func171 rfl rfl rfl ?_;simp only [Go.Proofs.Tryz.f171];refine hgR ?_
 repeat' ((first | refine hfk ?_ ?_<;>intros | refine hik ?_)<;>refine hgS ?_)
 all_goals refine lf1 @isDigit.eq_def ?_;first | exact trivial | rfl
theorem vys (c:Int):CallsD Γ prog 186 [.one (c8 c)] (.one (cB (ztv c))):=by
 refine CallsD.run [] Go.Proofs.Tryz.func186 rfl rfl rfl ?_;simp only [Go.Proofs.Tryz.f186];refine hgR ?_
 repeat' ((first | refine hfk ?_ ?_<;>intros | refine hik ?_)<;>refine hgS ?_)
 all_goals refine lf1 @ztv.eq_def ?_;first | exact trivial | rfl
theorem v2j (c:Int):CallsD Γ prog 123 [.one (c8 c)] (.one (cB (ycl c))):=by
 refine CallsD.run [] Go.Proofs.Tryz.func123 rfl rfl rfl ?_;simp only [Go.Proofs.Tryz.f123];refine hgR ?_
 repeat' ((first | refine hfk ?_ ?_<;>intros | refine hik ?_ | with_reducible first | refine v6l (vvj _) ?_ | refine vgi (vvj _) ?_ | refine v6l (xq6 _) ?_ | refine vgi (xq6 _) ?_)<;>refine hgS ?_)
 all_goals refine lf1 @ycl.eq_def ?_;first | exact trivial | rfl
theorem w3g (s:ByteArray) (f:FuncId) (p:Int->Bool) (hs:s.size<=1099511627776) (h:∀ c,CallsD Γ prog f [.one (c8 c)] (.one (cB (p c)))):CallsD Γ prog 122 [.one (cS s),fN f] (.one (cI (z1a p s))):=by
 refine CallsD.run [] Go.Proofs.Tryz.func122 rfl rfl rfl ?_;simp only [Go.Proofs.Tryz.f122];refine hgR ?_;refine y55 [0,1] (fun n:Nat=>[(5,.one (.dat (cI n)))]) (fun _=>[]) (fun n=>n<=s.size/\∀ j,j<n->p (x41 s j)=true) (fun n=>s.size-n) 0 ⟨Nat.zero_le _,fun j hj=>by omega⟩ ?_ ?_
 . refine hg ?_;exact StH.wph (by repeat' first | exact .nil | refine .cons (by first | exact .refl _ | exact .any _) ?_)
 intro n hn;obtain ⟨hn,hj⟩:=hn;refine hg ?_
 repeat' ((first | refine hfk ?_ ?_<;>intros | refine hik ?_ | with_reducible first | refine v6l (h _) ?_ | refine vgi (h _) ?_)<;>refine hgS ?_)
 . rename_i h1;refine ⟨n+1,⟨by omega,fun j hj'=>?_⟩,by omega,by exact StH.wph (by repeat' first | exact .nil | refine .cons (by first | exact .refl _ | exact .any _) ?_)⟩
   rcases Nat.lt_or_eq_of_le (Nat.le_of_lt_succ hj') with h2 | h2
   . exact hj j h2
   . rw [h2];exact h1
 . rename_i h1;rw [xwo hn hj (.inr h1)];exact RLe.ofEq rfl
 . rw [xwo hn hj (.inl (by omega))];exact RLe.ofEq rfl
theorem vv6 (s:ByteArray) (hs:s.size<=1099511627776):CallsD Γ prog 65 [.one (cS s)] (.one (cB (isName s))):=by
 refine CallsD.run [] Go.Proofs.Tryz.func65 rfl rfl rfl ?_;simp only [Go.Proofs.Tryz.f65];refine hgR ?_
 repeat' ((first | refine hfk ?_ ?_<;>intros | refine hik ?_ | with_reducible first | refine v6l (vvj _) ?_ | refine vgi (vvj _) ?_ | refine v6l (w3g s _ _ hs v2j) ?_ | refine vgi (w3g s _ _ hs v2j) ?_)<;>refine hgS ?_)
 all_goals refine lf1 @isName.eq_def ?_;first | exact trivial | rfl
abbrev bldB (n:Nat):SB:=.box [.ptr 0 0,.sl 1 1 0 n] (some 223)
abbrev bldA (l:List Int):SB:=.arr (.ints .u8 l) 0 (some 5)
theorem zyc:liesAt prog prog.depth 223 (2 / prog.cellsOf 223) 0 223 1=true:=by kernel_rfl
theorem coU8:prog.cellsOf 5=1:=by kernel_rfl
attribute [go_sem] zyc coU8
theorem zmz (x:HC):vfe Γ prog 227 [.box [.dat (.raw (.pointer none)),x] (some 223)] [.one (.ptr 0 0)] [.box [.ptr 0 0,x] (some 223)] (.tup []):=by
 refine vfe.run [] Go.Proofs.Tryz.func227 rfl rfl ?_;simp only [Go.Proofs.Tryz.f227];refine hgR ?_;exact StH.refl
theorem xsq (x:HC) (T:Option TypeId) (y:SB):vfe Γ prog 227 [.box [.ptr 0 0,x] T,y] [.one (.ptr 0 0)] [.box [.ptr 0 0,x] T,y] (.tup []):=by
 refine vfe.run [] Go.Proofs.Tryz.func227 rfl rfl ?_;simp only [Go.Proofs.Tryz.f227];refine hgR ?_;exact StH.refl
theorem vce (c:Int):vfe Γ prog 210 [.box [.dat (.raw (.pointer none)),.dat .zc] (some 223)] [.one (.ptr 0 0),.one (.dat (c8 c))] [bldB 1,bldA [c]] (.one (.dat (.raw .nilIface))):=by
 refine vfe.run [] Go.Proofs.Tryz.func210 rfl rfl ?_;simp only [Go.Proofs.Tryz.f210];refine hgR ?_;refine xwg (zmz _) ?_;refine hg ?_;exact StH.refl
theorem yj5 (l:List Int) (c:Int) (hl:l.length<=68719476736):vfe Γ prog 210 [bldB l.length,bldA l] [.one (.ptr 0 0),.one (.dat (c8 c))] [.box [.ptr 0 0,.sl 2 1 0 (l++[c]).length] (some 223),.dead,bldA (l++[c])] (.one (.dat (.raw .nilIface))):=by
 refine vfe.run [] Go.Proofs.Tryz.func210 rfl rfl ?_;simp only [Go.Proofs.Tryz.f210];refine hgR ?_;refine xwg (xsq _ _ _) ?_;refine hg ?_;exact StH.refl
theorem x2f (l:List Int) (hl:l.all yua=true) (h0:0<l.length) (h1:l.length<=1099511627776):vfe Γ prog 211 [bldB l.length,bldA l] [.one (.ptr 0 0)] [bldB l.length,.dead] (.one (.dat (cS (strOfNums l)))):=by
 refine vfe.run [] Go.Proofs.Tryz.func211 rfl rfl ?_;simp only [Go.Proofs.Tryz.f211];refine hgR ?_
 conv=>simp (maxSteps:=2000000) (disch:=omega) only [go_sem,Nat.reduceAdd,Nat.reduceSub,Nat.reduceMul,Int.reduceToNat,Nat.reduceEqDiff,Nat.reduceBEq,Nat.reduceBneDiff,Nat.reduceLT,Int.reduceEq,Int.reduceLT,Int.reduceLE,Int.reduceNeg,Int.reduceAdd,Int.reduceSub,Int.reduceMul,hl,h0,true_and,show l.length<=9223372036854775807 from by omega]
 repeat' ((first | refine hfk ?_ ?_<;>intros | refine hik ?_)<;>refine hgS ?_)
 exact StH.refl
theorem yi5 (s:ByteArray) (hs:s.size<=1073741824):CallsD Γ prog 187 [.one (cS s)] (.one (cS (escS s))):=by
 refine CallsD.run [] Go.Proofs.Tryz.func187 rfl rfl rfl ?_;simp only [Go.Proofs.Tryz.f187];refine hgR ?_;refine xwg (vce _) ?_;refine hg ?_;refine y55 [0,2,3,7] (fun i:Nat=>[(8,.one (.dat (cI i)))]) (fun i=>[bldB (escA s i).length,bldA (escA s i)]) (fun i=>i<=s.size) (fun i=>s.size-i) 0 (Nat.zero_le _) ?_ ?_
 . refine hg ?_;exact StH.same svl rfl
 intro i hi;have hlen:=yil s i;refine hg ?_
 have two:∀ c,(c=34\/c=92)->i<s.size->x41 s i=c->escA s (i+1)=escA s i++[92]++[c]:=fun c h hi h2=>by
  rw [xm4 hi,List.append_assoc,h2];rcases h with h | h<;>rw [h]<;>rfl
 repeat' ((first | refine hfk ?_ ?_<;>intros | refine hik ?_)<;>refine hgS ?_)
 . rename_i h _;refine xwg (yj5 _ _ (by omega)) ?_;refine hgS ?_;refine z4m [0,2] (yj5 (escA s i++[92]) _ (by simp only [List.length_append,List.length_singleton];omega)) rfl (by decide) rfl rfl rfl ?_;refine hgS ?_;rw [<-two 92 (.inr rfl) (by omega) h];refine ⟨i+1,by omega,by omega,StH.back [0,2,3,7,8] 1 3 2 rfl rfl rfl rfl rfl (by kernel_rfl) ?_⟩;refine hg ?_;exact StH.same svl rfl
 . rename_i h1 _ h2 _ h3 _;refine xwg (yj5 _ _ (by omega)) ?_;refine hgS ?_
   have one:escA s i++[x41 s i]=escA s (i+1):=by
    rw [xm4 (by omega)];unfold escB;rw [decide_eq_false h2,decide_eq_false h3];rfl
   rw [one];refine ⟨i+1,by omega,by omega,StH.back [0,2,3,7,8] 1 2 2 rfl rfl rfl rfl rfl (by kernel_rfl) ?_⟩;refine hg ?_;exact StH.same svl rfl
 . rename_i h _;refine xwg (yj5 _ _ (by omega)) ?_;refine hgS ?_;refine z4m [0,2] (yj5 (escA s i++[92]) _ (by simp only [List.length_append,List.length_singleton];omega)) rfl (by decide) rfl rfl rfl ?_;refine hgS ?_;rw [<-two 34 (.inl rfl) (by omega) h];refine ⟨i+1,by omega,by omega,StH.back [0,2,3,7,8] 1 3 2 rfl rfl rfl rfl rfl (by kernel_rfl) ?_⟩;refine hg ?_;exact StH.same svl rfl
 . have e:i=s.size:=by omega
   subst e;refine xwg (yj5 _ _ (by omega)) ?_;refine hg ?_;refine z4m [0,2] (x2f (escA s s.size++[34]) (by rw [List.all_append,xmf];rfl) (by simp) (by simp only [List.length_append,List.length_singleton];omega)) rfl (by decide) rfl rfl rfl ?_;refine hg ?_;exact RLe.ofEq rfl
theorem yph (s:ByteArray) (hs:s.size<=1073741824):∃ t,CallsD Γ prog 144 [.one (cS s)] (.tup [.one (cS t),.one (cB (wku s))]):=by
 refine ⟨bif wku s then escS s else ⟨#[]⟩,?_⟩;refine CallsD.run [] Go.Proofs.Tryz.func144 rfl rfl rfl ?_;simp only [Go.Proofs.Tryz.f144];refine hgR ?_
 repeat' ((first | refine hfk ?_ ?_<;>intros | refine hik ?_ | with_reducible first | refine v6l (w3g s _ _ (by omega) vys) ?_ | refine vgi (w3g s _ _ (by omega) vys) ?_ | refine v6l (yi5 s hs) ?_ | refine vgi (yi5 s hs) ?_)<;>refine hgS ?_)
 all_goals refine lf1 @wku.eq_def ?_;first | exact trivial | rfl
end Go.Hp.T
