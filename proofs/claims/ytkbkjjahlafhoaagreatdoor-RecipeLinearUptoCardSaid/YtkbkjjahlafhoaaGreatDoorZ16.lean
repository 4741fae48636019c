/- The proof, part Z16: Ie, Id, If, La, Lb, Lc, Ca. -/
import Derived.Test.YtkbkjjahlafhoaaGreatDoorZ15
import Derived.Test.YtkbkjjahlafhoaaGreatDoorZ14
namespace Go.Hp.T
open Go Go.RowKit Go.Slot Go.Hp
set_option maxRecDepth 10000
inductive Ex where
 | mk (op n:Int) (unit name:ByteArray) (args:List Ex)
def Ex.op:Ex->Int | .mk o _ _ _ _=>o
def Ex.n:Ex->Int | .mk _ n _ _ _=>n
def Ex.unit:Ex->ByteArray | .mk _ _ u _ _=>u
def Ex.name:Ex->ByteArray | .mk _ _ _ s _=>s
def Ex.args:Ex->List Ex | .mk _ _ _ _ l=>l
def Ex.zero:Ex:=.mk 0 0 ⟨#[]⟩ ⟨#[]⟩ []
instance:Inhabited Ex:=⟨Ex.zero⟩
theorem Ex.ind {Q:Ex->Prop} (h:∀ x:Ex,(∀ y∈x.args,Q y)->Q x):∀ x,Q x
 | .mk o n u s l=>h _ (fun y _hy=>Ex.ind h y)
termination_by x=>SizeOf.sizeOf x
decreasing_by
 have:=List.sizeOf_lt_of_mem (show y∈l from _hy)
 simp only [Ex.mk.sizeOf_spec];omega
mutual
def Ex.cells:Ex->List Cell
 | .mk o n u s l=>[cI o,cI n,cS u,cS s,.sl 5 (Ex.vuj l)]
def Ex.vuj:List Ex->List (List Cell)
 | []=>[]
 | x::l=>Ex.cells x::Ex.vuj l
end
theorem Ex.yd8:∀ l:List Ex,Ex.vuj l=l.map Ex.cells
 | []=>by rw [Ex.vuj];rfl
 | x::l=>by rw [Ex.vuj,Ex.yd8 l];rfl
abbrev exC (x:Ex):List Cell:=[cI x.op,cI x.n,cS x.unit,cS x.name,.sl 5 (x.args.map Ex.cells)]
theorem Ex.xa4 (x:Ex):Ex.cells x=exC x:=by
 cases x with
 | mk o n u s l=>rw [Ex.cells,Ex.yd8];rfl
theorem getD_map' {α β:Type} [Inhabited α] (f:α->β) (d:β):∀(l:List α) (i:Nat),i<l.length->(l.map f).getD i d=f (l.getD i default)
 | [],_,h=>by simp at h
 | _::_,0,_=>rfl
 | _::l,i+1,h=>by simpa using getD_map' f d l i (by simpa using h)
theorem getD_map {α β:Type} [Inhabited α] {f:α->β} {d:β} {l:List α} {i:Nat} (h:i<l.length):(l.map f).getD i d=f (l.getD i default):=getD_map' f d l i h
attribute [go_sem] getD_map Ex.xa4
theorem vdv {α:Type} [Inhabited α] {l:List α} {i:Nat} (h:i<l.length):l.getD i default∈l:=by
 have:l.getD i default=l[i]:=by simp [h]
 rw [this];exact List.getElem_mem h
theorem zn8 {α:Type} [Inhabited α] {l:List α} {i:Nat} (h:i<l.length):l.drop i=l.getD i default::l.drop (i+1):=by
 have:l.getD i default=l[i]:=by simp [h]
 rw [this];exact List.drop_eq_getElem_cons h
theorem yhw {α:Type} [Inhabited α] {l:List α} {i:Nat} (h:i<l.length):l.take (i+1)=l.take i++[l.getD i default]:=by
 have:l.getD i default=l[i]:=by simp [h]
 rw [this,List.take_add_one];simp [h]
inductive Ex.Sm:Ex->Prop
 | mk (x:Ex) (hl:x.args.length<=1073741824) (hu:x.unit.size<=1073741824) (hs:x.name.size<=1073741824) (h:∀ y∈x.args,Ex.Sm y):Ex.Sm x
theorem Ex.Sm.len {x:Ex} (h:x.Sm):x.args.length<=1073741824:=by cases h;assumption
theorem Ex.Sm.u {x:Ex} (h:x.Sm):x.unit.size<=1073741824:=by cases h;assumption
theorem Ex.Sm.s {x:Ex} (h:x.Sm):x.name.size<=1073741824:=by cases h;assumption
theorem Ex.Sm.arg {x:Ex} (h:x.Sm):∀ y∈x.args,y.Sm:=by cases h;assumption
def isWord (s:ByteArray):Bool:=seq s ⟨#[110,111,116]⟩||seq s ⟨#[105,102]⟩||seq s ⟨#[116,104,101,110]⟩||seq s ⟨#[101,108,115,101]⟩||seq s ⟨#[97,110,100]⟩||seq s ⟨#[111,114]⟩||seq s ⟨#[108,111,111,107]⟩||seq s ⟨#[109,105,110]⟩||seq s ⟨#[109,97,120]⟩||seq s ⟨#[105,110,116,111]⟩||seq s ⟨#[116,111]⟩||seq s ⟨#[97,115]⟩
def isNamed (s:ByteArray):Bool:=isName s&&!isWord s
def vjo (o:Int):ByteArray:=bif decide (o=6) then ⟨#[43]⟩ else bif decide (o=7) then ⟨#[45]⟩ else bif decide (o=8) then ⟨#[42]⟩ else bif decide (o=9) then ⟨#[47]⟩ else bif decide (o=12) then ⟨#[60]⟩ else bif decide (o=13) then ⟨#[61]⟩ else bif decide (o=14) then ⟨#[97,110,100]⟩ else bif decide (o=15) then ⟨#[111,114]⟩ else ⟨#[]⟩
def isOp (o:Int):Bool:=decide (o=6)||decide (o=7)||decide (o=8)||decide (o=9)||decide (o=12)||decide (o=13)||decide (o=14)||decide (o=15)
mutual
def Ex.cnt:Ex->Int->Int->Bool×Int
 | .mk _ _ _ _ l,n,lv=>bif decide (200<n+1)||decide (20<lv) then (false,n+1) else Ex.cntL l (n+1) (lv+1)
def Ex.cntL:List Ex->Int->Int->Bool×Int
 | [],n,_=>(true,n)
 | y::l,n,lv=>match Ex.cnt y n lv with
  | (false,m)=>(false,m)
  | (true,m)=>Ex.cntL l m lv
end
theorem Ex.x06 (x:Ex) (n lv:Int):x.cnt n lv=bif decide (200<n+1)||decide (20<lv) then (false,n+1) else Ex.cntL x.args (n+1) (lv+1):=by cases x;rw [Ex.cnt];rfl
theorem Ex.v95:∀(x:Ex) (n lv k:Int),x.cnt n lv=(true,k)->n<k/\k<=200:=by
 have hL:∀ l:List Ex,(∀ y∈l,∀(n lv k:Int),y.cnt n lv=(true,k)->n<k/\k<=200)->∀ n lv k:Int,n<=200->Ex.cntL l n lv=(true,k)->n<=k/\k<=200:=by
  intro l
  induction l with
  | nil=>intro _ n lv k hn h;rw [Ex.cntL] at h;cases h;omega
  | cons y l ih=>
   intro hy n lv k hn h;rw [Ex.cntL] at h;split at h
   . cases h
   . rename_i m hm;have h1:=hy y (by simp) _ _ _ hm;have h2:=ih (fun z hz=>hy z (by simp [hz])) _ _ _ h1.2 h;omega
 refine Ex.ind (fun x ih n lv k h=>?_);rw [Ex.x06] at h;by_cases h1:200<n+1
 . simp [h1] at h
 . by_cases h2:20<lv
   . simp [h2] at h
   . simp only [h1,h2,decide_false,Bool.or_self,cond_false] at h
     have:=hL x.args ih _ _ _ (by omega) h
     omega
def zvw (x:Ex):Bool:=
 bif decide (x.op=0) then wgm x.unit&&decide (0<=x.n)&&decide (x.n<=1099511627776)&&decide (x.name.size=0)&&decide ((x.args.length:Int)=0) else
 bif decide (¬x.n=0)||decide (¬x.unit.size=0) then false else
 bif decide (x.op=1) then isNamed x.name&&decide ((x.args.length:Int)=0) else
 bif decide (x.op=2) then isNamed x.name&&decide ((x.args.length:Int)=1) else
 bif decide (x.op=3) then isNamed x.name&&decide (1<=(x.args.length:Int))&&decide ((x.args.length:Int)<=6) else
 bif decide (x.op=4) then decide (x.name.size=0)&&decide ((x.args.length:Int)=1) else
 bif decide (x.op=5) then decide (x.name.size=0)&&decide ((x.args.length:Int)=3) else
 bif decide (x.op=10)||decide (x.op=11) then decide (x.name.size=0)&&decide ((x.args.length:Int)=2) else
 isOp x.op&&decide (x.name.size=0)&&decide ((x.args.length:Int)=2)
mutual
def Ex.shaped:Ex->Bool
 | .mk o n u s l=>zvw (.mk o n u s l)&&Ex.w7a l
def Ex.w7a:List Ex->Bool
 | []=>true
 | y::l=>Ex.shaped y&&Ex.w7a l
end
theorem Ex.vjr:∀ l:List Ex,Ex.w7a l=l.all Ex.shaped
 | []=>by rw [Ex.w7a];rfl
 | y::l=>by rw [Ex.w7a,Ex.vjr l];rfl
theorem Ex.xd3 (x:Ex):x.shaped=(zvw x&&x.args.all Ex.shaped):=by cases x;rw [Ex.shaped,Ex.vjr];rfl
def wck (x:Ex):Bool:=(x.cnt 0 1).1&&x.shaped
def idxF {α:Type} (p:α->Bool):List α->Int
 | []=>-1
 | x::l=>bif p x then 0 else bif decide (idxF p l = -1) then -1 else idxF p l+1
theorem y7f {α:Type} (p:α->Bool):∀ l:List α,-1<=idxF p l
 | []=>by unfold idxF;omega
 | x::l=>by
  have:=y7f p l
  unfold idxF
  cases p x with
  | true=>simp
  | false=>
   by_cases h:idxF p l = -1
   . simp [h]
   . simp [h];omega
theorem vx3 {α:Type} (p:α->Bool):∀ l:List α,decide (0<=idxF p l)=l.any p
 | []=>rfl
 | x::l=>by
  have h2:=vx3 p l;have h3:=y7f p l;unfold idxF;rw [List.any_cons,<-h2]
  cases p x with
  | true=>simp
  | false=>
   by_cases h:idxF p l = -1
   . simp [h]
   . simp [h];omega
theorem v04 {α:Type} [Inhabited α] {p:α->Bool}:∀{l:List α} {i:Nat},i<=l.length->(∀ j,j<i->p (l.getD j default)=false)->(i=l.length->idxF p l = -1)/\(i<l.length->p (l.getD i default)=true->idxF p l=i)
 | [],i,hi,_=>by simp at hi;subst hi;exact ⟨fun _=>rfl,fun h=>by simp at h⟩
 | x::l,0,_,_=>⟨fun h=>by simp at h,fun _ h=>by unfold idxF;have:p x=true:=h;rw [this];rfl⟩
 | x::l,i+1,hi,hj=>by
  have h0:p x=false:=hj 0 (by omega);obtain ⟨h1,h2⟩:=v04 (l:=l) (i:=i) (by simpa using hi) (fun j hj'=>by simpa using hj (j+1) (by omega));unfold idxF;rw [h0];refine ⟨fun h=>?_,fun h hp=>?_⟩
  . rw [h1 (by simpa using h)];rfl
  . rw [h2 (by simpa using h) (by simpa using hp)]
    have:¬((i:Int) = -1):=by omega
    simp [this]
end Go.Hp.T
namespace Go.Hp
open Go Go.RowKit Go.Slot
variable {P:Program} {Γ:List (Nat×List Cell)} {e:List SB} {G:List (Nat×List GhH)}
def vsi (n m:Nat) (J:List SV) (η:List SB):Bool:=(J.all fun x=>(x8g x).all fun b=>Nat.blt b m)&&(((η.take m).drop n).all fun x=>(zj7 x).all fun b=>Nat.blt b m)
theorem StH.cutE {J:List SV} {η:List SB} (m:Nat) (hm:e.length<=m) (he:η.take e.length=e) (h:vsi e.length m J η=true):StH Γ e J η J (η.take m):=by
 unfold vsi at h;rw [Bool.and_eq_true,List.all_eq_true,List.all_eq_true] at h;refine StH.cut hm (fun i x hx b hb=>?_) (fun i x hi hx=>?_)
 . have:=h.1 x (List.mem_of_getElem? hx)
   rw [List.all_eq_true] at this;simpa using this b hb
 . by_cases hie:i<e.length
   . left
     rw [<-he,List.getElem?_take_of_lt hie];exact hx
   . right
     intro b hb
     have hmem:x∈(η.take m).drop e.length:=by
      have:((η.take m).drop e.length)[i-e.length]? = some x:=by
       rw [List.getElem?_drop,show e.length+(i-e.length)=i from by omega,List.getElem?_take_of_lt hi];exact hx
      exact List.mem_of_getElem? this
     have:=h.2 x hmem
     rw [List.all_eq_true] at this;simpa using this b hb
theorem StH.vf8 {J J':List SV} {η:List SB} (he:η.take e.length=e) (h:(J.all fun x=>(x8g x).all fun b=>Nat.blt b e.length)=true) (hσ:J=J'):StH Γ e J η J' e:=by
 have hc:vsi e.length e.length J η=true:=by
  unfold vsi;rw [h,Bool.true_and,List.all_eq_true];intro x hx;rw [List.drop_eq_nil_of_le (by rw [List.length_take];omega)] at hx
  cases hx
 have:=StH.cutE (Γ:=Γ) (J:=J) e.length (Nat.le_refl _) he hc
 rw [he] at this;exact hσ▸this
def dzS (η:List SB):SV->SV×List Nat
 | .one h=>match yo0 η h with
  | some (c,bs)=>(.one (.dat c),bs)
  | none=>(.one h,[])
 | x=>(x,[])
def dzL (η:List SB):List SV->List SV
 | []=>[]
 | x::l=>(dzS η x).1::dzL η l
def dzB (η:List SB):List SV->List Nat
 | []=>[]
 | x::l=>(dzS η x).2++dzB η l
theorem vvn {η:List SB} {x:SV}:∀ b∈(dzS η x).2,w9u (gB η b)=true:=by
 intro b hb;unfold dzS at hb;split at hb
 . split at hb
   . rename_i hd;exact xoq hd b hb
   . cases hb
 . cases hb
theorem wic {η:List SB}:∀{l:List SV},∀ b∈dzB η l,w9u (gB η b)=true
 | [],b,hb=>by cases hb
 | x::l,b,hb=>by
  rcases List.mem_append.1 hb with h | h
  . exact vvn b h
  . exact wic b h
theorem y0l {Mo:Nat->Nat->Prop} {ρ:Nat->Value} {η η':List SB} {w:World} (hI:HInv Γ Mo ρ η' w):∀{l:List SV} {vs:List Value},(∀ b∈dzB η l,gB η' b=frzB (gB η b))->SRL η' ρ (MX Mo ρ η') w vs l->SRL η' ρ (MX Mo ρ η') w vs (dzL η l)
 | [],[],_,_=>trivial
 | [],_::_,_,h=>h.elim
 | _::_,[],_,h=>h.elim
 | x::l,v::vs,hf,h=>by
  refine ⟨?_,y0l hI (fun b hb=>hf b (List.mem_append.2 (.inr hb))) h.2⟩;have h1:=h.1
  cases x with
  | one y=>
   cases hd:yo0 η y with
   | none=>
    have:dzS η (.one y)=(.one y,[]):=by unfold dzS;simp only [hd]
    rw [this];exact h1
   | some p=>
    obtain ⟨c,bs⟩:=p
    have he:dzS η (.one y)=(.one (.dat c),bs):=by unfold dzS;simp only [hd]
    rw [he];exact zpt hI hd (fun b hb=>hf b (List.mem_append.2 (.inl (by rw [he];exact hb)))) h1
  | _=>exact h1
theorem z00.frz {f:FuncId} {η η':List SB} {l:List SV} {res:SV} (h:z00 Γ P f (appL (frzE η (dzB η l)) η) (dzL η l) η' res):z00 Γ P f η l η' res:=by
 refine ⟨h.1,fun Mo ρ w vs hI hsr=>?_⟩;obtain ⟨h1,_,h3⟩:=Went.frz (dzB η l) η hI rfl wic (fun _=>.inl rfl);refine (h.2 Mo ρ w vs h1.inv (y0l h1.inv h3 (hsr.mv h1.mv))).mono ?_;rintro x w' ⟨v,ρ',rfl,hw,hv⟩;exact ⟨v,ρ',rfl,h1.trans hw,hv⟩
theorem xjs (φ:List Nat) {f:FuncId} {η η1 ηs ηs':List SB} {args l l1:List SV} {res:SV} {K:Bool->List SB->SV->Prop} (h:z00 Γ P f ηs args ηs' res) (hz:dzL η l=l1) (hη:appL (frzE η (dzB η l)) η=η1) (hl:args.map (wi2 (atR φ η1.length))=l1) (hn:φ.Nodup) (hb:(φ.all fun j=>Nat.blt j η1.length)=true)
 (hp:φ.map (fun j=>η1[j]?)=ηs.map (fun x=>some (rnSB (atR φ η1.length) x))) (hlen:Nat.ble φ.length ηs'.length=true) (hk:K true (putR φ η1 ηs') (rnSV (atR φ η1.length) res)):w4x Γ P f η l K:=by
 subst hz;subst hη;exact xmm (z00.frz (hl▸z00.at φ h hn hb hp hlen)) hk
def envM {α:Type} (C:α->SV):List (ByteArray×α)->List (Value×SV)
 | []=>[]
 | p::l=>(.string p.1,C p.2)::envM C l
def yvz {α:Type}:List (ByteArray×α)->ByteArray->Option α
 | [],_=>none
 | p::l,s=>bif seq s p.1 then some p.2 else yvz l s
def updF {α:Type}:List (ByteArray×α)->ByteArray->α->List (ByteArray×α)
 | [],s,v=>[(s,v)]
 | p::l,s,v=>bif seq s p.1 then (s,v)::l else p::updF l s v
theorem xhs {α:Type} (C:α->SV):∀ l:List (ByteArray×α),(envM C l).length=l.length
 | []=>rfl
 | _::l=>by rw [envM,List.length_cons,xhs C l];rfl
theorem wqr {a b:ByteArray}:seq a b=seq b a:=by rw [xju,xju];exact decide_eq_decide.2 eq_comm
theorem xmv {α:Type} {C:α->SV} {s:ByteArray}:∀{l:List (ByteArray×α)},xpi (envM C l) (.string s)=some ((yvz l s).map C)
 | []=>rfl
 | p::l=>by
  have ih:=xmv (C:=C) (s:=s) (l:=l);simp only [envM,xpi,kEq,yvz];rw [ih]
  first
   | (cases seq s p.1<;>rfl)
   | (rw [wqr];cases seq s p.1<;>rfl)
theorem yfp {α:Type} {C:α->SV} {s:ByteArray} {v:α}:∀{l:List (ByteArray×α)},updM (envM C l) (.string s) (C v)=some (envM C (updF l s v))
 | []=>rfl
 | p::l=>by
  have ih:=yfp (C:=C) (s:=s) (v:=v) (l:=l);simp only [envM,updM,kEq,updF];rw [ih]
  first
   | (cases seq s p.1<;>rfl)
   | (rw [wqr];cases seq s p.1<;>rfl)
attribute [go_sem] xmv xhs
end Go.Hp
namespace Go.Hp.T
open Go Go.RowKit Go.Slot Go.Hp
set_option maxRecDepth 10000
structure Dm where
 a:Int
 b:Int
 c:Int
 d:Int
 e:Int
 f:Int
deriving DecidableEq
def Dm.zero:Dm:=⟨0,0,0,0,0,0⟩
instance:Inhabited Dm:=⟨Dm.zero⟩
abbrev dmC (x:Dm):List Cell:=[cI x.a,cI x.b,cI x.c,cI x.d,cI x.e,cI x.f]
def bad9 (n:Int):Bool:=decide (n < -9)||decide (9<n)
def wag (x:Dm):Bool:=!bad9 x.a&&!bad9 x.b&&!bad9 x.c&&!bad9 x.d&&!bad9 x.e&&!bad9 x.f
theorem wwx {x y:Dm}:(decide (x.a=y.a)&&(decide (x.b=y.b)&&(decide (x.c=y.c)&&(decide (x.d=y.d)&&(decide (x.e=y.e)&&decide (x.f=y.f))))))=decide (x=y):=by
 cases x;cases y;simp only [<-Bool.decide_and,Dm.mk.injEq]
structure Ty where
 t:Bool
 d:Dm
deriving DecidableEq
def Ty.zero:Ty:=⟨false,Dm.zero⟩
instance:Inhabited Ty:=⟨Ty.zero⟩
attribute [go_sem] wwx
structure Rw where
 k:Int
 v:Int
instance:Inhabited Rw:=⟨⟨0,0⟩⟩
def Rw.C (x:Rw):List Cell:=[cI x.k,cI x.v]
abbrev rwC (x:Rw):List Cell:=[cI x.k,cI x.v]
theorem Rw.C_eq (x:Rw):x.C=rwC x:=rfl
structure Tb where
 name:ByteArray
 unit:ByteArray
 rows:List Rw
instance:Inhabited Tb:=⟨⟨⟨#[]⟩,⟨#[]⟩,[]⟩⟩
def Tb.C (x:Tb):List Cell:=[cS x.name,cS x.unit,.sl 2 (x.rows.map Rw.C)]
abbrev tbC (x:Tb):List Cell:=[cS x.name,cS x.unit,.sl 2 (x.rows.map Rw.C)]
theorem Tb.C_eq (x:Tb):x.C=tbC x:=rfl
structure Vr where
 name:ByteArray
 d:Dm
instance:Inhabited Vr:=⟨⟨⟨#[]⟩,Dm.zero⟩⟩
attribute [go_sem] Rw.C_eq Tb.C_eq
def inT (n:Int):Bool:=decide (-1099511627776<=n)&&decide (n<=1099511627776)
def rowAt (l:List Rw) (i:Nat):Bool:=inT (l.getD i default).k&&inT (l.getD i default).v&&!(decide (0<(i:Int))&&decide ((l.getD i default).k<=(l.getD (i-1) default).k))
def ycg (l:List Rw):Bool:=(List.range l.length).all (rowAt l)
theorem y4w {p:Nat->Bool} {n:Nat}:(∀ j,j<n->p j=true)->(List.range n).all p=true:=fun h=>by
 rw [List.all_eq_true];exact fun x hx=>h x (List.mem_range.1 hx)
theorem w5b {p:Nat->Bool} {n j:Nat} (hj:j<n) (h:p j=false):(List.range n).all p=false:=by
 cases ha:(List.range n).all p with
 | false=>rfl
 | true=>rw [List.all_eq_true.1 ha j (List.mem_range.2 hj)] at h;cases h
def zjr (uerr:ByteArray->Int) (t:Tb):Bool:=!decide (¬uerr t.unit=0)&&isName t.name&&!decide (100<(t.rows.length:Int))&&ycg t.rows
theorem za5 {p:Nat->Prop} {i:Nat} (h:∀ j,j<i->p j) (hi:p i):∀ j,j<i+1->p j:=fun j hj=>by
 rcases Nat.lt_or_eq_of_le (Nat.le_of_lt_succ hj) with h2 | h2
 . exact h j h2
 . rw [h2];exact hi
end Go.Hp.T
namespace Go.Slot
open Go Go.RowKit
set_option maxRecDepth 10000
def digits (L:List Int):Prop:=∀ x∈L,0<=x/\x<=1048575
instance (L:List Int):Decidable (digits L):=inferInstanceAs (Decidable (∀ x∈L,0<=x/\x<=1048575))
def num:List Int->Int
 | []=>0
 | d::l=>d+1048576*num l
theorem digits.nil:digits []:=fun _ h=>by cases h
theorem digits.cons {d:Int} {l:List Int} (h:0<=d/\d<=1048575) (hl:digits l):digits (d::l):=fun x hx=>by
 rcases List.mem_cons.1 hx with rfl | hx
 . exact h
 . exact hl x hx
theorem digits.head {d:Int} {l:List Int} (h:digits (d::l)):0<=d/\d<=1048575:=h d (by simp)
theorem digits.tail {d:Int} {l:List Int} (h:digits (d::l)):digits l:=fun x hx=>h x (by simp [hx])
theorem digits.append {l m:List Int} (hl:digits l) (hm:digits m):digits (l++m):=fun x hx=>by
 rcases List.mem_append.1 hx with hx | hx
 . exact hl x hx
 . exact hm x hx
theorem digits.take {l:List Int} (h:digits l) (n:Nat):digits (l.take n):=fun x hx=>h x (List.mem_of_mem_take hx)
theorem digits.drop {l:List Int} (h:digits l) (n:Nat):digits (l.drop n):=fun x hx=>h x (List.mem_of_mem_drop hx)
theorem digits.getD {l:List Int} (h:digits l) (i:Nat):0<=l.getD i 0/\l.getD i 0<=1048575:=by
 rw [List.getD_eq_getElem?_getD]
 cases hh:l[i]? with
 | none=>simp
 | some x=>exact h x (List.mem_of_getElem? hh)
theorem digits.set {l:List Int} (h:digits l) (i:Nat) {x:Int} (hx:0<=x/\x<=1048575):digits (l.set i x):=fun y hy=>by
 rcases List.mem_or_eq_of_mem_set hy with hy | rfl
 . exact h y hy
 . exact hx
theorem digits.rep (n:Nat):digits (List.replicate n 0):=fun x hx=>by
 rw [List.mem_replicate] at hx;omega
theorem num_nonneg:∀{l:List Int},digits l->0<=num l
 | [],_=>Int.le_refl _
 | d::l,h=>by have:=num_nonneg h.tail;have:=h.head;simp only [num];omega
theorem xo9 (n:Nat):(0:Int)<1048576 ^ n:=Int.pow_pos (by decide)
theorem zr4 {m n:Nat} (h:m<=n):(1048576:Int) ^ m<=1048576 ^ n:=by
 obtain ⟨k,rfl⟩:=Nat.exists_eq_add_of_le h;rw [Int.pow_add];have h1:=xo9 k;have h2:=Int.mul_le_mul_of_nonneg_left (show (1:Int)<=1048576 ^ k by omega) (Int.le_of_lt (xo9 m))
 rwa [Int.mul_one] at h2
theorem vt2:∀{l:List Int},digits l->num l<1048576 ^ l.length
 | [],_=>by simp [num]
 | d::l,h=>by
  have:=vt2 h.tail
  have:=h.head
  simp only [num,List.length_cons,Int.pow_succ];omega
theorem zdf:∀(l m:List Int),num (l++m)=num l+1048576 ^ l.length*num m
 | [],m=>by simp [num]
 | d::l,m=>by
  simp only [List.cons_append,num,List.length_cons,zdf l m,Int.pow_succ];rw [Int.mul_add,Int.mul_comm (1048576 ^ l.length) 1048576,Int.mul_assoc];omega
theorem xqy (n:Nat):num (List.replicate n 0)=0:=by
 induction n with
 | zero=>rfl
 | succ n ih=>simp [List.replicate_succ,num,ih]
theorem vb6:∀(l:List Int) (i:Nat),num (l.take (i+1))=num (l.take i)+1048576 ^ i*l.getD i 0
 | [],i=>by simp [num]
 | d::l,0=>by simp [num]
 | d::l,i+1=>by
  simp only [List.take_succ_cons,num,vb6 l i,List.getD_cons_succ,Int.pow_succ];rw [Int.mul_add,Int.mul_comm (1048576 ^ i) 1048576,Int.mul_assoc];omega
theorem z8k:∀(l:List Int) (i:Nat) (x:Int),i<l.length->num (l.set i x)=num l+1048576 ^ i*(x-l.getD i 0)
 | [],i,x,h=>by simp at h
 | d::l,0,x,_=>by simp [num];omega
 | d::l,i+1,x,h=>by
  simp only [List.set_cons_succ,num,z8k l i x (by simpa using h),List.getD_cons_succ,Int.pow_succ];rw [Int.mul_add,Int.mul_comm (1048576 ^ i) 1048576,Int.mul_assoc];omega
theorem yj4 (l:List Int) (i:Nat):num l=num (l.take i)+1048576 ^ (l.take i).length*num (l.drop i):=by
 rw [<-zdf,List.take_append_drop]
def ynm (l:List Int) (i:Nat):Prop:=∀ j,i<=j->l.getD j 0=0
theorem ynm.rep (n:Nat):ynm (List.replicate n 0) 0:=fun j _=>by
 rw [List.getD_eq_getElem?_getD,List.getElem?_replicate];split<;>rfl
theorem xlq {l:List Int} {i j:Nat} (x:Int) (h:i≠j):(l.set i x).getD j 0=l.getD j 0:=by
 rw [List.getD_eq_getElem?_getD,List.getElem?_set_ne h,List.getD_eq_getElem?_getD]
theorem ynm.set {l:List Int} {i:Nat} (h:ynm l i) (x:Int):ynm (l.set i x) (i+1):=fun j hj=>by
 rw [xlq x (by omega)];exact h j (by omega)
theorem ynm.ylp {l:List Int} {i k:Nat} (h:ynm l i) (x:Int) (hk:k<i):ynm (l.set k x) i:=fun j hj=>by
 rw [xlq x (by omega)];exact h j hj
theorem ynm.mono {l:List Int} {i j:Nat} (h:ynm l i) (hij:i<=j):ynm l j:=fun k hk=>h k (by omega)
theorem yhw {l:List Int} {i n:Nat} (h:i<n):(l.take n).getD i 0=l.getD i 0:=by
 rw [List.getD_eq_getElem?_getD,List.getElem?_take_of_lt h,List.getD_eq_getElem?_getD]
theorem xe7 {l:List Int} {i:Nat} (h:l.length<=i):l.getD i 0=0:=by
 rw [List.getD_eq_getElem?_getD,List.getElem?_eq_none h];rfl
theorem wk9 {l:List Int} {i:Nat} (h:l.length<=i):l.take i=l:=List.take_of_length_le h
theorem yt8 {o:List Int} {i:Nat} (hi:i<o.length) (s:Int):num (o.set i (s % 1048576))+1048576 ^ (i+1)*(s / 1048576)=num o+1048576 ^ i*(s-o.getD i 0):=by
 rw [z8k o i _ hi,Int.pow_succ];have h:=Int.emod_add_mul_ediv s 1048576;generalize (1048576:Int) ^ i=P;generalize s % 1048576=r at *;generalize s / 1048576=q at *;generalize o.getD i 0=z
 grind
def norm (l:List Int):Prop:=l≠[]->l.getD (l.length-1) 0≠0
theorem norm.nil:norm []:=fun h=>absurd rfl h
theorem norm.tail {d:Int} {l:List Int} (h:norm (d::l)):norm l:=fun hl=>by
 have:=h (by simp)
 have hp:0<l.length:=List.length_pos_iff.2 hl;rw [List.length_cons,show l.length+1-1=(l.length-1)+1 by omega,List.getD_cons_succ] at this;exact this
theorem norm.pos:∀{l:List Int},digits l->norm l->l≠[]->0<num l
 | [],_,_,h=>absurd rfl h
 | d::l,hd,hn,_=>by
  simp only [num];by_cases hl:l=[]
  . subst hl
    have:=hn (by simp)
    have h0:=hd.head;simp at this;simp only [num];omega
  . have:=norm.pos hd.tail hn.tail hl
    have h0:=hd.head;omega
theorem zmq:∀{l m:List Int},digits l->norm l->digits m->norm m->num l=num m->l=m
 | [],[],_,_,_,_,_=>rfl
 | [],d::m,_,_,hm,nm,h=>by have:=norm.pos hm nm (by simp);rw [<-h] at this;simp [num] at this
 | d::l,[],hl,nl,_,_,h=>by have:=norm.pos hl nl (by simp);rw [h] at this;simp [num] at this
 | d::l,e::m,hl,nl,hm,nm,h=>by
  simp only [num] at h;have h1:=hl.head;have h2:=hm.head
  have hde:d=e:=by omega
  have:=zmq hl.tail nl.tail hm.tail nm.tail (by omega)
  rw [hde,this]
def dig (n:Nat):List Int:=if h:n=0 then [] else ((n % 1048576:Nat):Int)::dig (n / 1048576)
 termination_by n
 decreasing_by omega
theorem vhp:dig 0=[]:=by unfold dig;simp
theorem yma {n:Nat} (h:n≠0):dig n=((n % 1048576:Nat):Int)::dig (n / 1048576):=by
 rw [dig];simp [h]
theorem xiq:∀ n:Nat,digits (dig n)/\norm (dig n)/\num (dig n)=n/\(dig n=[]->n=0):=by
 intro n
 induction n using Nat.strongRecOn with
 | ind n ih =>
  by_cases h:n=0
  . subst h;rw [vhp];exact ⟨digits.nil,norm.nil,rfl,fun _=>rfl⟩
  . rw [yma h];obtain ⟨h1,h2,h3,h4⟩:=ih (n / 1048576) (by omega);refine ⟨digits.cons (by omega) h1,fun _=>?_,by simp only [num,h3];omega,fun e=>by cases e⟩;by_cases hn:dig (n / 1048576)=[]
    . rw [hn]
      have:=h4 hn
      simp;omega
    . have:=h2 hn
      have hp:0<(dig (n / 1048576)).length:=List.length_pos_iff.2 hn;rw [List.length_cons,show (dig (n / 1048576)).length+1-1=((dig (n / 1048576)).length-1)+1 by omega,List.getD_cons_succ];exact this
theorem zkp (n:Nat):digits (dig n):=(xiq n).1
theorem y91 (n:Nat):norm (dig n):=(xiq n).2.1
theorem x2o (n:Nat):num (dig n)=n:=(xiq n).2.2.1
theorem yqy {n:Nat}:dig n=[]↔n=0:=⟨(xiq n).2.2.2,fun h=>by rw [h,vhp]⟩
theorem zo9 {l:List Int} (hd:digits l) (hn:norm l):l=dig (num l).toNat:=
 zmq hd hn (zkp _) (y91 _) (by rw [x2o];have:=num_nonneg hd;omega)
theorem ws0 {l:List Int} {n:Int} (hd:digits l) (hn:norm l) (h:num l=n):l=dig n.toNat:=by rw [<-h];exact zo9 hd hn
theorem ynj {n k:Nat} (h:n<1048576 ^ k):(dig n).length<=k:=by
 induction k generalizing n with
 | zero=>have:n=0:=(by simpa using h);subst this;rw [vhp];exact Nat.le_refl _
 | succ k ih=>
  by_cases h0:n=0
  . subst h0;rw [vhp];exact Nat.zero_le _
  . rw [yma h0,List.length_cons];exact Nat.succ_le_succ (ih (by rw [Nat.pow_succ] at h;omega))
theorem v71 {n k:Nat} (h:(dig n).length<=k):n<1048576 ^ k:=by
 have h1:=vt2 (zkp n);rw [x2o] at h1;have h2:(1048576:Nat) ^ (dig n).length<=1048576 ^ k:=Nat.pow_le_pow_right (by decide) h
 have h3:((1048576 ^ (dig n).length:Nat):Int)=1048576 ^ (dig n).length:=by simp
 omega
theorem y2d {m n:Nat} (h:m<=n):(dig m).length<=(dig n).length:=ynj (Nat.lt_of_le_of_lt h (v71 (Nat.le_refl _)))
def x5q (L:List Int):Nat->Nat
 | 0=>0
 | n+1=>if L.getD n 0=0 then x5q L n else n+1
theorem vs3 (L:List Int):∀ n,x5q L n<=n
 | 0=>Nat.le_refl _
 | n+1=>by unfold x5q;split;exact Nat.le_succ_of_le (vs3 L n);exact Nat.le_refl _
def w04 (L:List Int):List Int:=L.take (x5q L L.length)
theorem y4g (L:List Int):(w04 L).length=x5q L L.length:=by
 have:=vs3 L L.length
 simp [w04];omega
theorem yei (L:List Int):∀ n,n<=L.length->norm (L.take (x5q L n))/\num (L.take (x5q L n))=num (L.take n)
 | 0,_=>by simp [x5q,norm]
 | n+1,h=>by
  unfold x5q
  split
  . rename_i h0;obtain ⟨h1,h2⟩:=yei L n (by omega);refine ⟨h1,?_⟩;rw [h2,vb6,h0];simp
  . rename_i h0;refine ⟨fun _=>?_,rfl⟩;rw [show (L.take (n+1)).length-1=n by simp;omega,yhw (by omega)];exact h0
theorem zju {L:List Int} (hd:digits L):w04 L=dig (num L).toNat:=by
 have h:=yei L L.length (Nat.le_refl _);rw [List.take_length] at h;exact ws0 (hd.take _) h.1 h.2
theorem xah {L:List Int} {n:Int} (hd:digits L) (h:num L=n):w04 L=dig n.toNat:=by rw [<-h];exact zju hd
theorem v88 (n:Nat):w04 (dig n)=dig n:=by rw [zju (zkp n),x2o];rfl
theorem wju (L:List Int):(w04 L).length<=L.length:=by rw [y4g];exact vs3 _ _
theorem zcd:∀(l:List Int) (n:Nat),num (l.drop n)=l.getD n 0+1048576*num (l.drop (n+1))
 | [],n=>by simp [num]
 | d::l,0=>by simp [num]
 | d::l,n+1=>by simpa using zcd l n
theorem wsg {l:List Int} {i:Nat} (x:Int) (h:i<l.length):(l.set i x).drop i=x::l.drop (i+1):=by
 rw [List.drop_set,if_neg (by omega),Nat.sub_self]
 cases hh:l.drop i with
 | nil=>have:=congrArg List.length hh;simp at this;omega
 | cons y r=>rw [List.set_cons_zero,<-List.drop_drop,hh];rfl
def ord (x y:Int):Int:=if x<y then -1 else if y<x then 1 else 0
theorem vl9 {a b:List Int} (ha:digits a) (na:norm a) (hb:digits b) (nb:norm b) (h:a.length<b.length):num a<num b:=by
 rw [zo9 ha na,zo9 hb nb] at h
 have h1:¬(num b).toNat<=(num a).toNat:=fun h2=>by have:=y2d h2;omega
 have:=num_nonneg ha
 omega
theorem xyg {a b:List Int} (ha:digits a) (hb:digits b) (hl:a.length=b.length) (i:Nat) (hi:i<a.length) (h:a.drop (i+1)=b.drop (i+1)) (hlt:a.getD i 0<b.getD i 0):num a<num b:=by
 rw [yj4 a i,yj4 b i,zcd a,zcd b,h];have h1:=vt2 (ha.take i);have h2:=num_nonneg (hb.take i)
 have e1:(a.take i).length=i:=by simp;omega
 have e2:(b.take i).length=i:=by simp;omega
 rw [e1] at h1 ⊢;rw [e2];have hp:=xo9 i;generalize (1048576:Int) ^ i=P at *;generalize num (b.drop (i+1))=T;have h3:P*(a.getD i 0+1)<=P*b.getD i 0:=Int.mul_le_mul_of_nonneg_left (by omega) (by omega);rw [Int.mul_add,Int.mul_add];rw [Int.mul_add] at h3;omega
def fixd:Nat->Int->List Int
 | 0,_=>[]
 | n+1,z=>z % 1048576::fixd n (z / 1048576)
theorem zyu:∀{l:List Int},digits l->l=fixd l.length (num l)
 | [],_=>rfl
 | d::l,h=>by
  have h1:=h.head;have h2:=zyu h.tail
  have e1:(d+1048576*num l) % 1048576=d:=by omega
  have e2:(d+1048576*num l) / 1048576=num l:=by omega
  simp only [List.length_cons,fixd,num,e1,e2];rw [<-h2]
theorem z4r {l:List Int} {n:Nat} {z:Int} (h:digits l) (hn:l.length=n) (hz:num l=z):l=fixd n z:=by rw [<-hn,<-hz];exact zyu h
theorem v2z:∀(n:Nat) (z:Int),(fixd n z).length=n
 | 0,_=>rfl
 | n+1,z=>by simp [fixd,v2z n]
theorem y1g:∀(n:Nat) (z:Int),digits (fixd n z)
 | 0,_=>digits.nil
 | n+1,z=>digits.cons (by omega) (y1g n _)
theorem vq0:∀(n:Nat) (z:Int),0<=z->z<1048576 ^ n->num (fixd n z)=z
 | 0,z,h1,h2=>by simp at h2;simp [fixd,num];omega
 | n+1,z,h1,h2=>by
  rw [Int.pow_succ] at h2;simp only [fixd,num];rw [vq0 n (z / 1048576) (by omega) (by omega)];omega
theorem yct (n:Int):iand .i64 n 1048575=n % 1048576:=by
 unfold iand
 have h1:(BitVec.ofInt IntKind.i64.bits n &&&BitVec.ofInt IntKind.i64.bits 1048575).toNat=(n % 1048576).toNat:=by
  show (BitVec.ofInt 64 n &&&BitVec.ofInt 64 1048575).toNat=_;rw [BitVec.toNat_and,BitVec.toNat_ofInt,BitVec.toNat_ofInt]
  have:((1048575:Int) % ((2 ^ 64:Nat):Int)).toNat=2 ^ 20-1:=by decide
  rw [this,Nat.and_two_pow_sub_one_eq_mod];omega
 rw [h1,w64 (by omega)];omega
theorem and1 (n:Int):iand .i64 n 1=n % 2:=by
 unfold iand
 have h1:(BitVec.ofInt IntKind.i64.bits n &&&BitVec.ofInt IntKind.i64.bits 1).toNat=(n % 2).toNat:=by
  show (BitVec.ofInt 64 n &&&BitVec.ofInt 64 1).toNat=_;rw [BitVec.toNat_and,BitVec.toNat_ofInt,BitVec.toNat_ofInt]
  have:((1:Int) % ((2 ^ 64:Nat):Int)).toNat=2 ^ 1-1:=by decide
  rw [this,Nat.and_two_pow_sub_one_eq_mod];omega
 rw [h1,w64 (by omega)];omega
theorem zj4 (n:Int):ishr .i64 n 20=n / 1048576:=by
 unfold ishr
 have:(2:Int) ^ (min (20:Int).toNat IntKind.i64.bits)=1048576:=by decide
 rw [this,Int.fdiv_eq_ediv_of_nonneg _ (by decide)]
theorem wnj {n:Int} (h:-8796093022208<=n/\n<8796093022208):ishl .i64 n 20=n*1048576:=by
 unfold ishl
 have:(2:Int) ^ (min (20:Int).toNat IntKind.i64.bits)=1048576:=by decide
 rw [this,w64 (by omega)]
theorem or20 {a d:Int} (ha:0<=a/\a<8796093022208) (hd:0<=d/\d<=1048575):ior .i64 (a*1048576) d=a*1048576+d:=by
 unfold ior
 have h1:(BitVec.ofInt IntKind.i64.bits (a*1048576) |||BitVec.ofInt IntKind.i64.bits d).toNat=(a*1048576+d).toNat:=by
  show (BitVec.ofInt 64 (a*1048576) |||BitVec.ofInt 64 d).toNat=_;rw [BitVec.toNat_or,BitVec.toNat_ofInt,BitVec.toNat_ofInt]
  have e1:((a*1048576) % ((2 ^ 64:Nat):Int)).toNat=a.toNat <<< 20:=by rw [Nat.shiftLeft_eq];omega
  have e2:(d % ((2 ^ 64:Nat):Int)).toNat=d.toNat:=by omega
  rw [e1,e2,<-Nat.shiftLeft_add_eq_or_of_lt (by omega),Nat.shiftLeft_eq];omega
 rw [h1,w64 (by omega)];omega
end Go.Slot
namespace Go.Slot
open Go Go.RowKit
theorem w8t (l:List Int) (n:Nat) (hn:2<=n) (hl:l.length=n):num l=(l.getD (n-1) 0*1048576+l.getD (n-2) 0)*1048576 ^ (n-2)+num (l.take (n-2)):=by
 obtain ⟨m,rfl⟩:∃ m,n=m+2:=⟨n-2,by omega⟩;have h1:=vb6 l (m+1);have h2:=vb6 l m;rw [wk9 (by omega)] at h1;rw [h1,h2,show m+2-1=m+1 by omega,show m+2-2=m by omega,Int.pow_succ]
 grind
theorem z8p (l:List Int) (n:Nat) (hn:2<=n) (hl:l.length=n+1) :
 num l=((l.getD n 0*1048576+l.getD (n-1) 0)*1048576+l.getD (n-2) 0)*1048576 ^ (n-2)+num (l.take (n-2)):=by
 obtain ⟨m,rfl⟩:∃ m,n=m+2:=⟨n-2,by omega⟩;have h1:=vb6 l (m+2);have h2:=vb6 l (m+1);have h3:=vb6 l m;rw [wk9 (by omega)] at h1;rw [h1,h2,h3,show m+2-1=m+1 by omega,show m+2-2=m by omega,Int.pow_succ,Int.pow_succ]
 grind
section
variable {W V P t u2 v1 v2 w0 v0 g rest:Int}
theorem wbl (hP:0<P) (hW:W=(t*1048576+u2)*P+w0) (hw:w0<P) (hu:u2<=1048575) (hV:V=(v1*1048576+v2)*P+v0) (hv0:0<=v0) (hv2:0<=v2) (hg:t+1<=(g+1)*v1) (hg0:0<=g):W<(g+1)*V:=by
 have h1:(t+1)*1048576*P<=(g+1)*v1*1048576*P:=Int.mul_le_mul_of_nonneg_right (Int.mul_le_mul_of_nonneg_right hg (by decide)) (Int.le_of_lt hP);have h2:0<=(g+1)*(v2*P+v0):=Int.mul_nonneg (by omega) (Int.add_nonneg (Int.mul_nonneg hv2 (Int.le_of_lt hP)) hv0);have h3:u2*P<=1048575*P:=Int.mul_le_mul_of_nonneg_right hu (Int.le_of_lt hP)
 have e1:(g+1)*V=(g+1)*v1*1048576*P+(g+1)*(v2*P+v0):=by rw [hV];grind
 have e2:(t*1048576+u2)*P=(t+1)*1048576*P-1048576*P+u2*P:=by grind
 omega
theorem za7 (hP:0<P) (hW:W=(t*1048576+u2)*P+w0) (hw:w0<P) (hV:V=(v1*1048576+v2)*P+v0) (hv0:0<=v0) (hg0:0<=g) (ht:t=g*v1+rest) (hc:rest*1048576+u2<g*v2):W<g*V:=by
 have h1:(t*1048576+u2+1)*P<=g*(v1*1048576+v2)*P:=by
  apply Int.mul_le_mul_of_nonneg_right _ (Int.le_of_lt hP)
  have:g*(v1*1048576+v2)=g*v1*1048576+g*v2:=by grind
  omega
 have h2:0<=g*v0:=Int.mul_nonneg hg0 hv0
 have e1:g*V=g*(v1*1048576+v2)*P+g*v0:=by rw [hV];grind
 have e2:(t*1048576+u2+1)*P=(t*1048576+u2)*P+P:=by grind
 omega
theorem vnc (hP:0<P) (hW:W=(t*1048576+u2)*P+w0) (hw:0<=w0) (hu2:0<=u2) (hV:V=(v1*1048576+v2)*P+v0) (hv0:v0<P) (hv1:1<=v1) (hv2:0<=v2/\v2<=1048575) (hV0:0<V) (hW0:0<=W) (hg0:0<=g) (hg1:g<=1048575) (ht:t=g*v1+rest)
 (hc:1048576<=rest\/g*v2<=rest*1048576+u2):(g-1)*V<=W:=by
 by_cases h0:g=0
 . subst h0
   have:(0-1)*V = - V:=by grind
   omega
 have hg:0<=g-1:=by omega
 have hb:(g-1)*(v1*1048576+v2+1)<=t*1048576+u2:=by
  have e:(g-1)*(v1*1048576+v2+1)=g*v1*1048576+g*v2+g-v1*1048576-v2-1:=by grind
  rcases hc with hc | hc
  . have h1:g*v2<=g*1048575:=Int.mul_le_mul_of_nonneg_left hv2.2 hg0;rw [e,ht]
    have:(g*v1+rest)*1048576=g*v1*1048576+rest*1048576:=by grind
    omega
  . rw [e,ht]
    have:(g*v1+rest)*1048576=g*v1*1048576+rest*1048576:=by grind
    omega
 have h1:(g-1)*(v1*1048576+v2+1)*P<=(t*1048576+u2)*P:=Int.mul_le_mul_of_nonneg_right hb (Int.le_of_lt hP);have h2:(g-1)*v0<=(g-1)*P:=Int.mul_le_mul_of_nonneg_left (Int.le_of_lt hv0) hg
 have e1:(g-1)*V=(g-1)*(v1*1048576+v2+1)*P-(g-1)*P+(g-1)*v0:=by rw [hV];grind
 omega
end
theorem vp3 {l:List Int} (hd:digits l) (hn:norm l) (h:l≠[]):1048576 ^ (l.length-1)<=num l:=by
 have hp:0<l.length:=List.length_pos_iff.2 h;have h1:=vb6 l (l.length-1);rw [wk9 (by omega)] at h1;have h2:=num_nonneg (hd.take (l.length-1));have h3:=hn h;have h4:=hd.getD (l.length-1);have h5:=Int.mul_le_mul_of_nonneg_left (show (1:Int)<=l.getD (l.length-1) 0 by omega) (Int.le_of_lt (xo9 (l.length-1)));rw [Int.mul_one] at h5;omega
theorem w9p (w:List Int) (i k:Nat) (h:i+k<=w.length):num w=num (w.take i)+1048576 ^ i*num ((w.drop i).take k)+1048576 ^ (i+k)*num (w.drop (i+k)):=by
 have h1:=yj4 w i;have h2:=yj4 (w.drop i) k
 have e1:(w.take i).length=i:=by simp;omega
 have e2:((w.drop i).take k).length=k:=by simp;omega
 rw [e1] at h1;rw [e2,List.drop_drop] at h2;rw [h1,h2,Int.pow_add]
 grind
theorem vws (w d:List Int) (i k:Nat) (h:i+k<=w.length) (hd:d.length=k):num (w.take i++d++w.drop (i+k))=num (w.take i)+1048576 ^ i*num d+1048576 ^ (i+k)*num (w.drop (i+k)):=by
 have e1:(w.take i).length=i:=by simp;omega
 rw [zdf,zdf,List.length_append,e1,hd]
theorem wyo {a b s q w:Int} (hs:0<s) (hb:0<b) (he:a*s=b*s*q+w) (h0:0<=w) (h1:w<b*s):a / b=q/\a % b=w / s:=by
 have hbs:0<b*s:=Int.mul_pos hb hs
 have hq:a / b=q:=by
  rw [<-Int.mul_ediv_mul_of_pos_left a b hs,he,Int.add_comm,Int.add_mul_ediv_left _ _ (by omega),Int.ediv_eq_zero_of_lt h0 h1];omega
 refine ⟨hq,?_⟩;have h2:=Int.emod_add_mul_ediv a b;rw [hq] at h2
 have h3:w=(a % b)*s:=by
  have:(a % b+b*q)*s=b*s*q+w:=by rw [h2];exact he
  have h4:(a % b+b*q)*s=a % b*s+b*s*q:=by grind
  omega
 rw [h3,Int.mul_ediv_cancel _ (by omega)]
theorem yw5 {l:List Int} {i n k:Nat} (h:k<n):((l.drop i).take n).getD k 0=l.getD (i+k) 0:=by
 rw [yhw h,List.getD_eq_getElem?_getD,List.getElem?_drop,List.getD_eq_getElem?_getD]
def sg (z:Int):Int:=if z<0 then -1 else if 0<z then 1 else 0
theorem zla {z:Int} (h:0<z):sg z=1:=by unfold sg;rw [if_neg (by omega),if_pos h]
theorem x1t {z:Int} (h:z<0):sg z = -1:=by unfold sg;rw [if_pos h]
theorem x16:sg 0=0:=rfl
theorem vrj (z:Int):(z<0/\sg z = -1)\/(z=0/\sg z=0)\/(0<z/\sg z=1):=by
 rcases Int.lt_trichotomy z 0 with h | h | h
 . exact .inl ⟨h,x1t h⟩
 . exact .inr (.inl ⟨h,by rw [h];rfl⟩)
 . exact .inr (.inr ⟨h,zla h⟩)
def zC (z:Int):List Cell:=[.raw (.int .i64 (sg z)),.ints .i64 (dig z.natAbs)]
def vbo (s:Int) (L:List Int):Prop:=digits L/\((L=[]/\s=0)\/(L≠[]/\(s=1\/s = -1)/\L.getD (L.length-1) 0≠0))
instance (s:Int) (L:List Int):Decidable (vbo s L):=inferInstanceAs (Decidable (_/\_))
theorem zj0 (s:Int) (L:List Int):vbo s L↔∃ z:Int,s=sg z/\L=dig z.natAbs:=by
 constructor
 . rintro ⟨hd,⟨rfl,rfl⟩ | ⟨hne,hs,htop⟩⟩
   . exact ⟨0,rfl,by rw [show (0:Int).natAbs=0 from rfl,vhp]⟩
   . have hn:norm L:=fun _=>htop
     have hp:=norm.pos hd hn hne
     rcases hs with rfl | rfl
     . exact ⟨num L,(zla hp).symm,by rw [show (num L).natAbs=(num L).toNat by omega];exact zo9 hd hn⟩
     . exact ⟨-num L,(x1t (by omega)).symm,by rw [show (-num L).natAbs=(num L).toNat by omega];exact zo9 hd hn⟩
 . rintro ⟨z,rfl,rfl⟩;refine ⟨zkp _,?_⟩
   rcases vrj z with ⟨h,e⟩ | ⟨h,e⟩ | ⟨h,e⟩
   . exact .inr ⟨fun h'=>by have:=yqy.1 h';omega,.inr e,y91 _ (fun h'=>by have:=yqy.1 h';omega)⟩
   . exact .inl ⟨by rw [h,show (0:Int).natAbs=0 from rfl,vhp],e⟩
   . exact .inr ⟨fun h'=>by have:=yqy.1 h';omega,.inl e,y91 _ (fun h'=>by have:=yqy.1 h';omega)⟩
theorem ygw (z:Int):vbo (sg z) (dig z.natAbs):=(zj0 _ _).2 ⟨z,rfl,rfl⟩
def fits (k:Nat) (z:Int):Prop:=(dig z.natAbs).length<=k
theorem vu4 (z:Int):num (dig z.natAbs)=z.natAbs:=x2o _
theorem zrr (a b:Nat):(dig (a+b)).length<=max (dig a).length (dig b).length+1:=by
 apply ynj;have h1:=v71 (n:=a) (k:=max (dig a).length (dig b).length) (Nat.le_max_left _ _);have h2:=v71 (n:=b) (k:=max (dig a).length (dig b).length) (Nat.le_max_right _ _);rw [Nat.pow_succ];omega
theorem wwv (a b:Nat):(dig (a*b)).length<=(dig a).length+(dig b).length:=by
 apply ynj;rw [Nat.pow_add];have h1:=v71 (n:=a) (Nat.le_refl _);have h2:=v71 (n:=b) (Nat.le_refl _);exact Nat.mul_lt_mul_of_lt_of_lt h1 h2
theorem zvy (x y:Int):(dig (x+y).natAbs).length<=max (dig x.natAbs).length (dig y.natAbs).length+1:=
 Nat.le_trans (y2d (by omega)) (zrr x.natAbs y.natAbs)
theorem xoj (x y:Int):(dig (x*y).natAbs).length<=(dig x.natAbs).length+(dig y.natAbs).length:=by
 rw [Int.natAbs_mul];exact wwv _ _
theorem xqv {x y q r:Int} (h:x=y*q+r) (h0:0<=r) (h1:r<y):x / y=q/\x % y=r:=by
 rw [h,Int.add_comm];refine ⟨?_,?_⟩
 . rw [Int.add_mul_ediv_left _ _ (by omega),Int.ediv_eq_zero_of_lt h0 h1];omega
 . rw [Int.add_mul_emod_self_left,Int.emod_eq_of_lt h0 h1]
theorem ybc {s z:Int} (h:(s=1/\0<=z)\/(s = -1/\z<=0)\/z=0):[Cell.raw (.int .i64 (if w04 (dig z.natAbs)=[] then 0 else s)),Cell.ints .i64 (w04 (dig z.natAbs))]=zC z:=by
 rw [v88];unfold zC;by_cases h0:z=0
 . subst h0;rw [if_pos (by rw [show (0:Int).natAbs=0 from rfl,vhp])];rfl
 . rw [if_neg (fun h'=>by have:=yqy.1 h';omega)]
   rcases h with ⟨rfl,h⟩ | ⟨rfl,h⟩ | h
   . rw [zla (by omega)]
   . rw [x1t (by omega)]
   . exact absurd h h0
theorem ygh (x y:Int) (h:sg x≠sg y):ord (sg x) (sg y)=ord x y:=by
 rcases vrj x with ⟨h1,e1⟩ | ⟨h1,e1⟩ | ⟨h1,e1⟩<;>rcases vrj y with ⟨h2,e2⟩ | ⟨h2,e2⟩ | ⟨h2,e2⟩<;>rw [e1,e2] at h ⊢<;>unfold ord<;>first | (exact absurd rfl h) | (repeat' split)<;>omega
theorem zfr (x y:Int) (h:sg x=sg y):sg x*ord (num (dig x.natAbs)) (num (dig y.natAbs))=ord x y:=by
 rw [vu4,vu4]
 rcases vrj x with ⟨h1,e1⟩ | ⟨h1,e1⟩ | ⟨h1,e1⟩<;>rcases vrj y with ⟨h2,e2⟩ | ⟨h2,e2⟩ | ⟨h2,e2⟩<;>rw [e1] at h ⊢<;>rw [e2] at h<;>first | omega | (unfold ord;(repeat' split)<;>omega)
end Go.Slot
namespace Go.Hp
open Go Go.RowKit Go.Slot
variable {Γ:List (Nat×List Cell)} {e:List SB}
theorem StH.cutN {J J':List SV} {η η':List SB} (ks:List Nat) (m:Nat) (hm:Nat.ble e.length m=true) (h:z6m m (v4u ks 0 J) η=true) (hk:StH Γ e (v4u ks 0 J) (η.take m) J' η'):StH Γ e J η J' η':=
 StH.trans (StH.only ks) (StH.trans (StH.cutB m (by simpa using hm) h) hk)
end Go.Hp
namespace Go.Hp.T
open Go Go.RowKit Go.Slot Go.Hp Go.Slot.T
open Go.Proofs.Tryz
attribute [local irreducible] hide RH
set_option maxRecDepth 10000
set_option maxHeartbeats 4000000
variable {Γ:List (Nat×List Cell)}
theorem v3b (s:Int) (L:List Int) (hL:L.length<4611686018427387904):CallsD Γ prog 45 [.agg [.raw (.int .i64 s),.ints .i64 L]] (.one (.raw (.bool (decide (vbo s L))))):=by
 generalize hR:decide (vbo s L)=R
 have bad:¬vbo s L->R=false:=fun h=>by rw [<-hR];exact decide_eq_false h
 refine hE [] func45 f45.eq_1 ?_;refine vi3 [1,3,10,11] (fun i:Nat=>[(12,.one (.dat (cI i)))]) (fun _=>[.box [.dat (cI s),.dat (.ints .i64 L)] (some 49)])
  (fun i=>i<=L.length/\digits (L.take i)) (fun i=>L.length-i) 0 ⟨Nat.zero_le _,by simp [digits]⟩ ?_ ?_
 . refine hg ?_;exact sS
 rintro i ⟨hi,hd⟩;refine hg ?_;refine vdi (fun h _=>?_) (fun h _=>?_)
 . have hi':i<L.length:=by omega
   have hget:L.getD i 0=L[i]:=by simp [hi']
   have hmem:L[i]∈L:=List.getElem_mem hi'
   have hbad:¬(0<=L.getD i 0/\L.getD i 0<=1048575)->R=false:=fun hn=>bad (fun hr=>hn (by rw [hget];exact hr.1 _ hmem))
   have hnx:0<=L.getD i 0->L.getD i 0<=1048575->digits (L.take (i+1)):=fun h1 h2 x hx=>by
    rw [List.take_add_one,List.mem_append] at hx
    rcases hx with hx | hx
    . exact hd x hx
    . simp [hi'] at hx;subst hx;rw [<-hget];omega
   clear hd hget hmem bad hR;refine hg ?_
   repeat' ((first | refine hfk ?_ ?_<;>intros | refine hik ?_)<;>refine hgS ?_)
   all_goals first
    | exact RLe.ofEq rfl
    | exact ⟨i+1,⟨by omega,hnx (by omega) (by omega)⟩,by omega,sS⟩
 . have hi':i=L.length:=by omega
   have hdig:digits L:=by rw [hi',List.take_length] at hd;exact hd
   have e:((L.length:Int)-1).toNat=L.length-1:=by omega
   have hfin:R=(bif decide ((L.length:Int)=0) then decide (s=0) else (decide (s=1)||decide (s = -1))&&decide (¬L.getD (L.length-1) 0=0)):=by
    rw [<-hR];by_cases h0:L=[]
    . subst h0;show decide (vbo s [])=decide (s=0);apply decide_eq_decide.2;simp [vbo,digits]
    . have:L.length≠0:=fun e=>h0 (List.eq_nil_of_length_eq_zero e)
      rw [decide_eq_false (by omega:¬(L.length:Int)=0),cond_false,<-Bool.decide_or,<-Bool.decide_and];apply decide_eq_decide.2;simp only [vbo];constructor
      . rintro ⟨_,⟨h4,_⟩ | ⟨_,h5,h4⟩⟩
        . exact absurd h4 h0
        . exact ⟨h5,h4⟩
      . exact fun h4=>⟨hdig,.inr ⟨h0,h4.1,h4.2⟩⟩
   rw [hfin];clear hfin hdig hd bad hR;refine hg1 @e ?_
   repeat' ((first | refine hfk ?_ ?_<;>intros | refine hik ?_)<;>refine hgS ?_)
   all_goals refine lfE ?_;first | exact trivial | rfl
theorem wnv (L:List Int) (hL:L.length<4611686018427387904):CallsD Γ prog 144 [.one (.ints .i64 L)] (.one (.ints .i64 (L.take (x5q L L.length)))):=by
 generalize hR:x5q L L.length=R;refine hE [] func144 f144.eq_1 ?_;refine vi3 [0] (fun n:Nat=>[(3,.one (.dat (cI n)))]) (fun _=>[]) (fun n=>n<=L.length/\R=x5q L n) (fun n=>n) L.length ⟨Nat.le_refl _,hR.symm⟩ ?_ ?_
 . refine hg ?_;exact sS
 clear hR;rintro n ⟨hn,ht⟩
 cases n with
 | zero=>
  have ht:R=0:=ht;refine hg ?_
  repeat' ((first | refine hfk ?_ ?_<;>intros | refine hik ?_)<;>refine hgS ?_)
  all_goals first
   | (exfalso;omega)
   | exact RLe.ofEq rfl
 | succ m=>
  have e:((m+1:Nat):Int)-1=(m:Nat):=by omega
  by_cases h2:L.getD m 0=0
  . have ht':R=x5q L m:=by rw [ht];simp only [x5q];rw [if_pos h2]
    clear ht;refine hg1 @e ?_
    repeat' ((first | refine hfk ?_ ?_<;>intros | refine hik ?_)<;>refine hgS ?_)
    all_goals first
     | (exfalso;omega)
     | exact ⟨m,⟨by omega,by first | exact ht' | rfl⟩,by omega,sS⟩
  . have ht':R=m+1:=by rw [ht];simp only [x5q];rw [if_neg h2]
    clear ht;refine hg1 @e ?_
    repeat' ((first | refine hfk ?_ ?_<;>intros | refine hik ?_)<;>refine hgS ?_)
    all_goals first
     | (exfalso;omega)
     | exact RLe.ofEq rfl
theorem wfd (L:List Int) (hL:L.length<4611686018427387904) (k:Nat) (T:Option TypeId):z00 Γ prog 144 [.arr (.ints .i64 L) k T] [.one (.sl 0 1 0 L.length)] [.arr (.ints .i64 L) k T] (.one (.sl 0 1 0 (x5q L L.length))):=by
 generalize hR:x5q L L.length=R;refine hEh [] func144 f144.eq_1 ?_;refine vi3 [0] (fun n:Nat=>[(3,.one (.dat (cI n)))]) (fun _=>[.arr (.ints .i64 L) k T]) (fun n=>n<=L.length/\R=x5q L n) (fun n=>n) L.length ⟨Nat.le_refl _,hR.symm⟩ ?_ ?_
 . refine hg ?_;exact sS
 clear hR;rintro n ⟨hn,ht⟩
 cases n with
 | zero=>
  have ht:R=0:=ht;refine hg ?_
  repeat' ((first | refine hfk ?_ ?_<;>intros | refine hik ?_)<;>refine hgS ?_)
  all_goals first
   | (exfalso;omega)
   | exact StH.vf8 rfl (by kernel_rfl) rfl
 | succ m=>
  have e:((m+1:Nat):Int)-1=(m:Nat):=by omega
  by_cases h2:L.getD m 0=0
  . have ht':R=x5q L m:=by rw [ht];simp only [x5q];rw [if_pos h2]
    clear ht;refine hg1 @e ?_
    repeat' ((first | refine hfk ?_ ?_<;>intros | refine hik ?_)<;>refine hgS ?_)
    all_goals first
     | (exfalso;omega)
     | exact ⟨m,⟨by omega,by first | exact ht' | rfl⟩,by omega,sS⟩
  . have ht':R=m+1:=by rw [ht];simp only [x5q];rw [if_neg h2]
    clear ht;refine hg1 @e ?_
    repeat' ((first | refine hfk ?_ ?_<;>intros | refine hik ?_)<;>refine hgS ?_)
    all_goals first
     | (exfalso;omega)
     | exact StH.vf8 rfl (by kernel_rfl) rfl
def bigC (s:Int) (L:List Int):List Cell:=[.raw (.int .i64 s),.ints .i64 L]
abbrev bigA (s:Int) (L:List Int):List Cell:=[.raw (.int .i64 s),.ints .i64 L]
theorem bigZ {s:Int}:AV.Le (.agg [cI s,.zc]) (.agg (bigA s [])):=.agg (.cons (.refl _) (.cons (.ypo _) .nil))
theorem yib (s:Int) (L:List Int) (hL:L.length<4611686018427387904) :
 CallsD Γ prog 89 [.one (.raw (.int .i64 s)),.one (.ints .i64 L)] (.agg (bigA (if w04 L=[] then 0 else s) (w04 L))):=by
 have ht:CallsD Γ prog 144 [.one (.ints .i64 L)] (.one (.ints .i64 (w04 L))):=wnv L hL;generalize w04 L=M at ht;by_cases h0:M=[]
 . subst h0;rw [if_pos rfl];refine hE [] func89 f89.eq_1 ?_
   repeat' ((first | refine hfk ?_ ?_<;>intros | refine hik ?_ | with_reducible first | refine w5a (ht) ?_ | refine xqd (ht) ?_)<;>refine hgS ?_)
   all_goals first
    | (exfalso;omega)
    | exact .one bigZ
 . rw [if_neg h0]
   have h1:¬(M.length:Int)=0:=fun h=>h0 (List.eq_nil_of_length_eq_zero (by omega))
   refine hE [] func89 f89.eq_1 ?_
   repeat' ((first | refine hfk ?_ ?_<;>intros | refine hik ?_ | with_reducible first | refine w5a (ht) ?_ | refine xqd (ht) ?_)<;>refine hgS ?_)
   exact RLe.ofEq rfl
theorem yzg (b:Bool) (s:Int) (L:List Int) :
 CallsD Γ prog 86 [.one (.raw (.bool b)),.agg (bigA s L)] (.tup [.agg (if b then bigA s L else bigA 0 []),.one (.raw (.int .i64 (if b then 0 else 1)))]):=by
 cases b with
 | true=>
  refine hE [] func86 f86.eq_1 ?_
  repeat' ((first | refine hfk ?_ ?_<;>intros | refine hik ?_)<;>refine hgS ?_)
  exact RLe.ofEq rfl
 | false=>
  refine hE [] func86 f86.eq_1 ?_
  repeat' ((first | refine hfk ?_ ?_<;>intros | refine hik ?_)<;>refine hgS ?_)
  exact .tup (.cons bigZ (.cons (.refl _) .nil))
end Go.Hp.T
