/- The proof, part Y27: Ic, Im, Ie, Id, If, Ii, Og, Nc. -/
import Derived.Test.YtmegdbbbllffkaaGreatDoorY26
import Derived.Test.YtmegdbbbllffkaaGreatDoorY24
import Derived.Laws.Strings
import Derived.Test.YtmegdbbbllffkaaGreatDoorChecked
namespace Go.Hp
open Go Go.RowKit Go.Slot
variable {P:Program} {Γ:List (Nat×List Cell)} {e:List SB} {G:List (Nat×List GhH)}
theorem xtq {p:Prop} [Decidable p] {X Y:Bool->Prop} (hx:p->decide p=true->X true) (hy:¬p->decide p=false->Y true):xuy (decide p) true X Y:=⟨fun h=>hx (of_decide_eq_true h) h,fun h=>hy (of_decide_eq_false h) h⟩
theorem zwd {p:Prop} [Decidable p] {X Y:Bool->Prop} (hx:¬p->decide p=false->X true) (hy:p->decide p=true->Y true):xuy (decide p) false X Y:=⟨fun h=>hx (of_decide_eq_false h) h,fun h=>hy (of_decide_eq_true h) h⟩
theorem wpf {c:Bool} {X Y:Bool->Prop} (hx:c=true->X true) (hy:c=false->Y true):xuy c true X Y:=⟨hx,hy⟩
theorem y4y {c:Bool} {X Y:Bool->Prop} (hx:c=false->X true) (hy:c=true->Y true):xuy c false X Y:=⟨hx,hy⟩
theorem zkv {p:Prop} [Decidable p] {X Y:Bool->Prop} (hx:p->decide p=true->X true) (hy:¬p->decide p=false->Y true):z4j (decide p) X Y:=⟨fun h=>hx (of_decide_eq_true h) h,fun h=>hy (of_decide_eq_false h) h⟩
theorem x7y {c:Bool} {X Y:Bool->Prop} (hx:c=true->X true) (hy:c=false->Y true):z4j c X Y:=⟨hx,hy⟩
theorem w50 {c:Bool} {X Y:Bool->Prop} (hx:c=false->X true) (hy:c=true->Y true):xuy (!c) true X Y:=⟨fun h=>hx (by simpa using h),fun h=>hy (by simpa using h)⟩
theorem zf1 {c:Bool} {X Y:Bool->Prop} (hx:c=true->X true) (hy:c=false->Y true):xuy (!c) false X Y:=⟨fun h=>hx (by simpa using h),fun h=>hy (by simpa using h)⟩
theorem whn {c:Bool} {X Y:Bool->Prop} (hx:c=false->X true) (hy:c=true->Y true):z4j (!c) X Y:=⟨fun h=>hx (by simpa using h),fun h=>hy (by simpa using h)⟩
theorem hg {p q:Prop} (k:q) (h:p=q:=by conv=>lhs;simp (maxSteps:=2000000) (disch:=omega) only [go_sem,Nat.reduceAdd,Nat.reduceSub,Nat.reduceMul,Int.reduceToNat,Nat.reduceEqDiff,Nat.reduceBEq,Nat.reduceBneDiff,Nat.reduceLT,Int.reduceEq,Int.reduceLT,Int.reduceLE,Int.reduceNeg,Int.reduceAdd,Int.reduceSub,Int.reduceMul]):p:=Eq.mpr h k
theorem hgS {p q:Prop} (k:q) (h:p=q:=by conv=>lhs;simp (maxSteps:=2000000) (disch:=omega) only [go_sem,Nat.reduceAdd,Nat.reduceSub,Nat.reduceMul,Int.reduceToNat,Nat.reduceEqDiff,Nat.reduceBEq,Nat.reduceBneDiff,Nat.reduceLT,Int.reduceEq,Int.reduceLT,Int.reduceLE,Int.reduceNeg,Int.reduceAdd,Int.reduceSub,Int.reduceMul, *]):p:=Eq.mpr h k
theorem hgR {p q:Prop} (k:q) (h:p=q:=by conv=>lhs;simp (maxSteps:=2000000) (disch:=omega) only [go_sem,Nat.reduceAdd,Nat.reduceSub,Nat.reduceMul,Int.reduceToNat,Nat.reduceEqDiff,Nat.reduceBEq,Nat.reduceBneDiff,Nat.reduceLT,Int.reduceEq,Int.reduceLT,Int.reduceLE,Int.reduceNeg,Int.reduceAdd,Int.reduceSub,Int.reduceMul,List.replicate]):p:=Eq.mpr h k
theorem hfk {p q r:Prop} (k:q) (l:r) (h:q->r->p:=by with_reducible first | exact fun a b=>xtq a b | exact fun a b=>zwd a b | exact fun a b=>w50 a b | exact fun a b=>zf1 a b | exact fun a b=>wpf a b | exact fun a b=>y4y a b | exact fun a b=>zkv a b | exact fun a b=>whn a b | exact fun a b=>x7y a b):p:=h k l
theorem hik {ops:List Oper} {acc:List HR} {k:Bool->Prop} (hk:k true) (h:waq ops acc=true:=by kernel_rfl):y0k ops acc k:=⟨h,hk⟩
theorem svl {a b:List SV} (h:zw5 a b:=by repeat' first | exact .nil | refine .cons (by first | exact .refl _ | exact .any _) ?_):zw5 a b:=h
theorem RLe.ofEq {x y:AV} (h:x=y):RLe x y:=h▸.one (.refl _)
def swL (i j:Nat) (η:List SB):List SB:=(List.range η.length).map fun k=>swSB i j (gB η (sw i j k))
theorem zo1 {i j k n:Nat} (hi:i<n) (hj:j<n) (hk:k<n):sw i j k<n:=by unfold sw;split<;>(try split)<;>omega
theorem StH.zia {σ:List SV} {η:List SB} {i j:Nat} (hi:e.length<=i) (hj:e.length<=j) (hil:i<η.length) (hjl:j<η.length):StH Γ e σ η (σ.map (swSV i j)) (swL i j η):=by
 refine StH.swap hi hj hil hjl (fun b x hb=>.inl ?_) (by simp [swL]);have hbl:b<η.length:=(List.getElem?_eq_some_iff.1 hb).1;unfold swL;rw [List.getElem?_map,List.getElem?_range (zo1 hil hjl hbl)];simp only [Option.map_some,zhv];unfold gB;rw [hb];rfl
def wiw (m:Nat) (σ:List SV) (η:List SB):Bool:=(σ.all fun x=>(w40 x).all fun b=>Nat.blt b m)&&((η.take m).all fun x=>(vxd x).all fun b=>Nat.blt b m)
theorem StH.cutB {σ:List SV} {η:List SB} (m:Nat) (hm:e.length<=m) (h:wiw m σ η=true):StH Γ e σ η σ (η.take m):=by
 unfold wiw at h;rw [Bool.and_eq_true,List.all_eq_true,List.all_eq_true] at h;refine StH.cut hm (fun i x hx b hb=>?_) (fun i x hi hx=>.inr fun b hb=>?_)
 . have:=h.1 x (List.mem_of_getElem? hx)
   rw [List.all_eq_true] at this;simpa using this b hb
 . have:=h.2 x (List.mem_of_getElem? (by rw [List.getElem?_take_of_lt hi];exact hx))
   rw [List.all_eq_true] at this;simpa using this b hb
theorem StH.back {σ σ':List SV} {η η':List SB} (ks:List Nat) (i j m:Nat) (hi:Nat.ble e.length i=true) (hj:Nat.ble e.length j=true) (hm:Nat.ble e.length m=true) (hil:Nat.blt i η.length=true) (hjl:Nat.blt j η.length=true) (h:wiw m ((x1y ks 0 σ).map (swSV i j)) (swL i j η)=true)
 (hk:StH Γ e ((x1y ks 0 σ).map (swSV i j)) ((swL i j η).take m) σ' η'):StH Γ e σ η σ' η':=
 StH.trans (StH.only ks) (StH.trans (StH.zia (by simpa using hi) (by simpa using hj) (by simpa using hil) (by simpa using hjl)) (StH.trans (StH.cutB m (by simpa using hm) h) hk))
theorem StH.same {σ:List SV} {η:List SB} {σ':List SV} {η':List SB} (h:zw5 σ σ') (hη:η=η'):StH Γ e σ η σ' η':=hη▸StH.x97 h
theorem StH.done {σ σ':List SV} {η η':List SB} (m:Nat) (hm:Nat.ble e.length m=true) (h:wiw m σ η=true) (hσ:σ=σ') (hη:η.take m=η'):StH Γ e σ η σ' η':=
 hσ▸hη▸StH.cutB m (by simpa using hm) h
theorem vib.of {φ:List Nat} {η ηs:List SB} (h:φ.map (fun j=>η[j]?)=ηs.map (fun x=>some (rnSB (atR φ η.length) x))):vib φ η ηs:=by
 have hl:ηs.length=φ.length:=by
  have:=congrArg List.length h
  simpa using this.symm
 refine ⟨hl,fun i x hx=>?_⟩;have hi:i<ηs.length:=(List.getElem?_eq_some_iff.1 hx).1;refine ⟨φ[i]'(by omega),List.getElem?_eq_getElem _,?_⟩;have h1:=congrArg (fun l=>l[i]?) h;simp only [List.getElem?_map,hx,Option.map_some] at h1;rw [List.getElem?_eq_getElem (by omega)] at h1;simpa using h1
theorem zq1.at (φ:List Nat) {f:FuncId} {η ηs ηs':List SB} {args:List SV} {res:SV} (h:zq1 Γ P f ηs args ηs' res) (hn:φ.Nodup) (hb:(φ.all fun j=>Nat.blt j η.length)=true)
 (hp:φ.map (fun j=>η[j]?)=ηs.map (fun x=>some (rnSB (atR φ η.length) x))) (hlen:Nat.ble φ.length ηs'.length=true):zq1 Γ P f η (args.map (wnc (atR φ η.length))) (putR φ η ηs') (rnSV (atR φ η.length) res):=
 zq1.frame hn (fun j hj=>by simpa using List.all_eq_true.1 hb j hj) (vib.of hp) (by simpa using hlen) h
theorem z9v (φ:List Nat) {f:FuncId} {η ηs ηs':List SB} {args l:List SV} {res:SV} {K:Bool->List SB->SV->Prop} (h:zq1 Γ P f ηs args ηs' res) (hl:args.map (wnc (atR φ η.length))=l) (hn:φ.Nodup) (hb:(φ.all fun j=>Nat.blt j η.length)=true)
 (hp:φ.map (fun j=>η[j]?)=ηs.map (fun x=>some (rnSB (atR φ η.length) x))) (hlen:Nat.ble φ.length ηs'.length=true) (hk:K true (putR φ η ηs') (rnSV (atR φ η.length) res)):vpa Γ P f η l K:=
 hl▸wkh (zq1.at φ h hn hb hp hlen) hk
theorem z0d {a b:ByteArray}:seq a b=decide (a=b):=by
 unfold seq;rw [ByteArray.toList_eq,ByteArray.toList_eq];by_cases h:a=b
 . rw [h];simp
 . rw [decide_eq_false h]
   have:a.data.toList≠b.data.toList:=fun he=>h (ByteArray.ext (Array.toList_inj.1 he))
   simpa using this
theorem xyf {s:ByteArray}:seq s ⟨#[]⟩=decide (s.size=0):=by
 rw [z0d];refine decide_eq_decide.2 ⟨fun h=>by rw [h];rfl,fun h=>ByteArray.ext (Array.eq_empty_of_size_eq_zero h)⟩
theorem w8 {n:Int} (h:0<=n/\n<=255):IntKind.u8.wrap n=n:=by rw [IntKind.wrap_u8];omega
attribute [go_sem] w8
theorem vg7 {n:Nat}:((n:Int)-1).toNat=n-1:=by omega
attribute [go_sem] vg7
theorem x9k {p:Prop} [Decidable p]:(!decide p)=decide (¬p):=by by_cases h:p<;>simp [h]
theorem wog {σ:List SV} {t:Nat}:gt (σ.map vw) t=vw (gtS σ t):=xpo t
attribute [go_sem] wog ykt valB elemAt
attribute [go_sem] xyf x9k List.size_toArray List.length_map List.getD_cons_zero List.getD_cons_succ
attribute [go_sem] xqm v7c xex eqOf litH yhe za6 yzo usdH usH z8p xip v5v xvk eqL
attribute [go_sem] putR atR rnSB rnHC wnc rnSV List.zip_cons_cons List.zip_nil_left List.zip_nil_right List.drop_succ_cons
attribute [go_sem] swSV wae swHC swSB sw List.map_nil
end Go.Hp
namespace Go.Hp.T
open Go Go.RowKit Go.Slot Go.Hp
set_option maxRecDepth 10000
theorem toD {Γ:List (Nat×List Cell)} {P:Program} {f:FuncId} {args:List AV} {res:AV} (h:zkh P f args res):CallsD Γ P f args res:=Hp.zkh.d h
abbrev cI (n:Int):Cell:=.raw (.int .i64 n)
abbrev c8 (n:Int):Cell:=.raw (.int .u8 n)
abbrev cS (s:ByteArray):Cell:=.raw (.string s)
abbrev cB (b:Bool):Cell:=.raw (.bool b)
abbrev fN (f:FuncId):AV:=.one (.raw (.func (.func f) #[] #[]))
def zvl (s:ByteArray):List Int:=(List.range s.size).map (v7r s)
theorem wvk (s:ByteArray):(zvl s).length=s.size:=by simp [zvl]
theorem xn4 (s:ByteArray) (i:Nat) (h:i<s.size):(zvl s)[i]? = some (v7r s i):=by simp [zvl,h]
def xyw (p:Int->Bool) (s:ByteArray):Nat:=((zvl s).takeWhile p).length
theorem xur {α:Type} (p:α->Bool):∀(l:List α) (n:Nat),n<=l.length->(∀ j x,j<n->l[j]? = some x->p x=true)->(n=l.length\/∃ x,l[n]? = some x/\p x=false)->(l.takeWhile p).length=n
 | [],n,hn,_,_=>by simp at hn;simp [hn]
 | a::l,0,_,_,h=>by
  rcases h with h | ⟨x,hx,hp⟩
  . simp at h
  . simp at hx;subst hx;simp [List.takeWhile,hp]
 | a::l,n+1,hn,hj,h=>by
  have ha:p a=true:=hj 0 a (by omega) rfl;rw [List.takeWhile_cons_of_pos ha,List.length_cons,xur p l n (by simpa using hn) (fun j x h1 h2=>hj (j+1) x (by omega) (by simpa using h2)) ?_]
  rcases h with h | ⟨x,hx,hp⟩
  . exact .inl (by simpa using h)
  . exact .inr ⟨x,by simpa using hx,hp⟩
theorem zpd {p:Int->Bool} {s:ByteArray} {n:Nat} (hn:n<=s.size) (hj:∀ j,j<n->p (v7r s j)=true) (h:n=s.size\/p (v7r s n)=false):xyw p s=n:=by
 refine xur p _ n (by rw [wvk];exact hn) (fun j x h1 h2=>?_) ?_
 . rw [xn4 s j (by omega)] at h2;cases h2;exact hj j h1
 . by_cases e:n=s.size
   . exact .inl (by rw [wvk];exact e)
   . rcases h with h | h
     . exact absurd h e
     . exact .inr ⟨_,xn4 s n (by omega),h⟩
theorem w5w (p:Int->Bool) (s:ByteArray):xyw p s<=s.size:=by
 have:=(List.takeWhile_sublist p (l:=zvl s)).length_le
 rw [wvk] at this;exact this
def yf0 (c:Int):Bool:=(decide (97<=c)&&decide (c<=122))||(decide (65<=c)&&decide (c<=90))
def isDigit (c:Int):Bool:=decide (48<=c)&&decide (c<=57)
def zci (c:Int):Bool:=yf0 c||isDigit c||decide (c=95)
def vgw (c:Int):Bool:=decide (32<=c)&&decide (c<=126)
def isName (s:ByteArray):Bool:=decide (¬s.size=0)&&yf0 (v7r s 0)&&decide ((s.size:Int)<=20)&&decide ((xyw zci s:Int)=s.size)
def w6l (s:ByteArray):Bool:=!(decide (400<(s.size:Int))||decide (¬(xyw vgw s:Int)=s.size))
def escB (c:Int):List Int:=bif decide (c=34)||decide (c=92) then [92,c] else [c]
def escA (s:ByteArray) (i:Nat):List Int:=34::((zvl s).take i).flatMap escB
def escS (s:ByteArray):ByteArray:=strOfNums (escA s s.size++[34])
theorem ytt {s:ByteArray} {i:Nat} (h:i<s.size):escA s (i+1)=escA s i++escB (v7r s i):=by
 unfold escA
 have:(zvl s).take (i+1)=(zvl s).take i++[v7r s i]:=by
  rw [List.take_add_one,xn4 s i h];rfl
 rw [this];simp
theorem x79 (s:ByteArray) (i:Nat):wfq (v7r s i)=true:=by
 unfold wfq v7r
 have:=((s.data[i]?).getD 0).toNat_lt
 simp;omega
theorem vne {c:Int} (h:wfq c=true):(escB c).all wfq=true:=by
 unfold escB
 have h':0<=c/\c<256:=by simpa [wfq] using h
 cases decide (c=34)||decide (c=92)<;>simp [wfq,h']
theorem wgt (s:ByteArray) (i:Nat):(escA s i).all wfq=true:=by
 have hb:∀ c∈zvl s,wfq c=true:=fun c hc=>by
  simp only [zvl,List.mem_map] at hc;obtain ⟨j,_,rfl⟩:=hc;exact x79 s j
 unfold escA;rw [List.all_cons,Bool.and_eq_true];refine ⟨rfl,?_⟩;rw [List.all_flatMap,List.all_eq_true]
 exact fun c hc=>vne (hb c (List.mem_of_mem_take hc))
theorem xcj (c:Int):(escB c).length<=2:=by unfold escB;cases decide (c=34)||decide (c=92)<;>simp
theorem z8j:∀ l:List Int,(l.flatMap escB).length<=2*l.length
 | []=>by simp
 | c::l=>by
  have:=z8j l
  have:=xcj c
  simp only [List.flatMap_cons,List.length_append,List.length_cons];omega
theorem wfd (s:ByteArray) (i:Nat):1<=(escA s i).length/\(escA s i).length<=1+2*s.size:=by
 unfold escA
 have:=z8j ((zvl s).take i)
 have h2:((zvl s).take i).length<=s.size:=by rw [List.length_take,wvk];omega
 simp only [List.length_cons];omega
inductive Ex where
 | mk (op n:Int) (unit name:ByteArray) (args:List Ex)
def Ex.op:Ex->Int | .mk o _ _ _ _=>o
def Ex.n:Ex->Int | .mk _ n _ _ _=>n
def Ex.unit:Ex->ByteArray | .mk _ _ u _ _=>u
def Ex.name:Ex->ByteArray | .mk _ _ _ s _=>s
def Ex.args:Ex->List Ex | .mk _ _ _ _ l=>l
def Ex.zero:Ex:=.mk 0 0 ⟨#[]⟩ ⟨#[]⟩ []
instance:Inhabited Ex:=⟨Ex.zero⟩
theorem Ex.ind {Q:Ex->Prop} (h:∀ x:Ex,(∀ y∈x.args,Q y)->Q x):∀ x,Q x
 | .mk o n u s l=>h _ (fun y _hy=>Ex.ind h y)
termination_by x=>SizeOf.sizeOf x
decreasing_by
 have:=List.sizeOf_lt_of_mem (show y∈l from _hy)
 simp only [Ex.mk.sizeOf_spec];omega
mutual
def Ex.cells:Ex->List Cell
 | .mk o n u s l=>[cI o,cI n,cS u,cS s,.sl 5 (Ex.y5b l)]
def Ex.y5b:List Ex->List (List Cell)
 | []=>[]
 | x::l=>Ex.cells x::Ex.y5b l
end
theorem Ex.v3r:∀ l:List Ex,Ex.y5b l=l.map Ex.cells
 | []=>by rw [Ex.y5b];rfl
 | x::l=>by rw [Ex.y5b,Ex.v3r l];rfl
abbrev exC (x:Ex):List Cell:=[cI x.op,cI x.n,cS x.unit,cS x.name,.sl 5 (x.args.map Ex.cells)]
theorem Ex.yto (x:Ex):Ex.cells x=exC x:=by
 cases x with
 | mk o n u s l=>rw [Ex.cells,Ex.v3r];rfl
theorem getD_map' {α β:Type} [Inhabited α] (f:α->β) (d:β):∀(l:List α) (i:Nat),i<l.length->(l.map f).getD i d=f (l.getD i default)
 | [],_,h=>by simp at h
 | _::_,0,_=>rfl
 | _::l,i+1,h=>by simpa using getD_map' f d l i (by simpa using h)
theorem getD_map {α β:Type} [Inhabited α] {f:α->β} {d:β} {l:List α} {i:Nat} (h:i<l.length):(l.map f).getD i d=f (l.getD i default):=getD_map' f d l i h
attribute [go_sem] getD_map Ex.yto
theorem zkt {α:Type} [Inhabited α] {l:List α} {i:Nat} (h:i<l.length):l.getD i default∈l:=by
 have:l.getD i default=l[i]:=by simp [h]
 rw [this];exact List.getElem_mem h
theorem y6x {α:Type} [Inhabited α] {l:List α} {i:Nat} (h:i<l.length):l.drop i=l.getD i default::l.drop (i+1):=by
 have:l.getD i default=l[i]:=by simp [h]
 rw [this];exact List.drop_eq_getElem_cons h
theorem xm8 {α:Type} [Inhabited α] {l:List α} {i:Nat} (h:i<l.length):l.take (i+1)=l.take i++[l.getD i default]:=by
 have:l.getD i default=l[i]:=by simp [h]
 rw [this,List.take_add_one];simp [h]
inductive Ex.Sm:Ex->Prop
 | mk (x:Ex) (hl:x.args.length<=1073741824) (hu:x.unit.size<=1073741824) (hs:x.name.size<=1073741824) (h:∀ y∈x.args,Ex.Sm y):Ex.Sm x
theorem Ex.Sm.len {x:Ex} (h:x.Sm):x.args.length<=1073741824:=by cases h;assumption
theorem Ex.Sm.u {x:Ex} (h:x.Sm):x.unit.size<=1073741824:=by cases h;assumption
theorem Ex.Sm.s {x:Ex} (h:x.Sm):x.name.size<=1073741824:=by cases h;assumption
theorem Ex.Sm.arg {x:Ex} (h:x.Sm):∀ y∈x.args,y.Sm:=by cases h;assumption
def isWord (s:ByteArray):Bool:=seq s ⟨#[110,111,116]⟩||seq s ⟨#[105,102]⟩||seq s ⟨#[116,104,101,110]⟩||seq s ⟨#[101,108,115,101]⟩||seq s ⟨#[97,110,100]⟩||seq s ⟨#[111,114]⟩||seq s ⟨#[108,111,111,107]⟩||seq s ⟨#[109,105,110]⟩||seq s ⟨#[109,97,120]⟩||seq s ⟨#[105,110,116,111]⟩||seq s ⟨#[116,111]⟩||seq s ⟨#[97,115]⟩
def isNamed (s:ByteArray):Bool:=isName s&&!isWord s
def x31 (o:Int):ByteArray:=bif decide (o=6) then ⟨#[43]⟩ else bif decide (o=7) then ⟨#[45]⟩ else bif decide (o=8) then ⟨#[42]⟩ else bif decide (o=9) then ⟨#[47]⟩ else bif decide (o=12) then ⟨#[60]⟩ else bif decide (o=13) then ⟨#[61]⟩ else bif decide (o=14) then ⟨#[97,110,100]⟩ else bif decide (o=15) then ⟨#[111,114]⟩ else ⟨#[]⟩
def isOp (o:Int):Bool:=decide (o=6)||decide (o=7)||decide (o=8)||decide (o=9)||decide (o=12)||decide (o=13)||decide (o=14)||decide (o=15)
mutual
def Ex.cnt:Ex->Int->Int->Bool×Int
 | .mk _ _ _ _ l,n,lv=>bif decide (200<n+1)||decide (20<lv) then (false,n+1) else Ex.cntL l (n+1) (lv+1)
def Ex.cntL:List Ex->Int->Int->Bool×Int
 | [],n,_=>(true,n)
 | y::l,n,lv=>match Ex.cnt y n lv with
  | (false,m)=>(false,m)
  | (true,m)=>Ex.cntL l m lv
end
theorem Ex.w8w (x:Ex) (n lv:Int):x.cnt n lv=bif decide (200<n+1)||decide (20<lv) then (false,n+1) else Ex.cntL x.args (n+1) (lv+1):=by cases x;rw [Ex.cnt];rfl
theorem Ex.vie:∀(x:Ex) (n lv k:Int),x.cnt n lv=(true,k)->n<k/\k<=200:=by
 have hL:∀ l:List Ex,(∀ y∈l,∀(n lv k:Int),y.cnt n lv=(true,k)->n<k/\k<=200)->∀ n lv k:Int,n<=200->Ex.cntL l n lv=(true,k)->n<=k/\k<=200:=by
  intro l
  induction l with
  | nil=>intro _ n lv k hn h;rw [Ex.cntL] at h;cases h;omega
  | cons y l ih=>
   intro hy n lv k hn h;rw [Ex.cntL] at h;split at h
   . cases h
   . rename_i m hm;have h1:=hy y (by simp) _ _ _ hm;have h2:=ih (fun z hz=>hy z (by simp [hz])) _ _ _ h1.2 h;omega
 refine Ex.ind (fun x ih n lv k h=>?_);rw [Ex.w8w] at h;by_cases h1:200<n+1
 . simp [h1] at h
 . by_cases h2:20<lv
   . simp [h2] at h
   . simp only [h1,h2,decide_false,Bool.or_self,cond_false] at h
     have:=hL x.args ih _ _ _ (by omega) h
     omega
def z3f (x:Ex):Bool:=
 bif decide (x.op=0) then w6l x.unit&&decide (0<=x.n)&&decide (x.n<=1099511627776)&&decide (x.name.size=0)&&decide ((x.args.length:Int)=0) else
 bif decide (¬x.n=0)||decide (¬x.unit.size=0) then false else
 bif decide (x.op=1) then isNamed x.name&&decide ((x.args.length:Int)=0) else
 bif decide (x.op=2) then isNamed x.name&&decide ((x.args.length:Int)=1) else
 bif decide (x.op=3) then isNamed x.name&&decide (1<=(x.args.length:Int))&&decide ((x.args.length:Int)<=6) else
 bif decide (x.op=4) then decide (x.name.size=0)&&decide ((x.args.length:Int)=1) else
 bif decide (x.op=5) then decide (x.name.size=0)&&decide ((x.args.length:Int)=3) else
 bif decide (x.op=10)||decide (x.op=11) then decide (x.name.size=0)&&decide ((x.args.length:Int)=2) else
 isOp x.op&&decide (x.name.size=0)&&decide ((x.args.length:Int)=2)
mutual
def Ex.shaped:Ex->Bool
 | .mk o n u s l=>z3f (.mk o n u s l)&&Ex.v7x l
def Ex.v7x:List Ex->Bool
 | []=>true
 | y::l=>Ex.shaped y&&Ex.v7x l
end
theorem Ex.xl3:∀ l:List Ex,Ex.v7x l=l.all Ex.shaped
 | []=>by rw [Ex.v7x];rfl
 | y::l=>by rw [Ex.v7x,Ex.xl3 l];rfl
theorem Ex.yaj (x:Ex):x.shaped=(z3f x&&x.args.all Ex.shaped):=by cases x;rw [Ex.shaped,Ex.xl3];rfl
def vsf (x:Ex):Bool:=(x.cnt 0 1).1&&x.shaped
def idxF {α:Type} (p:α->Bool):List α->Int
 | []=>-1
 | x::l=>bif p x then 0 else bif decide (idxF p l = -1) then -1 else idxF p l+1
theorem woq {α:Type} (p:α->Bool):∀ l:List α,-1<=idxF p l
 | []=>by unfold idxF;omega
 | x::l=>by
  have:=woq p l
  unfold idxF
  cases p x with
  | true=>simp
  | false=>
   by_cases h:idxF p l = -1
   . simp [h]
   . simp [h];omega
theorem xlk {α:Type} (p:α->Bool):∀ l:List α,decide (0<=idxF p l)=l.any p
 | []=>rfl
 | x::l=>by
  have h2:=xlk p l;have h3:=woq p l;unfold idxF;rw [List.any_cons,<-h2]
  cases p x with
  | true=>simp
  | false=>
   by_cases h:idxF p l = -1
   . simp [h]
   . simp [h];omega
theorem yj1 {α:Type} [Inhabited α] {p:α->Bool}:∀{l:List α} {i:Nat},i<=l.length->(∀ j,j<i->p (l.getD j default)=false)->(i=l.length->idxF p l = -1)/\(i<l.length->p (l.getD i default)=true->idxF p l=i)
 | [],i,hi,_=>by simp at hi;subst hi;exact ⟨fun _=>rfl,fun h=>by simp at h⟩
 | x::l,0,_,_=>⟨fun h=>by simp at h,fun _ h=>by unfold idxF;have:p x=true:=h;rw [this];rfl⟩
 | x::l,i+1,hi,hj=>by
  have h0:p x=false:=hj 0 (by omega);obtain ⟨h1,h2⟩:=yj1 (l:=l) (i:=i) (by simpa using hi) (fun j hj'=>by simpa using hj (j+1) (by omega));unfold idxF;rw [h0];refine ⟨fun h=>?_,fun h hp=>?_⟩
  . rw [h1 (by simpa using h)];rfl
  . rw [h2 (by simpa using h) (by simpa using hp)]
    have:¬((i:Int) = -1):=by omega
    simp [this]
end Go.Hp.T
namespace Go.Hp
open Go Go.RowKit Go.Slot
variable {P:Program} {Γ:List (Nat×List Cell)} {e:List SB} {G:List (Nat×List GhH)}
def vvw (n m:Nat) (σ:List SV) (η:List SB):Bool:=(σ.all fun x=>(w40 x).all fun b=>Nat.blt b m)&&(((η.take m).drop n).all fun x=>(vxd x).all fun b=>Nat.blt b m)
theorem StH.cutE {σ:List SV} {η:List SB} (m:Nat) (hm:e.length<=m) (he:η.take e.length=e) (h:vvw e.length m σ η=true):StH Γ e σ η σ (η.take m):=by
 unfold vvw at h;rw [Bool.and_eq_true,List.all_eq_true,List.all_eq_true] at h;refine StH.cut hm (fun i x hx b hb=>?_) (fun i x hi hx=>?_)
 . have:=h.1 x (List.mem_of_getElem? hx)
   rw [List.all_eq_true] at this;simpa using this b hb
 . by_cases hie:i<e.length
   . left
     rw [<-he,List.getElem?_take_of_lt hie];exact hx
   . right
     intro b hb
     have hmem:x∈(η.take m).drop e.length:=by
      have:((η.take m).drop e.length)[i-e.length]? = some x:=by
       rw [List.getElem?_drop,show e.length+(i-e.length)=i from by omega,List.getElem?_take_of_lt hi];exact hx
      exact List.mem_of_getElem? this
     have:=h.2 x hmem
     rw [List.all_eq_true] at this;simpa using this b hb
theorem StH.xp1 {σ σ':List SV} {η:List SB} (he:η.take e.length=e) (h:(σ.all fun x=>(w40 x).all fun b=>Nat.blt b e.length)=true) (hσ:σ=σ'):StH Γ e σ η σ' e:=by
 have hc:vvw e.length e.length σ η=true:=by
  unfold vvw;rw [h,Bool.true_and,List.all_eq_true];intro x hx;rw [List.drop_eq_nil_of_le (by rw [List.length_take];omega)] at hx
  cases hx
 have:=StH.cutE (Γ:=Γ) (σ:=σ) e.length (Nat.le_refl _) he hc
 rw [he] at this;exact hσ▸this
def swLE (n i j:Nat) (η:List SB):List SB:=(List.range η.length).map fun k=>bif Nat.blt k n then gB η k else swSB i j (gB η (sw i j k))
theorem StH.vyj {σ:List SV} {η:List SB} {i j:Nat} (he:η.take e.length=e) (hi:e.length<=i) (hj:e.length<=j) (hil:i<η.length) (hjl:j<η.length):StH Γ e σ η (σ.map (swSV i j)) (swLE e.length i j η):=by
 refine StH.swap hi hj hil hjl (fun b x hb=>?_) (by simp [swLE]);have hbl:b<η.length:=(List.getElem?_eq_some_iff.1 hb).1;by_cases hbe:b<e.length
 . right
   refine ⟨by rw [<-he,List.getElem?_take_of_lt hbe];exact hb,?_⟩;unfold swLE;rw [List.getElem?_map,List.getElem?_range hbl]
   have hbt:Nat.blt b e.length=true:=by simpa using hbe
   have hg:gB η b=x:=by unfold gB;rw [hb];rfl
   simp only [Option.map_some,hbt,cond_true,hg]
 . left
   have hsw:e.length<=sw i j b:=by unfold sw;split<;>(try split)<;>omega
   unfold swLE;rw [List.getElem?_map,List.getElem?_range (zo1 hil hjl hbl)]
   have h1:Nat.blt (sw i j b) e.length=false:=by
    have:¬(sw i j b<e.length):=by omega
    cases hh:Nat.blt (sw i j b) e.length with
    | false=>rfl
    | true=>exact absurd (by simpa using hh) this
   have hg:gB η b=x:=by unfold gB;rw [hb];rfl
   simp only [Option.map_some,zhv,h1,cond_false,hg]
theorem StH.vnr {σ σ':List SV} {η η':List SB} (ks:List Nat) (i j m:Nat) (he:η.take e.length=e) (he':(swLE e.length i j η).take e.length=e) (hi:Nat.ble e.length i=true) (hj:Nat.ble e.length j=true) (hm:Nat.ble e.length m=true) (hil:Nat.blt i η.length=true) (hjl:Nat.blt j η.length=true)
 (h:vvw e.length m ((x1y ks 0 σ).map (swSV i j)) (swLE e.length i j η)=true) (hk:StH Γ e ((x1y ks 0 σ).map (swSV i j)) ((swLE e.length i j η).take m) σ' η'):StH Γ e σ η σ' η':=
 StH.trans (StH.only ks) (StH.trans (StH.vyj he (by simpa using hi) (by simpa using hj) (by simpa using hil) (by simpa using hjl)) (StH.trans (StH.cutE m (by simpa using hm) he' h) hk))
def envM {α:Type} (C:α->SV):List (ByteArray×α)->List (Value×SV)
 | []=>[]
 | p::l=>(.string p.1,C p.2)::envM C l
def y4u {α:Type}:List (ByteArray×α)->ByteArray->Option α
 | [],_=>none
 | p::l,s=>bif seq s p.1 then some p.2 else y4u l s
def updF {α:Type}:List (ByteArray×α)->ByteArray->α->List (ByteArray×α)
 | [],s,v=>[(s,v)]
 | p::l,s,v=>bif seq s p.1 then (s,v)::l else p::updF l s v
theorem xts {α:Type} (C:α->SV):∀ l:List (ByteArray×α),(envM C l).length=l.length
 | []=>rfl
 | _::l=>by rw [envM,List.length_cons,xts C l];rfl
theorem x3c {a b:ByteArray}:seq a b=seq b a:=by rw [z0d,z0d];exact decide_eq_decide.2 eq_comm
theorem z1u {α:Type} {C:α->SV} {s:ByteArray}:∀{l:List (ByteArray×α)},x1q (envM C l) (.string s)=some ((y4u l s).map C)
 | []=>rfl
 | p::l=>by
  have ih:=z1u (C:=C) (s:=s) (l:=l);simp only [envM,x1q,kEq,y4u];rw [ih]
  first
   | (cases seq s p.1<;>rfl)
   | (rw [x3c];cases seq s p.1<;>rfl)
theorem zxo {α:Type} {C:α->SV} {s:ByteArray} {v:α}:∀{l:List (ByteArray×α)},updM (envM C l) (.string s) (C v)=some (envM C (updF l s v))
 | []=>rfl
 | p::l=>by
  have ih:=zxo (C:=C) (s:=s) (v:=v) (l:=l);simp only [envM,updM,kEq,updF];rw [ih]
  first
   | (cases seq s p.1<;>rfl)
   | (rw [x3c];cases seq s p.1<;>rfl)
attribute [go_sem] z1u xts
end Go.Hp
namespace Go.Hp.T
open Go Go.RowKit Go.Slot Go.Hp
set_option maxRecDepth 10000
structure Dm where
 a:Int
 b:Int
 c:Int
 d:Int
 e:Int
 f:Int
deriving DecidableEq
def Dm.zero:Dm:=⟨0,0,0,0,0,0⟩
instance:Inhabited Dm:=⟨Dm.zero⟩
abbrev dmC (x:Dm):List Cell:=[cI x.a,cI x.b,cI x.c,cI x.d,cI x.e,cI x.f]
def bad9 (n:Int):Bool:=decide (n < -9)||decide (9<n)
def wpm (x:Dm):Bool:=!bad9 x.a&&!bad9 x.b&&!bad9 x.c&&!bad9 x.d&&!bad9 x.e&&!bad9 x.f
def Dm.add (x y:Dm):Dm:=⟨x.a+y.a,x.b+y.b,x.c+y.c,x.d+y.d,x.e+y.e,x.f+y.f⟩
def Dm.sub (x y:Dm):Dm:=⟨x.a-y.a,x.b-y.b,x.c-y.c,x.d-y.d,x.e-y.e,x.f-y.f⟩
def zvh (x:Dm):Dm×Int:=bif wpm x then (x,0) else (Dm.zero,3)
def dMul (x y:Dm):Dm×Int:=bif !wpm x||!wpm y then (Dm.zero,1) else zvh (x.add y)
def dDiv (x y:Dm):Dm×Int:=bif !wpm x||!wpm y then (Dm.zero,1) else zvh (x.sub y)
structure Ty where
 t:Bool
 d:Dm
deriving DecidableEq
def Ty.zero:Ty:=⟨false,Dm.zero⟩
instance:Inhabited Ty:=⟨Ty.zero⟩
def Ty.C (x:Ty):List Cell:=cB x.t::dmC x.d
abbrev tyC (x:Ty):List Cell:=[cB x.t,cI x.d.a,cI x.d.b,cI x.d.c,cI x.d.d,cI x.d.e,cI x.d.f]
theorem Ty.C_eq (x:Ty):x.C=tyC x:=rfl
attribute [go_sem] Ty.C_eq
mutual
def Ex.wqc:Ex->Bool
 | .mk o _ _ _ l=>decide (o=3)||Ex.zuq l
def Ex.zuq:List Ex->Bool
 | []=>false
 | y::l=>Ex.wqc y||Ex.zuq l
end
theorem Ex.yar:∀ l:List Ex,Ex.zuq l=l.any Ex.wqc
 | []=>by rw [Ex.zuq];rfl
 | y::l=>by rw [Ex.zuq,Ex.yar l];rfl
theorem Ex.zs3 (x:Ex):x.wqc=(decide (x.op=3)||x.args.any Ex.wqc):=by cases x;rw [Ex.wqc,Ex.yar];rfl
def yxb (a b r:Ty):Ty×Int:=bif a.t||b.t then (Ty.zero,13) else bif !decide (a.d=b.d) then (Ty.zero,14) else (r,0)
def zxf (o:Int) (a b:Ty):Ty×Int:=bif a.t||b.t then (Ty.zero,13) else
 bif !decide ((bif decide (o=9) then dDiv a.d b.d else dMul a.d b.d).2=0) then (Ty.zero,14) else (⟨false,(bif decide (o=9) then dDiv a.d b.d else dMul a.d b.d).1⟩,0)
def y48 (l:List Ty):Ty×Int:=bif l.any (fun t=>!t.t) then (Ty.zero,13) else (⟨true,Dm.zero⟩,0)
def wa5 (T:List (ByteArray×Dm)) (s:ByteArray) (k:Ty):Ty×Int:=match y4u T s with
 | none=>(Ty.zero,11)
 | some d=>bif k.t then (Ty.zero,13) else bif !decide (k.d=Dm.zero) then (Ty.zero,14) else (⟨false,d⟩,0)
def zdw (T:List (ByteArray×Dm)) (o:Int) (nm:ByteArray) (ts:List Ty):Ty×Int:=
 bif decide (o=2) then wa5 T nm (ts.getD 0 default) else
 bif decide (o=6)||decide (o=7)||decide (o=10)||decide (o=11) then yxb (ts.getD 0 default) (ts.getD 1 default) (ts.getD 0 default) else
 bif decide (o=12)||decide (o=13) then yxb (ts.getD 0 default) (ts.getD 1 default) ⟨true,Dm.zero⟩ else
 bif decide (o=8)||decide (o=9) then zxf o (ts.getD 0 default) (ts.getD 1 default) else
 bif decide (o=5) then (bif !(ts.getD 0 default).t then (Ty.zero,13) else yxb (ts.getD 1 default) (ts.getD 2 default) (ts.getD 1 default)) else
 y48 ts
structure Rw where
 k:Int
 v:Int
instance:Inhabited Rw:=⟨⟨0,0⟩⟩
def Rw.C (x:Rw):List Cell:=[cI x.k,cI x.v]
abbrev rwC (x:Rw):List Cell:=[cI x.k,cI x.v]
theorem Rw.C_eq (x:Rw):x.C=rwC x:=rfl
structure Tb where
 name:ByteArray
 unit:ByteArray
 rows:List Rw
instance:Inhabited Tb:=⟨⟨⟨#[]⟩,⟨#[]⟩,[]⟩⟩
def Tb.C (x:Tb):List Cell:=[cS x.name,cS x.unit,.sl 2 (x.rows.map Rw.C)]
abbrev tbC (x:Tb):List Cell:=[cS x.name,cS x.unit,.sl 2 (x.rows.map Rw.C)]
theorem Tb.C_eq (x:Tb):x.C=tbC x:=rfl
structure Vr where
 name:ByteArray
 d:Dm
instance:Inhabited Vr:=⟨⟨⟨#[]⟩,Dm.zero⟩⟩
def Vr.C (x:Vr):List Cell:=[cS x.name,cI x.d.a,cI x.d.b,cI x.d.c,cI x.d.d,cI x.d.e,cI x.d.f]
abbrev vrC (x:Vr):List Cell:=[cS x.name,cI x.d.a,cI x.d.b,cI x.d.c,cI x.d.d,cI x.d.e,cI x.d.f]
theorem Vr.C_eq (x:Vr):x.C=vrC x:=rfl
attribute [go_sem] Rw.C_eq Tb.C_eq Vr.C_eq
def inT (n:Int):Bool:=decide (-1099511627776<=n)&&decide (n<=1099511627776)
def rowAt (l:List Rw) (i:Nat):Bool:=inT (l.getD i default).k&&inT (l.getD i default).v&&!(decide (0<(i:Int))&&decide ((l.getD i default).k<=(l.getD (i-1) default).k))
def zah (l:List Rw):Bool:=(List.range l.length).all (rowAt l)
theorem zce {p:Nat->Bool} {n:Nat}:(∀ j,j<n->p j=true)->(List.range n).all p=true:=fun h=>by
 rw [List.all_eq_true];exact fun x hx=>h x (List.mem_range.1 hx)
theorem x52 {p:Nat->Bool} {n j:Nat} (hj:j<n) (h:p j=false):(List.range n).all p=false:=by
 cases ha:(List.range n).all p with
 | false=>rfl
 | true=>rw [List.all_eq_true.1 ha j (List.mem_range.2 hj)] at h;cases h
def wlo (uerr:ByteArray->Int) (t:Tb):Bool:=!decide (¬uerr t.unit=0)&&isName t.name&&!decide (100<(t.rows.length:Int))&&zah t.rows
theorem vz3 {p:Nat->Prop} {i:Nat} (h:∀ j,j<i->p j) (hi:p i):∀ j,j<i+1->p j:=fun j hj=>by
 rcases Nat.lt_or_eq_of_le (Nat.le_of_lt_succ hj) with h2 | h2
 . exact h j h2
 . rw [h2];exact hi
end Go.Hp.T
namespace Go.Hp
open Go Go.RowKit Go.Slot
variable {P:Program} {Γ:List (Nat×List Cell)}
mutual
def uz (k:Nat):Cell->Cell
 | .zc=>.sl k []
 | .sl n rows=>.sl n (uzLL k rows)
 | c=>c
def uzL (k:Nat):List Cell->List Cell
 | []=>[]
 | c::l=>uz k c::uzL k l
def uzLL (k:Nat):List (List Cell)->List (List Cell)
 | []=>[]
 | r::l=>uzL k r::uzLL k l
end
theorem w3l (k:Nat):∀ l:List Cell,uzL k l=l.map (uz k)
 | []=>by rw [uzL];rfl
 | _::l=>by rw [uzL,w3l k l];rfl
theorem zjw (k:Nat):∀ l:List (List Cell),uzLL k l=l.map (uzL k)
 | []=>by rw [uzLL];rfl
 | _::l=>by rw [uzLL,zjw k l];rfl
theorem wki (k:Nat) (l:List Cell):(uzL k l).length=l.length:=by rw [w3l,List.length_map]
theorem wau (k:Nat) (l:List (List Cell)):(uzLL k l).length=l.length:=by rw [zjw,List.length_map]
theorem wnz (k:Nat) (l:List (List Cell)) (i:Nat) (h:i<(uzLL k l).length):(uzLL k l)[i]=uzL k (l[i]'(by rw [<-wau k];exact h)):=by
 simp only [zjw,List.getElem_map]
theorem zbr (k:Nat) (l:List Cell) (i:Nat) (h:i<(uzL k l).length):(uzL k l)[i]=uz k (l[i]'(by rw [<-wki k];exact h)):=by
 simp only [w3l,List.getElem_map]
theorem RdC.uz {M:Nat->Nat->Prop} {w:World} {v:Value} {c:Cell} (k:Nat) (h:RdC M w v c):RdC M w v (uz k c):=by
 induction h with
 | raw h=>simp only [Go.Hp.uz];exact .raw h
 | zc=>rw [Go.Hp.uz];exact RdC.zcSl k
 | nn=>simp only [Go.Hp.uz];exact .nn
 | fnp h hp=>simp only [Go.Hp.uz];exact .fnp h hp
 | ints b off hl hc ha h=>simp only [Go.Hp.uz];exact .ints b off hl hc ha h
 | @sl a len cap n rows b off u hl hc ha hn hm hr ih =>
  rw [Go.Hp.uz];refine .sl b off u (by rw [wau];exact hl) hc (fun hne=>ha (fun he=>hne (by rw [he];simp only [zjw,List.map_nil]))) (fun r hr'=>?_) (fun i hi j hj=>hm i (by rw [<-wau k];exact hi) j hj) (fun i hi j hj=>?_)
  . rw [zjw] at hr';obtain ⟨r0,h0,rfl⟩:=List.mem_map.1 hr';rw [wki];exact hn _ h0
  . have hi2:i<rows.length:=by rw [<-wau k];exact hi
    have e1:((uzLL k rows)[i])=uzL k rows[i]:=wnz k rows i hi
    have hj2:j<rows[i].length:=by rw [<-wki k,<-e1];exact hj
    have e2:((uzLL k rows)[i])[j]=Go.Hp.uz k (rows[i][j]):=by
     have:=zbr k rows[i] j (by rw [wki];exact hj2)
     rw [<-this];congr 1
    rw [e2];exact ih i hi2 j hj2
theorem RdD.uz {M:Nat->Nat->Prop} {w:World} (k:Nat):∀{vs:List Value} {cs:List Cell},RdD M w vs cs->RdD M w vs (uzL k cs)
 | [],[],h=>by rw [uzL];exact h
 | _::_,[],h=>h.elim
 | [],_::_,h=>h.elim
 | _::_,_::_,h=>by rw [uzL];exact ⟨RdC.uz k h.1,RdD.uz k h.2⟩
theorem CallsD.uz {f:FuncId} {args:List AV} {cs:List Cell} {l:List AV} (k:Nat) (h:CallsD Γ P f args (.tup (.agg cs::l))):CallsD Γ P f args (.tup (.agg (uzL k cs)::l)):=
 ⟨h.1,fun M w vs hM hg hr=>(h.2 M w vs hM hg hr).mono (fun _ _ ⟨v,h1,h2,h3,h4⟩=>by
  obtain ⟨us,hu,hl⟩:=h3
  match us,hl with
  | u::us,hl=>
   obtain ⟨ws,hw,hrd⟩:=hl.1
   exact ⟨v,h1,h2,⟨u::us,hu,⟨ws,hw,RdD.uz k hrd⟩,hl.2⟩,fun hh=>by cases hh⟩)⟩
end Go.Hp
namespace Go.Hp.T
open Go Go.RowKit Go.Slot Go.Hp
open Go.Proofs.Tryz (prog)
def Gs:List (Nat×List Cell):=[(0,[.raw (.int .u8 40),.raw (.int .u8 41),.raw (.int .u8 44),.raw (.int .u8 59),.raw (.int .u8 58),.raw (.int .u8 61),.raw (.int .u8 60),.raw (.int .u8 43),.raw (.int .u8 45),.raw (.int .u8 42),.raw (.int .u8 47),.raw (.int .u8 123),.raw (.int .u8 125)])]
def exOf (o n:Int) (u s:List UInt8) (l:List Ex):Ex:=.mk o n ⟨⟨u⟩⟩ ⟨⟨s⟩⟩ l
abbrev parR (x:Ex):AV:=.tup [.agg (exC x),.one (cI 0),.one (cI 0)]
theorem CallsD.uzE {f:FuncId} {args:List AV} {cs cs':List Cell} {l:List AV} (k:Nat) (h:CallsD Gs prog f args (.tup (.agg cs::l))) (e:uzL k cs=cs'):CallsD Gs prog f args (.tup (.agg cs'::l)):=e▸h.uz k
def sx0:List UInt8:=[98,32,60,32,53,32,34,107,103,34]
def ex0:Ex:=exOf 12 0 [] [] [(exOf 1 0 [] [98] []),(exOf 0 5 [107,103] [] [])]
def sx1:List UInt8:=[97,32,43,32,50]
def ex1:Ex:=exOf 6 0 [] [] [(exOf 1 0 [] [97] []),(exOf 0 2 [] [] [])]
def sx2:List UInt8:=[40,97,32,45,32,122,41,32,47,32,52]
def ex2:Ex:=exOf 9 0 [] [] [(exOf 7 0 [] [] [(exOf 1 0 [] [97] []),(exOf 1 0 [] [122] [])]),(exOf 0 4 [] [] [])]
def sx3:List UInt8:=[108,111,111,107,40,103,114,105,100,44,32,97,41]
def ex3:Ex:=exOf 2 0 [] [103,114,105,100] [(exOf 1 0 [] [97] [])]
def sx4:List UInt8:=[108,111,111,107,40,103,114,105,100,44,32,48,32,45,32,97,41]
def ex4:Ex:=exOf 2 0 [] [103,114,105,100] [(exOf 7 0 [] [] [(exOf 0 0 [] [] []),(exOf 1 0 [] [97] [])])]
def sx5:List UInt8:=[97,32,47,32,122]
def ex5:Ex:=exOf 9 0 [] [] [(exOf 1 0 [] [97] []),(exOf 1 0 [] [122] [])]
def sx6:List UInt8:=[105,102,32,40,122,32,61,32,48,41,32,116,104,101,110,32,97,32,101,108,115,101,32,40,97,32,47,32,122,41]
def ex6:Ex:=exOf 5 0 [] [] [(exOf 13 0 [] [] [(exOf 1 0 [] [122] []),(exOf 0 0 [] [] [])]),(exOf 1 0 [] [97] []),(exOf 9 0 [] [] [(exOf 1 0 [] [97] []),(exOf 1 0 [] [122] [])])]
def sx7:List UInt8:=[40,49,32,47,32,122,41,32,43,32,40,97,32,97,110,100,32,97,41]
def ex7:Ex:=exOf 6 0 [] [] [(exOf 9 0 [] [] [(exOf 0 1 [] [] []),(exOf 1 0 [] [122] [])]),(exOf 14 0 [] [] [(exOf 1 0 [] [97] []),(exOf 1 0 [] [97] [])])]
def sx8:List UInt8:=[40,97,32,97,110,100,32,97,41,32,43,32,40,49,32,47,32,122,41]
def ex8:Ex:=exOf 6 0 [] [] [(exOf 14 0 [] [] [(exOf 1 0 [] [97] []),(exOf 1 0 [] [97] [])]),(exOf 9 0 [] [] [(exOf 0 1 [] [] []),(exOf 1 0 [] [122] [])])]
def sx9:List UInt8:=[99]
def ex9:Ex:=exOf 1 0 [] [99] []
def sx10:List UInt8:=[53,32,34,107,120,34]
def ex10:Ex:=exOf 0 5 [107,120] [] []
def sx11:List UInt8:=[105,102,32,97,32,116,104,101,110,32,99,32,101,108,115,101,32,99]
def ex11:Ex:=exOf 5 0 [] [] [(exOf 1 0 [] [97] []),(exOf 1 0 [] [99] []),(exOf 1 0 [] [99] [])]
def sx12:List UInt8:=[102,40,97,41]
def ex12:Ex:=exOf 3 0 [] [102] [(exOf 1 0 [] [97] [])]
end Go.Hp.T
namespace Go.Hp.T
open Go Go.RowKit Go.Slot Go.Hp Go.Slot.T
open Go.Proofs.Tryz (prog)
set_option maxRecDepth 10000
set_option maxHeartbeats 4000000
variable {Γ:List (Nat×List Cell)}
theorem zyt (x:Dm):CallsD Γ prog 42 [.agg (dmC x)] (.one (cB (wpm x))):=by
 refine CallsD.run [] Go.Proofs.Tryz.func42 rfl rfl rfl ?_;simp only [Go.Proofs.Tryz.f42];refine hgR ?_
 repeat' ((first | refine hfk ?_ ?_<;>intros | refine hik ?_ | with_reducible refine wgj ?_ | with_reducible refine vn8 ?_)<;>refine hgS ?_)
 all_goals (refine RLe.ofEq ?_;conv=>simp only [Bool.and_true,Bool.true_and,Bool.and_false,Bool.false_and,Bool.or_true,Bool.true_or,Bool.or_false,Bool.false_or,Bool.not_true,Bool.not_false,decide_true,decide_false,not_true_eq_false,not_false_eq_true,x9k,if_true,if_false,Bool.and_self,Bool.or_self,cond_true,cond_false,List.length_map,ne_eq,Int.reduceEq,Int.reduceLT,Int.reduceLE, *,wpm,bad9]);first | exact trivial | rfl
end Go.Hp.T
