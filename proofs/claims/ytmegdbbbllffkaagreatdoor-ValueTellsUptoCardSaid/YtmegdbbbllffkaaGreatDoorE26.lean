/- The proof, part E26: Ic, Im, Ie, Id, If, Ii, Og, Nc. -/
import Derived.Test.YtmegdbbbllffkaaGreatDoorE25
import Derived.Test.YtmegdbbbllffkaaGreatDoorE23
import Derived.Laws.Strings
import Derived.Test.YtmegdbbbllffkaaGreatDoorChecked
namespace Go.Hp
open Go Go.RowKit Go.Slot
variable {P:Program} {Γ:List (Nat×List Cell)} {e:List SB} {G:List (Nat×List GhH)}
variable {X Y:Bool->Prop} {c:Bool} {q a b:Prop} {x y:AV} {i j:Nat} {I I':List SV} {J J' ηs ηs':List SB} {f:FuncId} {res:SV}
theorem vtf {p:Prop} [Decidable p] (hx:p->decide p=true->X true) (hy:¬p->decide p=false->Y true):x4q (decide p) true X Y:=⟨fun h=>hx (of_decide_eq_true h) h,fun h=>hy (of_decide_eq_false h) h⟩
theorem yjm {p:Prop} [Decidable p] (hx:¬p->decide p=false->X true) (hy:p->decide p=true->Y true):x4q (decide p) false X Y:=⟨fun h=>hx (of_decide_eq_false h) h,fun h=>hy (of_decide_eq_true h) h⟩
theorem zbb (hx:c=true->X true) (hy:c=false->Y true):x4q c true X Y:=⟨hx,hy⟩
theorem v1z (hx:c=false->X true) (hy:c=true->Y true):x4q c false X Y:=⟨hx,hy⟩
theorem vnx {p:Prop} [Decidable p] (hx:p->decide p=true->X true) (hy:¬p->decide p=false->Y true):x29 (decide p) X Y:=⟨fun h=>hx (of_decide_eq_true h) h,fun h=>hy (of_decide_eq_false h) h⟩
theorem wdg (hx:c=true->X true) (hy:c=false->Y true):x29 c X Y:=⟨hx,hy⟩
theorem vpb (hx:c=false->X true) (hy:c=true->Y true):x4q (!c) true X Y:=⟨fun h=>hx (by simpa using h),fun h=>hy (by simpa using h)⟩
theorem v1v (hx:c=true->X true) (hy:c=false->Y true):x4q (!c) false X Y:=⟨fun h=>hx (by simpa using h),fun h=>hy (by simpa using h)⟩
theorem wzf (hx:c=false->X true) (hy:c=true->Y true):x29 (!c) X Y:=⟨fun h=>hx (by simpa using h),fun h=>hy (by simpa using h)⟩
theorem hg {p:Prop} (k:q) (h:p=q:=by conv=>lhs;simp (maxSteps:=2000000) (disch:=omega) only [go_sem,Nat.reduceAdd,Nat.reduceSub,Nat.reduceMul,Int.reduceToNat,Nat.reduceEqDiff,Nat.reduceBEq,Nat.reduceBneDiff,Nat.reduceLT,Int.reduceEq,Int.reduceLT,Int.reduceLE,Int.reduceNeg,Int.reduceAdd,Int.reduceSub,Int.reduceMul]):p:=Eq.mpr h k
theorem hgS {p:Prop} (k:q) (h:p=q:=by conv=>lhs;simp (maxSteps:=2000000) (disch:=omega) only [go_sem,Nat.reduceAdd,Nat.reduceSub,Nat.reduceMul,Int.reduceToNat,Nat.reduceEqDiff,Nat.reduceBEq,Nat.reduceBneDiff,Nat.reduceLT,Int.reduceEq,Int.reduceLT,Int.reduceLE,Int.reduceNeg,Int.reduceAdd,Int.reduceSub,Int.reduceMul, *]):p:=Eq.mpr h k
theorem hgR {p:Prop} (k:q) (h:p=q:=by conv=>lhs;simp (maxSteps:=2000000) (disch:=omega) only [go_sem,Nat.reduceAdd,Nat.reduceSub,Nat.reduceMul,Int.reduceToNat,Nat.reduceEqDiff,Nat.reduceBEq,Nat.reduceBneDiff,Nat.reduceLT,Int.reduceEq,Int.reduceLT,Int.reduceLE,Int.reduceNeg,Int.reduceAdd,Int.reduceSub,Int.reduceMul,List.replicate]):p:=Eq.mpr h k
theorem hfk {p r:Prop} (k:q) (l:r) (h:q->r->p:=by with_reducible first | exact fun a b=>vtf a b | exact fun a b=>yjm a b | exact fun a b=>vpb a b | exact fun a b=>v1v a b | exact fun a b=>zbb a b | exact fun a b=>v1z a b | exact fun a b=>vnx a b | exact fun a b=>wzf a b | exact fun a b=>wdg a b):p:=h k l
theorem hik {ops:List Oper} {acc:List HR} {k:Bool->Prop} (hk:k true) (h:wfm ops acc=true:=by kernel_rfl):ybj ops acc k:=⟨h,hk⟩
theorem svl {a b:List SV} (h:vma a b:=by repeat' first | exact .nil | refine .cons (by first | exact .refl _ | exact .any _) ?_):vma a b:=h
theorem RLe.ofEq (h:x=y):RLe x y:=h▸.one (.refl _)
theorem wgp {p:Prop} [Decidable p]:(!decide p)=decide (¬p):=by by_cases h:p<;>simp [h]
theorem lfE {p:Prop} (k:p) (h:(x=y)=p:=by conv=>lhs;simp only [Bool.and_true,Bool.true_and,Bool.and_false,Bool.false_and,Bool.or_true,Bool.true_or,Bool.or_false,Bool.false_or,Bool.not_true,Bool.not_false,decide_true,decide_false,not_true_eq_false,not_false_eq_true,wgp,if_true,if_false,Bool.and_self,Bool.or_self,cond_true,cond_false,List.length_map,ne_eq,Int.reduceEq,Int.reduceLT,Int.reduceLE, *]):RLe x y:=RLe.ofEq (h.symm▸k)
theorem lf1 {p:Prop} (ra:a) (k:p) (h:a->(x=y)=p:=by intro z1;conv=>lhs;simp only [Bool.and_true,Bool.true_and,Bool.and_false,Bool.false_and,Bool.or_true,Bool.true_or,Bool.or_false,Bool.false_or,Bool.not_true,Bool.not_false,decide_true,decide_false,not_true_eq_false,not_false_eq_true,wgp,if_true,if_false,Bool.and_self,Bool.or_self,cond_true,cond_false,List.length_map,ne_eq,Int.reduceEq,Int.reduceLT,Int.reduceLE, *]):RLe x y:=RLe.ofEq ((h ra).symm▸k)
theorem lf2 {p:Prop} (ra:a) (rb:b) (k:p) (h:a->b->(x=y)=p:=by intro z1 z2;conv=>lhs;simp only [Bool.and_true,Bool.true_and,Bool.and_false,Bool.false_and,Bool.or_true,Bool.true_or,Bool.or_false,Bool.false_or,Bool.not_true,Bool.not_false,decide_true,decide_false,not_true_eq_false,not_false_eq_true,wgp,if_true,if_false,Bool.and_self,Bool.or_self,cond_true,cond_false,List.length_map,ne_eq,Int.reduceEq,Int.reduceLT,Int.reduceLE, *]):RLe x y:=RLe.ofEq ((h ra rb).symm▸k)
theorem bsE {p:Prop} (k:p) (h:q=p:=by conv=>lhs;simp only [Bool.and_true,Bool.true_and,Bool.and_false,Bool.false_and,Bool.or_true,Bool.true_or,Bool.or_false,Bool.false_or,Bool.not_true,Bool.not_false,decide_true,decide_false,not_true_eq_false,not_false_eq_true,wgp,if_true,if_false,Bool.and_self,Bool.or_self,cond_true,cond_false,List.length_map,ne_eq,Int.reduceEq,Int.reduceLT,Int.reduceLE, *]):q:=h.symm▸k
theorem bs1 {p:Prop} (ra:a) (k:p) (h:a->q=p:=by intro z1;conv=>lhs;simp only [Bool.and_true,Bool.true_and,Bool.and_false,Bool.false_and,Bool.or_true,Bool.true_or,Bool.or_false,Bool.false_or,Bool.not_true,Bool.not_false,decide_true,decide_false,not_true_eq_false,not_false_eq_true,wgp,if_true,if_false,Bool.and_self,Bool.or_self,cond_true,cond_false,List.length_map,ne_eq,Int.reduceEq,Int.reduceLT,Int.reduceLE, *]):q:=(h ra).symm▸k
theorem bs2 {p:Prop} (ra:a) (rb:b) (k:p) (h:a->b->q=p:=by intro z1 z2;conv=>lhs;simp only [Bool.and_true,Bool.true_and,Bool.and_false,Bool.false_and,Bool.or_true,Bool.true_or,Bool.or_false,Bool.false_or,Bool.not_true,Bool.not_false,decide_true,decide_false,not_true_eq_false,not_false_eq_true,wgp,if_true,if_false,Bool.and_self,Bool.or_self,cond_true,cond_false,List.length_map,ne_eq,Int.reduceEq,Int.reduceLT,Int.reduceLE, *]):q:=(h ra rb).symm▸k
theorem hg1 {p:Prop} (ra:a) (k:q) (h:a->p=q:=by intro z1;conv=>lhs;simp (maxSteps:=2000000) (disch:=omega) only [go_sem,Nat.reduceAdd,Nat.reduceSub,Nat.reduceMul,Int.reduceToNat,Nat.reduceEqDiff,Nat.reduceBEq,Nat.reduceBneDiff,Nat.reduceLT,Int.reduceEq,Int.reduceLT,Int.reduceLE,Int.reduceNeg,Int.reduceAdd,Int.reduceSub,Int.reduceMul,z1]):p:=Eq.mpr (h ra) k
theorem hg2 {p:Prop} (ra:a) (rb:b) (k:q) (h:a->b->p=q:=by intro z1 z2;conv=>lhs;simp (maxSteps:=2000000) (disch:=omega) only [go_sem,Nat.reduceAdd,Nat.reduceSub,Nat.reduceMul,Int.reduceToNat,Nat.reduceEqDiff,Nat.reduceBEq,Nat.reduceBneDiff,Nat.reduceLT,Int.reduceEq,Int.reduceLT,Int.reduceLE,Int.reduceNeg,Int.reduceAdd,Int.reduceSub,Int.reduceMul,z1,z2]):p:=Eq.mpr (h ra rb) k
def swL (i j:Nat) (J:List SB):List SB:=(List.range J.length).map fun k=>swSB i j (gB J (sw i j k))
theorem wny {k n:Nat} (hi:i<n) (hj:j<n) (hk:k<n):sw i j k<n:=by unfold sw;split<;>(try split)<;>omega
theorem StH.xn1 (hi:e.length<=i) (hj:e.length<=j) (hil:i<J.length) (hjl:j<J.length):StH Γ e I J (I.map (swSV i j)) (swL i j J):=by
 refine StH.swap hi hj hil hjl (fun b x hb=>.inl ?_) (by simp [swL]);have hbl:b<J.length:=(List.getElem?_eq_some_iff.1 hb).1;unfold swL;rw [List.getElem?_map,List.getElem?_range (wny hil hjl hbl)];simp only [Option.map_some,xfs];unfold gB;rw [hb];rfl
def x2g (m:Nat) (I:List SV) (J:List SB):Bool:=(I.all fun x=>(vp6 x).all fun b=>Nat.blt b m)&&((J.take m).all fun x=>(z0y x).all fun b=>Nat.blt b m)
theorem StH.cutB (m:Nat) (hm:e.length<=m) (h:x2g m I J=true):StH Γ e I J I (J.take m):=by
 unfold x2g at h;rw [Bool.and_eq_true,List.all_eq_true,List.all_eq_true] at h;refine StH.cut hm (fun i x hx b hb=>?_) (fun i x hi hx=>.inr fun b hb=>?_)
 . have:=h.1 x (List.mem_of_getElem? hx)
   rw [List.all_eq_true] at this;simpa using this b hb
 . have:=h.2 x (List.mem_of_getElem? (by rw [List.getElem?_take_of_lt hi];exact hx))
   rw [List.all_eq_true] at this;simpa using this b hb
theorem StH.back (ks:List Nat) (i j m:Nat) (hi:Nat.ble e.length i=true) (hj:Nat.ble e.length j=true) (hm:Nat.ble e.length m=true) (hil:Nat.blt i J.length=true) (hjl:Nat.blt j J.length=true) (h:x2g m ((wue ks 0 I).map (swSV i j)) (swL i j J)=true)
 (hk:StH Γ e ((wue ks 0 I).map (swSV i j)) ((swL i j J).take m) I' J'):StH Γ e I J I' J':=
 StH.trans (StH.only ks) (StH.trans (StH.xn1 (by simpa using hi) (by simpa using hj) (by simpa using hil) (by simpa using hjl)) (StH.trans (StH.cutB m (by simpa using hm) h) hk))
theorem StH.same (h:vma I I') (hη:J=J'):StH Γ e I J I' J':=hη▸StH.wph h
theorem StH.done (m:Nat) (hm:Nat.ble e.length m=true) (h:x2g m I J=true) (hσ:I=I') (hη:J.take m=J'):StH Γ e I J I' J':=
 hσ▸hη▸StH.cutB m (by simpa using hm) h
theorem yp3.of {φ:List Nat} (h:φ.map (fun j=>J[j]?)=ηs.map (fun x=>some (rnSB (atR φ J.length) x))):yp3 φ J ηs:=by
 have hl:ηs.length=φ.length:=by
  have:=congrArg List.length h
  simpa using this.symm
 refine ⟨hl,fun i x hx=>?_⟩;have hi:i<ηs.length:=(List.getElem?_eq_some_iff.1 hx).1;refine ⟨φ[i]'(by omega),List.getElem?_eq_getElem _,?_⟩;have h1:=congrArg (fun l=>l[i]?) h;simp only [List.getElem?_map,hx,Option.map_some] at h1;rw [List.getElem?_eq_getElem (by omega)] at h1;simpa using h1
theorem vfe.at (φ:List Nat) {args:List SV} (h:vfe Γ P f ηs args ηs' res) (hn:φ.Nodup) (hb:(φ.all fun j=>Nat.blt j J.length)=true)
 (hp:φ.map (fun j=>J[j]?)=ηs.map (fun x=>some (rnSB (atR φ J.length) x))) (hlen:Nat.ble φ.length ηs'.length=true):vfe Γ P f J (args.map (yo9 (atR φ J.length))) (putR φ J ηs') (rnSV (atR φ J.length) res):=
 vfe.frame hn (fun j hj=>by simpa using List.all_eq_true.1 hb j hj) (yp3.of hp) (by simpa using hlen) h
theorem z4m (φ:List Nat) {args l:List SV} {K:Bool->List SB->SV->Prop} (h:vfe Γ P f ηs args ηs' res) (hl:args.map (yo9 (atR φ J.length))=l) (hn:φ.Nodup) (hb:(φ.all fun j=>Nat.blt j J.length)=true)
 (hp:φ.map (fun j=>J[j]?)=ηs.map (fun x=>some (rnSB (atR φ J.length) x))) (hlen:Nat.ble φ.length ηs'.length=true) (hk:K true (putR φ J ηs') (rnSV (atR φ J.length) res)):x0t Γ P f J l K:=
 hl▸xwg (vfe.at φ h hn hb hp hlen) hk
theorem z9f {a b:ByteArray}:seq a b=decide (a=b):=by
 unfold seq;rw [ByteArray.toList_eq,ByteArray.toList_eq];by_cases h:a=b
 . rw [h];simp
 . rw [decide_eq_false h]
   have:a.data.toList≠b.data.toList:=fun he=>h (ByteArray.ext (Array.toList_inj.1 he))
   simpa using this
theorem xo8 {s:ByteArray}:seq s ⟨#[]⟩=decide (s.size=0):=by
 rw [z9f];refine decide_eq_decide.2 ⟨fun h=>by rw [h];rfl,fun h=>ByteArray.ext (Array.eq_empty_of_size_eq_zero h)⟩
theorem w8 {n:Int} (h:0<=n/\n<=255):IntKind.u8.wrap n=n:=by rw [IntKind.wrap_u8];omega
attribute [go_sem] w8
theorem yi7 {n:Nat}:((n:Int)-1).toNat=n-1:=by omega
theorem x6m {n:Nat}:((n:Int)+1).toNat=n+1:=by omega
attribute [go_sem] yi7 x6m
theorem vn6 {t:Nat}:gt (I.map vw) t=vw (gtS I t):=yy2 t
attribute [go_sem] vn6 wjz valB elemAt
attribute [go_sem] xo8 wgp List.size_toArray List.length_map List.getD_cons_zero List.getD_cons_succ
attribute [go_sem] vez za8 wig eqOf litH xl4 vmp wa7 usdH usH xzq w01 ynd wli eqL
attribute [go_sem] putR atR rnSB rnHC yo9 rnSV List.zip_cons_cons List.zip_nil_left List.zip_nil_right List.drop_succ_cons
attribute [go_sem] swSV wn0 swHC swSB sw List.map_nil
end Go.Hp
namespace Go.Hp.T
open Go Go.RowKit Go.Slot Go.Hp
set_option maxRecDepth 10000
variable {i:Nat} {α:Type}
theorem toD {Γ:List (Nat×List Cell)} {P:Program} {f:FuncId} {args:List AV} {res:AV} (h:yn2 P f args res):CallsD Γ P f args res:=Hp.yn2.d h
abbrev cI (n:Int):Cell:=.raw (.int .i64 n)
abbrev c8 (n:Int):Cell:=.raw (.int .u8 n)
abbrev cS (s:ByteArray):Cell:=.raw (.string s)
abbrev cB (b:Bool):Cell:=.raw (.bool b)
abbrev fN (f:FuncId):AV:=.one (.raw (.func (.func f) #[] #[]))
def wwz (s:ByteArray):List Int:=(List.range s.size).map (x41 s)
theorem vnk (s:ByteArray):(wwz s).length=s.size:=by simp [wwz]
theorem xq9 (s:ByteArray) (i:Nat) (h:i<s.size):(wwz s)[i]? = some (x41 s i):=by simp [wwz,h]
def z1a (p:Int->Bool) (s:ByteArray):Nat:=((wwz s).takeWhile p).length
theorem w9i {α:Type} (p:α->Bool):∀(l:List α) (n:Nat),n<=l.length->(∀ j x,j<n->l[j]? = some x->p x=true)->(n=l.length\/∃ x,l[n]? = some x/\p x=false)->(l.takeWhile p).length=n
 | [],n,hn,_,_=>by simp at hn;simp [hn]
 | a::l,0,_,_,h=>by
  rcases h with h | ⟨x,hx,hp⟩
  . simp at h
  . simp at hx;subst hx;simp [List.takeWhile,hp]
 | a::l,n+1,hn,hj,h=>by
  have ha:p a=true:=hj 0 a (by omega) rfl;rw [List.takeWhile_cons_of_pos ha,List.length_cons,w9i p l n (by simpa using hn) (fun j x h1 h2=>hj (j+1) x (by omega) (by simpa using h2)) ?_]
  rcases h with h | ⟨x,hx,hp⟩
  . exact .inl (by simpa using h)
  . exact .inr ⟨x,by simpa using hx,hp⟩
theorem xwo {p:Int->Bool} {s:ByteArray} {n:Nat} (hn:n<=s.size) (hj:∀ j,j<n->p (x41 s j)=true) (h:n=s.size\/p (x41 s n)=false):z1a p s=n:=by
 refine w9i p _ n (by rw [vnk];exact hn) (fun j x h1 h2=>?_) ?_
 . rw [xq9 s j (by omega)] at h2;cases h2;exact hj j h1
 . by_cases e:n=s.size
   . exact .inl (by rw [vnk];exact e)
   . rcases h with h | h
     . exact absurd h e
     . exact .inr ⟨_,xq9 s n (by omega),h⟩
theorem wtz (p:Int->Bool) (s:ByteArray):z1a p s<=s.size:=by
 have:=(List.takeWhile_sublist p (l:=wwz s)).length_le
 rw [vnk] at this;exact this
def yio (c:Int):Bool:=(decide (97<=c)&&decide (c<=122))||(decide (65<=c)&&decide (c<=90))
def isDigit (c:Int):Bool:=decide (48<=c)&&decide (c<=57)
def ycl (c:Int):Bool:=yio c||isDigit c||decide (c=95)
def ztv (c:Int):Bool:=decide (32<=c)&&decide (c<=126)
def isName (s:ByteArray):Bool:=decide (¬s.size=0)&&yio (x41 s 0)&&decide ((s.size:Int)<=20)&&decide ((z1a ycl s:Int)=s.size)
def wku (s:ByteArray):Bool:=!(decide (400<(s.size:Int))||decide (¬(z1a ztv s:Int)=s.size))
def escB (c:Int):List Int:=bif decide (c=34)||decide (c=92) then [92,c] else [c]
def escA (s:ByteArray) (i:Nat):List Int:=34::((wwz s).take i).flatMap escB
def escS (s:ByteArray):ByteArray:=strOfNums (escA s s.size++[34])
theorem xm4 {s:ByteArray} (h:i<s.size):escA s (i+1)=escA s i++escB (x41 s i):=by
 unfold escA
 have:(wwz s).take (i+1)=(wwz s).take i++[x41 s i]:=by
  rw [List.take_add_one,xq9 s i h];rfl
 rw [this];simp
theorem wpk (s:ByteArray) (i:Nat):yua (x41 s i)=true:=by
 unfold yua x41
 have:=((s.data[i]?).getD 0).toNat_lt
 simp;omega
theorem v73 {c:Int} (h:yua c=true):(escB c).all yua=true:=by
 unfold escB
 have h':0<=c/\c<256:=by simpa [yua] using h
 cases decide (c=34)||decide (c=92)<;>simp [yua,h']
theorem xmf (s:ByteArray) (i:Nat):(escA s i).all yua=true:=by
 have hb:∀ c∈wwz s,yua c=true:=fun c hc=>by
  simp only [wwz,List.mem_map] at hc;obtain ⟨j,_,rfl⟩:=hc;exact wpk s j
 unfold escA;rw [List.all_cons,Bool.and_eq_true];refine ⟨rfl,?_⟩;rw [List.all_flatMap,List.all_eq_true]
 exact fun c hc=>v73 (hb c (List.mem_of_mem_take hc))
theorem x13 (c:Int):(escB c).length<=2:=by unfold escB;cases decide (c=34)||decide (c=92)<;>simp
theorem xne:∀ l:List Int,(l.flatMap escB).length<=2*l.length
 | []=>by simp
 | c::l=>by
  have:=xne l
  have:=x13 c
  simp only [List.flatMap_cons,List.length_append,List.length_cons];omega
theorem yil (s:ByteArray) (i:Nat):1<=(escA s i).length/\(escA s i).length<=1+2*s.size:=by
 unfold escA
 have:=xne ((wwz s).take i)
 have h2:((wwz s).take i).length<=s.size:=by rw [List.length_take,vnk];omega
 simp only [List.length_cons];omega
inductive Ex where
 | mk (op n:Int) (unit name:ByteArray) (args:List Ex)
def Ex.op:Ex->Int | .mk o _ _ _ _=>o
def Ex.n:Ex->Int | .mk _ n _ _ _=>n
def Ex.unit:Ex->ByteArray | .mk _ _ u _ _=>u
def Ex.name:Ex->ByteArray | .mk _ _ _ s _=>s
def Ex.args:Ex->List Ex | .mk _ _ _ _ l=>l
def Ex.zero:Ex:=.mk 0 0 ⟨#[]⟩ ⟨#[]⟩ []
instance:Inhabited Ex:=⟨Ex.zero⟩
theorem Ex.ind {Q:Ex->Prop} (h:∀ x:Ex,(∀ y∈x.args,Q y)->Q x):∀ x,Q x
 | .mk o n u s l=>h _ (fun y _hy=>Ex.ind h y)
termination_by x=>SizeOf.sizeOf x
decreasing_by
 have:=List.sizeOf_lt_of_mem (show y∈l from _hy)
 simp only [Ex.mk.sizeOf_spec];omega
mutual
def Ex.cells:Ex->List Cell
 | .mk o n u s l=>[cI o,cI n,cS u,cS s,.sl 5 (Ex.wif l)]
def Ex.wif:List Ex->List (List Cell)
 | []=>[]
 | x::l=>Ex.cells x::Ex.wif l
end
theorem Ex.v1u:∀ l:List Ex,Ex.wif l=l.map Ex.cells
 | []=>by rw [Ex.wif];rfl
 | x::l=>by rw [Ex.wif,Ex.v1u l];rfl
abbrev exC (x:Ex):List Cell:=[cI x.op,cI x.n,cS x.unit,cS x.name,.sl 5 (x.args.map Ex.cells)]
theorem Ex.vle (x:Ex):Ex.cells x=exC x:=by
 cases x with
 | mk o n u s l=>rw [Ex.cells,Ex.v1u];rfl
theorem getD_map' {α β:Type} [Inhabited α] (f:α->β) (d:β):∀(l:List α) (i:Nat),i<l.length->(l.map f).getD i d=f (l.getD i default)
 | [],_,h=>by simp at h
 | _::_,0,_=>rfl
 | _::l,i+1,h=>by simpa using getD_map' f d l i (by simpa using h)
theorem getD_map {β:Type} [Inhabited α] {f:α->β} {d:β} {l:List α} (h:i<l.length):(l.map f).getD i d=f (l.getD i default):=getD_map' f d l i h
attribute [go_sem] getD_map Ex.vle
theorem w4t [Inhabited α] {l:List α} (h:i<l.length):l.getD i default∈l:=by
 have:l.getD i default=l[i]:=by simp [h]
 rw [this];exact List.getElem_mem h
theorem xqz [Inhabited α] {l:List α} (h:i<l.length):l.drop i=l.getD i default::l.drop (i+1):=by
 have:l.getD i default=l[i]:=by simp [h]
 rw [this];exact List.drop_eq_getElem_cons h
theorem z4f [Inhabited α] {l:List α} (h:i<l.length):l.take (i+1)=l.take i++[l.getD i default]:=by
 have:l.getD i default=l[i]:=by simp [h]
 rw [this,List.take_add_one];simp [h]
inductive Ex.Sm:Ex->Prop
 | mk (x:Ex) (hl:x.args.length<=1073741824) (hu:x.unit.size<=1073741824) (hs:x.name.size<=1073741824) (h:∀ y∈x.args,Ex.Sm y):Ex.Sm x
theorem Ex.Sm.len {x:Ex} (h:x.Sm):x.args.length<=1073741824:=by cases h;assumption
theorem Ex.Sm.u {x:Ex} (h:x.Sm):x.unit.size<=1073741824:=by cases h;assumption
theorem Ex.Sm.s {x:Ex} (h:x.Sm):x.name.size<=1073741824:=by cases h;assumption
theorem Ex.Sm.arg {x:Ex} (h:x.Sm):∀ y∈x.args,y.Sm:=by cases h;assumption
def isWord (s:ByteArray):Bool:=seq s ⟨#[110,111,116]⟩||seq s ⟨#[105,102]⟩||seq s ⟨#[116,104,101,110]⟩||seq s ⟨#[101,108,115,101]⟩||seq s ⟨#[97,110,100]⟩||seq s ⟨#[111,114]⟩||seq s ⟨#[108,111,111,107]⟩||seq s ⟨#[109,105,110]⟩||seq s ⟨#[109,97,120]⟩||seq s ⟨#[105,110,116,111]⟩||seq s ⟨#[116,111]⟩||seq s ⟨#[97,115]⟩
def isNamed (s:ByteArray):Bool:=isName s&&!isWord s
def zgj (o:Int):ByteArray:=bif decide (o=6) then ⟨#[43]⟩ else bif decide (o=7) then ⟨#[45]⟩ else bif decide (o=8) then ⟨#[42]⟩ else bif decide (o=9) then ⟨#[47]⟩ else bif decide (o=12) then ⟨#[60]⟩ else bif decide (o=13) then ⟨#[61]⟩ else bif decide (o=14) then ⟨#[97,110,100]⟩ else bif decide (o=15) then ⟨#[111,114]⟩ else ⟨#[]⟩
def isOp (o:Int):Bool:=decide (o=6)||decide (o=7)||decide (o=8)||decide (o=9)||decide (o=12)||decide (o=13)||decide (o=14)||decide (o=15)
mutual
def Ex.cnt:Ex->Int->Int->Bool×Int
 | .mk _ _ _ _ l,n,lv=>bif decide (200<n+1)||decide (20<lv) then (false,n+1) else Ex.cntL l (n+1) (lv+1)
def Ex.cntL:List Ex->Int->Int->Bool×Int
 | [],n,_=>(true,n)
 | y::l,n,lv=>match Ex.cnt y n lv with
  | (false,m)=>(false,m)
  | (true,m)=>Ex.cntL l m lv
end
theorem Ex.vrw (x:Ex) (n lv:Int):x.cnt n lv=bif decide (200<n+1)||decide (20<lv) then (false,n+1) else Ex.cntL x.args (n+1) (lv+1):=by cases x;rw [Ex.cnt];rfl
theorem Ex.v24:∀(x:Ex) (n lv k:Int),x.cnt n lv=(true,k)->n<k/\k<=200:=by
 have hL:∀ l:List Ex,(∀ y∈l,∀(n lv k:Int),y.cnt n lv=(true,k)->n<k/\k<=200)->∀ n lv k:Int,n<=200->Ex.cntL l n lv=(true,k)->n<=k/\k<=200:=by
  intro l
  induction l with
  | nil=>intro _ n lv k hn h;rw [Ex.cntL] at h;cases h;omega
  | cons y l ih=>
   intro hy n lv k hn h;rw [Ex.cntL] at h;split at h
   . cases h
   . rename_i m hm;have h1:=hy y (by simp) _ _ _ hm;have h2:=ih (fun z hz=>hy z (by simp [hz])) _ _ _ h1.2 h;omega
 refine Ex.ind (fun x ih n lv k h=>?_);rw [Ex.vrw] at h;by_cases h1:200<n+1
 . simp [h1] at h
 . by_cases h2:20<lv
   . simp [h2] at h
   . simp only [h1,h2,decide_false,Bool.or_self,cond_false] at h
     have:=hL x.args ih _ _ _ (by omega) h
     omega
def yxn (x:Ex):Bool:=
 bif decide (x.op=0) then wku x.unit&&decide (0<=x.n)&&decide (x.n<=1099511627776)&&decide (x.name.size=0)&&decide ((x.args.length:Int)=0) else
 bif decide (¬x.n=0)||decide (¬x.unit.size=0) then false else
 bif decide (x.op=1) then isNamed x.name&&decide ((x.args.length:Int)=0) else
 bif decide (x.op=2) then isNamed x.name&&decide ((x.args.length:Int)=1) else
 bif decide (x.op=3) then isNamed x.name&&decide (1<=(x.args.length:Int))&&decide ((x.args.length:Int)<=6) else
 bif decide (x.op=4) then decide (x.name.size=0)&&decide ((x.args.length:Int)=1) else
 bif decide (x.op=5) then decide (x.name.size=0)&&decide ((x.args.length:Int)=3) else
 bif decide (x.op=10)||decide (x.op=11) then decide (x.name.size=0)&&decide ((x.args.length:Int)=2) else
 isOp x.op&&decide (x.name.size=0)&&decide ((x.args.length:Int)=2)
mutual
def Ex.shaped:Ex->Bool
 | .mk o n u s l=>yxn (.mk o n u s l)&&Ex.zpf l
def Ex.zpf:List Ex->Bool
 | []=>true
 | y::l=>Ex.shaped y&&Ex.zpf l
end
theorem Ex.xcf:∀ l:List Ex,Ex.zpf l=l.all Ex.shaped
 | []=>by rw [Ex.zpf];rfl
 | y::l=>by rw [Ex.zpf,Ex.xcf l];rfl
theorem Ex.xg3 (x:Ex):x.shaped=(yxn x&&x.args.all Ex.shaped):=by cases x;rw [Ex.shaped,Ex.xcf];rfl
def xub (x:Ex):Bool:=(x.cnt 0 1).1&&x.shaped
def idxF {α:Type} (p:α->Bool):List α->Int
 | []=>-1
 | x::l=>bif p x then 0 else bif decide (idxF p l = -1) then -1 else idxF p l+1
theorem yag {α:Type} (p:α->Bool):∀ l:List α,-1<=idxF p l
 | []=>by unfold idxF;omega
 | x::l=>by
  have:=yag p l
  unfold idxF
  cases p x with
  | true=>simp
  | false=>
   by_cases h:idxF p l = -1
   . simp [h]
   . simp [h];omega
theorem wb5 {α:Type} (p:α->Bool):∀ l:List α,decide (0<=idxF p l)=l.any p
 | []=>rfl
 | x::l=>by
  have h2:=wb5 p l;have h3:=yag p l;unfold idxF;rw [List.any_cons,<-h2]
  cases p x with
  | true=>simp
  | false=>
   by_cases h:idxF p l = -1
   . simp [h]
   . simp [h];omega
theorem yo6 {α:Type} [Inhabited α] {p:α->Bool}:∀{l:List α} {i:Nat},i<=l.length->(∀ j,j<i->p (l.getD j default)=false)->(i=l.length->idxF p l = -1)/\(i<l.length->p (l.getD i default)=true->idxF p l=i)
 | [],i,hi,_=>by simp at hi;subst hi;exact ⟨fun _=>rfl,fun h=>by simp at h⟩
 | x::l,0,_,_=>⟨fun h=>by simp at h,fun _ h=>by unfold idxF;have:p x=true:=h;rw [this];rfl⟩
 | x::l,i+1,hi,hj=>by
  have h0:p x=false:=hj 0 (by omega);obtain ⟨h1,h2⟩:=yo6 (l:=l) (i:=i) (by simpa using hi) (fun j hj'=>by simpa using hj (j+1) (by omega));unfold idxF;rw [h0];refine ⟨fun h=>?_,fun h hp=>?_⟩
  . rw [h1 (by simpa using h)];rfl
  . rw [h2 (by simpa using h) (by simpa using hp)]
    have:¬((i:Int) = -1):=by omega
    simp [this]
end Go.Hp.T
namespace Go.Hp
open Go Go.RowKit Go.Slot
variable {P:Program} {Γ:List (Nat×List Cell)} {e:List SB} {G:List (Nat×List GhH)}
variable {I I':List SV} {J:List SB}
def wco (n m:Nat) (I:List SV) (J:List SB):Bool:=(I.all fun x=>(vp6 x).all fun b=>Nat.blt b m)&&(((J.take m).drop n).all fun x=>(z0y x).all fun b=>Nat.blt b m)
theorem StH.cutE (m:Nat) (hm:e.length<=m) (he:J.take e.length=e) (h:wco e.length m I J=true):StH Γ e I J I (J.take m):=by
 unfold wco at h;rw [Bool.and_eq_true,List.all_eq_true,List.all_eq_true] at h;refine StH.cut hm (fun i x hx b hb=>?_) (fun i x hi hx=>?_)
 . have:=h.1 x (List.mem_of_getElem? hx)
   rw [List.all_eq_true] at this;simpa using this b hb
 . by_cases hie:i<e.length
   . left
     rw [<-he,List.getElem?_take_of_lt hie];exact hx
   . right
     intro b hb
     have hmem:x∈(J.take m).drop e.length:=by
      have:((J.take m).drop e.length)[i-e.length]? = some x:=by
       rw [List.getElem?_drop,show e.length+(i-e.length)=i from by omega,List.getElem?_take_of_lt hi];exact hx
      exact List.mem_of_getElem? this
     have:=h.2 x hmem
     rw [List.all_eq_true] at this;simpa using this b hb
theorem StH.zx4 (he:J.take e.length=e) (h:(I.all fun x=>(vp6 x).all fun b=>Nat.blt b e.length)=true) (hσ:I=I'):StH Γ e I J I' e:=by
 have hc:wco e.length e.length I J=true:=by
  unfold wco;rw [h,Bool.true_and,List.all_eq_true];intro x hx;rw [List.drop_eq_nil_of_le (by rw [List.length_take];omega)] at hx
  cases hx
 have:=StH.cutE (Γ:=Γ) (I:=I) e.length (Nat.le_refl _) he hc
 rw [he] at this;exact hσ▸this
def swLE (n i j:Nat) (J:List SB):List SB:=(List.range J.length).map fun k=>bif Nat.blt k n then gB J k else swSB i j (gB J (sw i j k))
theorem StH.wj3 {i j:Nat} (he:J.take e.length=e) (hi:e.length<=i) (hj:e.length<=j) (hil:i<J.length) (hjl:j<J.length):StH Γ e I J (I.map (swSV i j)) (swLE e.length i j J):=by
 refine StH.swap hi hj hil hjl (fun b x hb=>?_) (by simp [swLE]);have hbl:b<J.length:=(List.getElem?_eq_some_iff.1 hb).1;by_cases hbe:b<e.length
 . right
   refine ⟨by rw [<-he,List.getElem?_take_of_lt hbe];exact hb,?_⟩;unfold swLE;rw [List.getElem?_map,List.getElem?_range hbl]
   have hbt:Nat.blt b e.length=true:=by simpa using hbe
   have hg:gB J b=x:=by unfold gB;rw [hb];rfl
   simp only [Option.map_some,hbt,cond_true,hg]
 . left
   have hsw:e.length<=sw i j b:=by unfold sw;split<;>(try split)<;>omega
   unfold swLE;rw [List.getElem?_map,List.getElem?_range (wny hil hjl hbl)]
   have h1:Nat.blt (sw i j b) e.length=false:=by
    have:¬(sw i j b<e.length):=by omega
    cases hh:Nat.blt (sw i j b) e.length with
    | false=>rfl
    | true=>exact absurd (by simpa using hh) this
   have hg:gB J b=x:=by unfold gB;rw [hb];rfl
   simp only [Option.map_some,xfs,h1,cond_false,hg]
theorem StH.xuw {J':List SB} (ks:List Nat) (i j m:Nat) (he:J.take e.length=e) (he':(swLE e.length i j J).take e.length=e) (hi:Nat.ble e.length i=true) (hj:Nat.ble e.length j=true) (hm:Nat.ble e.length m=true) (hil:Nat.blt i J.length=true) (hjl:Nat.blt j J.length=true)
 (h:wco e.length m ((wue ks 0 I).map (swSV i j)) (swLE e.length i j J)=true) (hk:StH Γ e ((wue ks 0 I).map (swSV i j)) ((swLE e.length i j J).take m) I' J'):StH Γ e I J I' J':=
 StH.trans (StH.only ks) (StH.trans (StH.wj3 he (by simpa using hi) (by simpa using hj) (by simpa using hil) (by simpa using hjl)) (StH.trans (StH.cutE m (by simpa using hm) he' h) hk))
def envM {α:Type} (C:α->SV):List (ByteArray×α)->List (Value×SV)
 | []=>[]
 | p::l=>(.string p.1,C p.2)::envM C l
def ycr {α:Type}:List (ByteArray×α)->ByteArray->Option α
 | [],_=>none
 | p::l,s=>bif seq s p.1 then some p.2 else ycr l s
def updF {α:Type}:List (ByteArray×α)->ByteArray->α->List (ByteArray×α)
 | [],s,v=>[(s,v)]
 | p::l,s,v=>bif seq s p.1 then (s,v)::l else p::updF l s v
theorem w1z {α:Type} (C:α->SV):∀ l:List (ByteArray×α),(envM C l).length=l.length
 | []=>rfl
 | _::l=>by rw [envM,List.length_cons,w1z C l];rfl
theorem wda {a b:ByteArray}:seq a b=seq b a:=by rw [z9f,z9f];exact decide_eq_decide.2 eq_comm
theorem vi5 {α:Type} {C:α->SV} {s:ByteArray}:∀{l:List (ByteArray×α)},zgw (envM C l) (.string s)=some ((ycr l s).map C)
 | []=>rfl
 | p::l=>by
  have ih:=vi5 (C:=C) (s:=s) (l:=l);simp only [envM,zgw,kEq,ycr];rw [ih]
  first
   | (cases seq s p.1<;>rfl)
   | (rw [wda];cases seq s p.1<;>rfl)
theorem z6j {α:Type} {C:α->SV} {s:ByteArray} {v:α}:∀{l:List (ByteArray×α)},updM (envM C l) (.string s) (C v)=some (envM C (updF l s v))
 | []=>rfl
 | p::l=>by
  have ih:=z6j (C:=C) (s:=s) (v:=v) (l:=l);simp only [envM,updM,kEq,updF];rw [ih]
  first
   | (cases seq s p.1<;>rfl)
   | (rw [wda];cases seq s p.1<;>rfl)
attribute [go_sem] vi5 w1z
end Go.Hp
namespace Go.Hp.T
open Go Go.RowKit Go.Slot Go.Hp
set_option maxRecDepth 10000
structure Dm where
 a:Int
 b:Int
 c:Int
 d:Int
 e:Int
 f:Int
deriving DecidableEq
def Dm.zero:Dm:=⟨0,0,0,0,0,0⟩
instance:Inhabited Dm:=⟨Dm.zero⟩
abbrev dmC (x:Dm):List Cell:=[cI x.a,cI x.b,cI x.c,cI x.d,cI x.e,cI x.f]
def bad9 (n:Int):Bool:=decide (n < -9)||decide (9<n)
def zmf (x:Dm):Bool:=!bad9 x.a&&!bad9 x.b&&!bad9 x.c&&!bad9 x.d&&!bad9 x.e&&!bad9 x.f
def Dm.add (x y:Dm):Dm:=⟨x.a+y.a,x.b+y.b,x.c+y.c,x.d+y.d,x.e+y.e,x.f+y.f⟩
def Dm.sub (x y:Dm):Dm:=⟨x.a-y.a,x.b-y.b,x.c-y.c,x.d-y.d,x.e-y.e,x.f-y.f⟩
def yq5 (x:Dm):Dm×Int:=bif zmf x then (x,0) else (Dm.zero,3)
def dMul (x y:Dm):Dm×Int:=bif !zmf x||!zmf y then (Dm.zero,1) else yq5 (x.add y)
def dDiv (x y:Dm):Dm×Int:=bif !zmf x||!zmf y then (Dm.zero,1) else yq5 (x.sub y)
structure Ty where
 t:Bool
 d:Dm
deriving DecidableEq
def Ty.zero:Ty:=⟨false,Dm.zero⟩
instance:Inhabited Ty:=⟨Ty.zero⟩
def Ty.C (x:Ty):List Cell:=cB x.t::dmC x.d
abbrev tyC (x:Ty):List Cell:=[cB x.t,cI x.d.a,cI x.d.b,cI x.d.c,cI x.d.d,cI x.d.e,cI x.d.f]
theorem Ty.C_eq (x:Ty):x.C=tyC x:=rfl
attribute [go_sem] Ty.C_eq
mutual
def Ex.xi4:Ex->Bool
 | .mk o _ _ _ l=>decide (o=3)||Ex.zcp l
def Ex.zcp:List Ex->Bool
 | []=>false
 | y::l=>Ex.xi4 y||Ex.zcp l
end
theorem Ex.vv8:∀ l:List Ex,Ex.zcp l=l.any Ex.xi4
 | []=>by rw [Ex.zcp];rfl
 | y::l=>by rw [Ex.zcp,Ex.vv8 l];rfl
theorem Ex.wd9 (x:Ex):x.xi4=(decide (x.op=3)||x.args.any Ex.xi4):=by cases x;rw [Ex.xi4,Ex.vv8];rfl
def xkg (a b r:Ty):Ty×Int:=bif a.t||b.t then (Ty.zero,13) else bif !decide (a.d=b.d) then (Ty.zero,14) else (r,0)
def zom (o:Int) (a b:Ty):Ty×Int:=bif a.t||b.t then (Ty.zero,13) else
 bif !decide ((bif decide (o=9) then dDiv a.d b.d else dMul a.d b.d).2=0) then (Ty.zero,14) else (⟨false,(bif decide (o=9) then dDiv a.d b.d else dMul a.d b.d).1⟩,0)
def xc3 (l:List Ty):Ty×Int:=bif l.any (fun t=>!t.t) then (Ty.zero,13) else (⟨true,Dm.zero⟩,0)
def x59 (T:List (ByteArray×Dm)) (s:ByteArray) (k:Ty):Ty×Int:=match ycr T s with
 | none=>(Ty.zero,11)
 | some d=>bif k.t then (Ty.zero,13) else bif !decide (k.d=Dm.zero) then (Ty.zero,14) else (⟨false,d⟩,0)
def wqq (T:List (ByteArray×Dm)) (o:Int) (nm:ByteArray) (ts:List Ty):Ty×Int:=
 bif decide (o=2) then x59 T nm (ts.getD 0 default) else
 bif decide (o=6)||decide (o=7)||decide (o=10)||decide (o=11) then xkg (ts.getD 0 default) (ts.getD 1 default) (ts.getD 0 default) else
 bif decide (o=12)||decide (o=13) then xkg (ts.getD 0 default) (ts.getD 1 default) ⟨true,Dm.zero⟩ else
 bif decide (o=8)||decide (o=9) then zom o (ts.getD 0 default) (ts.getD 1 default) else
 bif decide (o=5) then (bif !(ts.getD 0 default).t then (Ty.zero,13) else xkg (ts.getD 1 default) (ts.getD 2 default) (ts.getD 1 default)) else
 xc3 ts
structure Rw where
 k:Int
 v:Int
instance:Inhabited Rw:=⟨⟨0,0⟩⟩
def Rw.C (x:Rw):List Cell:=[cI x.k,cI x.v]
abbrev rwC (x:Rw):List Cell:=[cI x.k,cI x.v]
theorem Rw.C_eq (x:Rw):x.C=rwC x:=rfl
structure Tb where
 name:ByteArray
 unit:ByteArray
 rows:List Rw
instance:Inhabited Tb:=⟨⟨⟨#[]⟩,⟨#[]⟩,[]⟩⟩
def Tb.C (x:Tb):List Cell:=[cS x.name,cS x.unit,.sl 2 (x.rows.map Rw.C)]
abbrev tbC (x:Tb):List Cell:=[cS x.name,cS x.unit,.sl 2 (x.rows.map Rw.C)]
theorem Tb.C_eq (x:Tb):x.C=tbC x:=rfl
structure Vr where
 name:ByteArray
 d:Dm
instance:Inhabited Vr:=⟨⟨⟨#[]⟩,Dm.zero⟩⟩
def Vr.C (x:Vr):List Cell:=[cS x.name,cI x.d.a,cI x.d.b,cI x.d.c,cI x.d.d,cI x.d.e,cI x.d.f]
abbrev vrC (x:Vr):List Cell:=[cS x.name,cI x.d.a,cI x.d.b,cI x.d.c,cI x.d.d,cI x.d.e,cI x.d.f]
theorem Vr.C_eq (x:Vr):x.C=vrC x:=rfl
attribute [go_sem] Rw.C_eq Tb.C_eq Vr.C_eq
def inT (n:Int):Bool:=decide (-1099511627776<=n)&&decide (n<=1099511627776)
def rowAt (l:List Rw) (i:Nat):Bool:=inT (l.getD i default).k&&inT (l.getD i default).v&&!(decide (0<(i:Int))&&decide ((l.getD i default).k<=(l.getD (i-1) default).k))
def zx5 (l:List Rw):Bool:=(List.range l.length).all (rowAt l)
theorem ye8 {p:Nat->Bool} {n:Nat}:(∀ j,j<n->p j=true)->(List.range n).all p=true:=fun h=>by
 rw [List.all_eq_true];exact fun x hx=>h x (List.mem_range.1 hx)
theorem zch {p:Nat->Bool} {n j:Nat} (hj:j<n) (h:p j=false):(List.range n).all p=false:=by
 cases ha:(List.range n).all p with
 | false=>rfl
 | true=>rw [List.all_eq_true.1 ha j (List.mem_range.2 hj)] at h;cases h
def zi4 (uerr:ByteArray->Int) (t:Tb):Bool:=!decide (¬uerr t.unit=0)&&isName t.name&&!decide (100<(t.rows.length:Int))&&zx5 t.rows
theorem xrx {p:Nat->Prop} {i:Nat} (h:∀ j,j<i->p j) (hi:p i):∀ j,j<i+1->p j:=fun j hj=>by
 rcases Nat.lt_or_eq_of_le (Nat.le_of_lt_succ hj) with h2 | h2
 . exact h j h2
 . rw [h2];exact hi
end Go.Hp.T
namespace Go.Hp
open Go Go.RowKit Go.Slot
variable {P:Program} {Γ:List (Nat×List Cell)}
mutual
def uz (k:Nat):Cell->Cell
 | .zc=>.sl k []
 | .sl n rows=>.sl n (uzLL k rows)
 | c=>c
def uzL (k:Nat):List Cell->List Cell
 | []=>[]
 | c::l=>uz k c::uzL k l
def uzLL (k:Nat):List (List Cell)->List (List Cell)
 | []=>[]
 | r::l=>uzL k r::uzLL k l
end
theorem x7g (k:Nat):∀ l:List Cell,uzL k l=l.map (uz k)
 | []=>by rw [uzL];rfl
 | _::l=>by rw [uzL,x7g k l];rfl
theorem yu4 (k:Nat):∀ l:List (List Cell),uzLL k l=l.map (uzL k)
 | []=>by rw [uzLL];rfl
 | _::l=>by rw [uzLL,yu4 k l];rfl
theorem xcy (k:Nat) (l:List Cell):(uzL k l).length=l.length:=by rw [x7g,List.length_map]
theorem yg1 (k:Nat) (l:List (List Cell)):(uzLL k l).length=l.length:=by rw [yu4,List.length_map]
theorem w5t (k:Nat) (l:List (List Cell)) (i:Nat) (h:i<(uzLL k l).length):(uzLL k l)[i]=uzL k (l[i]'(by rw [<-yg1 k];exact h)):=by
 simp only [yu4,List.getElem_map]
theorem ydn (k:Nat) (l:List Cell) (i:Nat) (h:i<(uzL k l).length):(uzL k l)[i]=uz k (l[i]'(by rw [<-xcy k];exact h)):=by
 simp only [x7g,List.getElem_map]
theorem RdC.uz {M:Nat->Nat->Prop} {w:World} {v:Value} {c:Cell} (k:Nat) (h:RdC M w v c):RdC M w v (uz k c):=by
 induction h with
 | raw h=>simp only [Go.Hp.uz];exact .raw h
 | zc=>rw [Go.Hp.uz];exact RdC.zcSl k
 | nn=>simp only [Go.Hp.uz];exact .nn
 | fnp h hp=>simp only [Go.Hp.uz];exact .fnp h hp
 | ints b off hl hc ha h=>simp only [Go.Hp.uz];exact .ints b off hl hc ha h
 | @sl a len cap n rows b off u hl hc ha hn hm hr ih =>
  rw [Go.Hp.uz];refine .sl b off u (by rw [yg1];exact hl) hc (fun hne=>ha (fun he=>hne (by rw [he];simp only [yu4,List.map_nil]))) (fun r hr'=>?_) (fun i hi j hj=>hm i (by rw [<-yg1 k];exact hi) j hj) (fun i hi j hj=>?_)
  . rw [yu4] at hr';obtain ⟨r0,h0,rfl⟩:=List.mem_map.1 hr';rw [xcy];exact hn _ h0
  . have hi2:i<rows.length:=by rw [<-yg1 k];exact hi
    have e1:((uzLL k rows)[i])=uzL k rows[i]:=w5t k rows i hi
    have hj2:j<rows[i].length:=by rw [<-xcy k,<-e1];exact hj
    have e2:((uzLL k rows)[i])[j]=Go.Hp.uz k (rows[i][j]):=by
     have:=ydn k rows[i] j (by rw [xcy];exact hj2)
     rw [<-this];congr 1
    rw [e2];exact ih i hi2 j hj2
theorem RdD.uz {M:Nat->Nat->Prop} {w:World} (k:Nat):∀{vs:List Value} {cs:List Cell},RdD M w vs cs->RdD M w vs (uzL k cs)
 | [],[],h=>by rw [uzL];exact h
 | _::_,[],h=>h.elim
 | [],_::_,h=>h.elim
 | _::_,_::_,h=>by rw [uzL];exact ⟨RdC.uz k h.1,RdD.uz k h.2⟩
theorem CallsD.uz {f:FuncId} {args:List AV} {cs:List Cell} {l:List AV} (k:Nat) (h:CallsD Γ P f args (.tup (.agg cs::l))):CallsD Γ P f args (.tup (.agg (uzL k cs)::l)):=
 ⟨h.1,fun M w vs hM hg hr=>(h.2 M w vs hM hg hr).mono (fun _ _ ⟨v,h1,h2,h3,h4⟩=>by
  obtain ⟨us,hu,hl⟩:=h3
  match us,hl with
  | u::us,hl=>
   obtain ⟨ws,hw,hrd⟩:=hl.1
   exact ⟨v,h1,h2,⟨u::us,hu,⟨ws,hw,RdD.uz k hrd⟩,hl.2⟩,fun hh=>by cases hh⟩)⟩
end Go.Hp
namespace Go.Hp.T
open Go Go.RowKit Go.Slot Go.Hp
open Go.Proofs.Tryz (prog)
def Gs:List (Nat×List Cell):=[(0,[.raw (.int .u8 40),.raw (.int .u8 41),.raw (.int .u8 44),.raw (.int .u8 59),.raw (.int .u8 58),.raw (.int .u8 61),.raw (.int .u8 60),.raw (.int .u8 43),.raw (.int .u8 45),.raw (.int .u8 42),.raw (.int .u8 47),.raw (.int .u8 123),.raw (.int .u8 125)])]
def exOf (o n:Int) (u s:List UInt8) (l:List Ex):Ex:=.mk o n ⟨⟨u⟩⟩ ⟨⟨s⟩⟩ l
abbrev zS:Cell:=cS ⟨⟨[]⟩⟩
abbrev parR (x:Ex):AV:=.tup [.agg (exC x),.one (cI 0),.one (cI 0)]
theorem CallsD.uzE {f:FuncId} {args:List AV} {cs cs':List Cell} {l:List AV} (k:Nat) (h:CallsD Gs prog f args (.tup (.agg cs::l))) (e:uzL k cs=cs'):CallsD Gs prog f args (.tup (.agg cs'::l)):=e▸h.uz k
def sx0:List UInt8:=[98,32,60,32,53,32,34,107,103,34]
def ex0:Ex:=exOf 12 0 [] [] [(exOf 1 0 [] [98] []),(exOf 0 5 [107,103] [] [])]
def sx1:List UInt8:=[97,32,43,32,50]
def ex1:Ex:=exOf 6 0 [] [] [(exOf 1 0 [] [97] []),(exOf 0 2 [] [] [])]
def sx2:List UInt8:=[40,97,32,45,32,122,41,32,47,32,52]
def ex2:Ex:=exOf 9 0 [] [] [(exOf 7 0 [] [] [(exOf 1 0 [] [97] []),(exOf 1 0 [] [122] [])]),(exOf 0 4 [] [] [])]
def sx3:List UInt8:=[108,111,111,107,40,103,114,105,100,44,32,97,41]
def ex3:Ex:=exOf 2 0 [] [103,114,105,100] [(exOf 1 0 [] [97] [])]
def sx4:List UInt8:=[108,111,111,107,40,103,114,105,100,44,32,48,32,45,32,97,41]
def ex4:Ex:=exOf 2 0 [] [103,114,105,100] [(exOf 7 0 [] [] [(exOf 0 0 [] [] []),(exOf 1 0 [] [97] [])])]
def sx5:List UInt8:=[97,32,47,32,122]
def ex5:Ex:=exOf 9 0 [] [] [(exOf 1 0 [] [97] []),(exOf 1 0 [] [122] [])]
def sx6:List UInt8:=[105,102,32,40,122,32,61,32,48,41,32,116,104,101,110,32,97,32,101,108,115,101,32,40,97,32,47,32,122,41]
def ex6:Ex:=exOf 5 0 [] [] [(exOf 13 0 [] [] [(exOf 1 0 [] [122] []),(exOf 0 0 [] [] [])]),(exOf 1 0 [] [97] []),(exOf 9 0 [] [] [(exOf 1 0 [] [97] []),(exOf 1 0 [] [122] [])])]
def sx7:List UInt8:=[40,49,32,47,32,122,41,32,43,32,40,97,32,97,110,100,32,97,41]
def ex7:Ex:=exOf 6 0 [] [] [(exOf 9 0 [] [] [(exOf 0 1 [] [] []),(exOf 1 0 [] [122] [])]),(exOf 14 0 [] [] [(exOf 1 0 [] [97] []),(exOf 1 0 [] [97] [])])]
def sx8:List UInt8:=[40,97,32,97,110,100,32,97,41,32,43,32,40,49,32,47,32,122,41]
def ex8:Ex:=exOf 6 0 [] [] [(exOf 14 0 [] [] [(exOf 1 0 [] [97] []),(exOf 1 0 [] [97] [])]),(exOf 9 0 [] [] [(exOf 0 1 [] [] []),(exOf 1 0 [] [122] [])])]
def sx9:List UInt8:=[99]
def ex9:Ex:=exOf 1 0 [] [99] []
def sx10:List UInt8:=[53,32,34,107,120,34]
def ex10:Ex:=exOf 0 5 [107,120] [] []
def sx11:List UInt8:=[105,102,32,97,32,116,104,101,110,32,99,32,101,108,115,101,32,99]
def ex11:Ex:=exOf 5 0 [] [] [(exOf 1 0 [] [97] []),(exOf 1 0 [] [99] []),(exOf 1 0 [] [99] [])]
def sx12:List UInt8:=[102,40,97,41]
def ex12:Ex:=exOf 3 0 [] [102] [(exOf 1 0 [] [97] [])]
end Go.Hp.T
namespace Go.Hp.T
open Go Go.RowKit Go.Slot Go.Hp Go.Slot.T
open Go.Proofs.Tryz (prog)
set_option maxRecDepth 10000
set_option maxHeartbeats 4000000
variable {Γ:List (Nat×List Cell)}
theorem ygx (x:Dm):CallsD Γ prog 42 [.agg (dmC x)] (.one (cB (zmf x))):=by
 refine CallsD.run [] Go.Proofs.Tryz.func42 rfl rfl rfl ?_;simp only [Go.Proofs.Tryz.f42];refine hgR ?_
 repeat' ((first | refine hfk ?_ ?_<;>intros | refine hik ?_ | with_reducible refine zum ?_ | with_reducible refine v3j ?_)<;>refine hgS ?_)
 all_goals refine lf2 @zmf.eq_def @bad9.eq_def ?_;first | exact trivial | rfl
end Go.Hp.T
