/- The proof, part Z18: Ic, Im, Ie, Id, If, La. -/
import Derived.Test.YtbdoipfmafbhoaaGreatDoorZ17
import Derived.Test.YtbdoipfmafbhoaaGreatDoorZ7
import Derived.Laws.Strings
namespace Go.Hp
open Go Go.RowKit Go.Slot
variable {P:Program} {Γ:List (Nat×List Cell)} {e:List SB} {G:List (Nat×List GhH)}
theorem wj8 {p:Prop} [Decidable p] {X Y:Bool->Prop} (hx:p->decide p=true->X true) (hy:¬p->decide p=false->Y true):v91 (decide p) true X Y:=⟨fun h=>hx (of_decide_eq_true h) h,fun h=>hy (of_decide_eq_false h) h⟩
theorem ykq {p:Prop} [Decidable p] {X Y:Bool->Prop} (hx:¬p->decide p=false->X true) (hy:p->decide p=true->Y true):v91 (decide p) false X Y:=⟨fun h=>hx (of_decide_eq_false h) h,fun h=>hy (of_decide_eq_true h) h⟩
theorem z1z {c:Bool} {X Y:Bool->Prop} (hx:c=true->X true) (hy:c=false->Y true):v91 c true X Y:=⟨hx,hy⟩
theorem zmh {c:Bool} {X Y:Bool->Prop} (hx:c=false->X true) (hy:c=true->Y true):v91 c false X Y:=⟨hx,hy⟩
theorem w4y {p:Prop} [Decidable p] {X Y:Bool->Prop} (hx:p->decide p=true->X true) (hy:¬p->decide p=false->Y true):yvv (decide p) X Y:=⟨fun h=>hx (of_decide_eq_true h) h,fun h=>hy (of_decide_eq_false h) h⟩
theorem vi3 {c:Bool} {X Y:Bool->Prop} (hx:c=true->X true) (hy:c=false->Y true):yvv c X Y:=⟨hx,hy⟩
theorem vb4 {c:Bool} {X Y:Bool->Prop} (hx:c=false->X true) (hy:c=true->Y true):v91 (!c) true X Y:=⟨fun h=>hx (by simpa using h),fun h=>hy (by simpa using h)⟩
theorem v97 {c:Bool} {X Y:Bool->Prop} (hx:c=true->X true) (hy:c=false->Y true):v91 (!c) false X Y:=⟨fun h=>hx (by simpa using h),fun h=>hy (by simpa using h)⟩
theorem vqn {c:Bool} {X Y:Bool->Prop} (hx:c=false->X true) (hy:c=true->Y true):yvv (!c) X Y:=⟨fun h=>hx (by simpa using h),fun h=>hy (by simpa using h)⟩
theorem hg {p q:Prop} (k:q) (h:p=q:=by conv=>lhs;simp (maxSteps:=2000000) (disch:=omega) only [go_sem,Nat.reduceAdd,Nat.reduceSub,Nat.reduceMul,Int.reduceToNat,Nat.reduceEqDiff,Nat.reduceBEq,Nat.reduceBneDiff,Nat.reduceLT,Int.reduceEq,Int.reduceLT,Int.reduceLE,Int.reduceNeg,Int.reduceAdd,Int.reduceSub,Int.reduceMul]):p:=Eq.mpr h k
theorem hgS {p q:Prop} (k:q) (h:p=q:=by conv=>lhs;simp (maxSteps:=2000000) (disch:=omega) only [go_sem,Nat.reduceAdd,Nat.reduceSub,Nat.reduceMul,Int.reduceToNat,Nat.reduceEqDiff,Nat.reduceBEq,Nat.reduceBneDiff,Nat.reduceLT,Int.reduceEq,Int.reduceLT,Int.reduceLE,Int.reduceNeg,Int.reduceAdd,Int.reduceSub,Int.reduceMul, *]):p:=Eq.mpr h k
theorem hgR {p q:Prop} (k:q) (h:p=q:=by conv=>lhs;simp (maxSteps:=2000000) (disch:=omega) only [go_sem,Nat.reduceAdd,Nat.reduceSub,Nat.reduceMul,Int.reduceToNat,Nat.reduceEqDiff,Nat.reduceBEq,Nat.reduceBneDiff,Nat.reduceLT,Int.reduceEq,Int.reduceLT,Int.reduceLE,Int.reduceNeg,Int.reduceAdd,Int.reduceSub,Int.reduceMul,List.replicate]):p:=Eq.mpr h k
theorem hfk {p q r:Prop} (k:q) (l:r) (h:q->r->p:=by with_reducible first | exact fun a b=>wj8 a b | exact fun a b=>ykq a b | exact fun a b=>vb4 a b | exact fun a b=>v97 a b | exact fun a b=>z1z a b | exact fun a b=>zmh a b | exact fun a b=>w4y a b | exact fun a b=>vqn a b | exact fun a b=>vi3 a b):p:=h k l
theorem hik {ops:List Oper} {acc:List HR} {k:Bool->Prop} (hk:k true) (h:wy9 ops acc=true:=by kernel_rfl):zsq ops acc k:=⟨h,hk⟩
theorem svl {a b:List SV} (h:xj6 a b:=by repeat' first | exact .nil | refine .cons (by first | exact .refl _ | exact .any _) ?_):xj6 a b:=h
theorem RLe.ofEq {x y:AV} (h:x=y):RLe x y:=h▸.one (.refl _)
theorem x0v {p:Prop} [Decidable p]:(!decide p)=decide (¬p):=by by_cases h:p<;>simp [h]
theorem lfE {x y:AV} {p:Prop} (k:p) (h:(x=y)=p:=by conv=>lhs;simp only [Bool.and_true,Bool.true_and,Bool.and_false,Bool.false_and,Bool.or_true,Bool.true_or,Bool.or_false,Bool.false_or,Bool.not_true,Bool.not_false,decide_true,decide_false,not_true_eq_false,not_false_eq_true,x0v,if_true,if_false,Bool.and_self,Bool.or_self,cond_true,cond_false,List.length_map,ne_eq,Int.reduceEq,Int.reduceLT,Int.reduceLE, *]):RLe x y:=RLe.ofEq (h.symm▸k)
theorem lf1 {x y:AV} {a p:Prop} (ra:a) (k:p) (h:a->(x=y)=p:=by intro z1;conv=>lhs;simp only [Bool.and_true,Bool.true_and,Bool.and_false,Bool.false_and,Bool.or_true,Bool.true_or,Bool.or_false,Bool.false_or,Bool.not_true,Bool.not_false,decide_true,decide_false,not_true_eq_false,not_false_eq_true,x0v,if_true,if_false,Bool.and_self,Bool.or_self,cond_true,cond_false,List.length_map,ne_eq,Int.reduceEq,Int.reduceLT,Int.reduceLE, *]):RLe x y:=RLe.ofEq ((h ra).symm▸k)
theorem lf2 {x y:AV} {a b p:Prop} (ra:a) (rb:b) (k:p) (h:a->b->(x=y)=p:=by intro z1 z2;conv=>lhs;simp only [Bool.and_true,Bool.true_and,Bool.and_false,Bool.false_and,Bool.or_true,Bool.true_or,Bool.or_false,Bool.false_or,Bool.not_true,Bool.not_false,decide_true,decide_false,not_true_eq_false,not_false_eq_true,x0v,if_true,if_false,Bool.and_self,Bool.or_self,cond_true,cond_false,List.length_map,ne_eq,Int.reduceEq,Int.reduceLT,Int.reduceLE, *]):RLe x y:=RLe.ofEq ((h ra rb).symm▸k)
theorem bsE {q p:Prop} (k:p) (h:q=p:=by conv=>lhs;simp only [Bool.and_true,Bool.true_and,Bool.and_false,Bool.false_and,Bool.or_true,Bool.true_or,Bool.or_false,Bool.false_or,Bool.not_true,Bool.not_false,decide_true,decide_false,not_true_eq_false,not_false_eq_true,x0v,if_true,if_false,Bool.and_self,Bool.or_self,cond_true,cond_false,List.length_map,ne_eq,Int.reduceEq,Int.reduceLT,Int.reduceLE, *]):q:=h.symm▸k
theorem bs1 {a q p:Prop} (ra:a) (k:p) (h:a->q=p:=by intro z1;conv=>lhs;simp only [Bool.and_true,Bool.true_and,Bool.and_false,Bool.false_and,Bool.or_true,Bool.true_or,Bool.or_false,Bool.false_or,Bool.not_true,Bool.not_false,decide_true,decide_false,not_true_eq_false,not_false_eq_true,x0v,if_true,if_false,Bool.and_self,Bool.or_self,cond_true,cond_false,List.length_map,ne_eq,Int.reduceEq,Int.reduceLT,Int.reduceLE, *]):q:=(h ra).symm▸k
theorem bs2 {a b q p:Prop} (ra:a) (rb:b) (k:p) (h:a->b->q=p:=by intro z1 z2;conv=>lhs;simp only [Bool.and_true,Bool.true_and,Bool.and_false,Bool.false_and,Bool.or_true,Bool.true_or,Bool.or_false,Bool.false_or,Bool.not_true,Bool.not_false,decide_true,decide_false,not_true_eq_false,not_false_eq_true,x0v,if_true,if_false,Bool.and_self,Bool.or_self,cond_true,cond_false,List.length_map,ne_eq,Int.reduceEq,Int.reduceLT,Int.reduceLE, *]):q:=(h ra rb).symm▸k
theorem hg1 {a p q:Prop} (ra:a) (k:q) (h:a->p=q:=by intro z1;conv=>lhs;simp (maxSteps:=2000000) (disch:=omega) only [go_sem,Nat.reduceAdd,Nat.reduceSub,Nat.reduceMul,Int.reduceToNat,Nat.reduceEqDiff,Nat.reduceBEq,Nat.reduceBneDiff,Nat.reduceLT,Int.reduceEq,Int.reduceLT,Int.reduceLE,Int.reduceNeg,Int.reduceAdd,Int.reduceSub,Int.reduceMul,z1]):p:=Eq.mpr (h ra) k
theorem hg2 {a b p q:Prop} (ra:a) (rb:b) (k:q) (h:a->b->p=q:=by intro z1 z2;conv=>lhs;simp (maxSteps:=2000000) (disch:=omega) only [go_sem,Nat.reduceAdd,Nat.reduceSub,Nat.reduceMul,Int.reduceToNat,Nat.reduceEqDiff,Nat.reduceBEq,Nat.reduceBneDiff,Nat.reduceLT,Int.reduceEq,Int.reduceLT,Int.reduceLE,Int.reduceNeg,Int.reduceAdd,Int.reduceSub,Int.reduceMul,z1,z2]):p:=Eq.mpr (h ra rb) k
theorem hg3 {a b c p q:Prop} (ra:a) (rb:b) (rc:c) (k:q) (h:a->b->c->p=q:=by intro z1 z2 z3;conv=>lhs;simp (maxSteps:=2000000) (disch:=omega) only [go_sem,Nat.reduceAdd,Nat.reduceSub,Nat.reduceMul,Int.reduceToNat,Nat.reduceEqDiff,Nat.reduceBEq,Nat.reduceBneDiff,Nat.reduceLT,Int.reduceEq,Int.reduceLT,Int.reduceLE,Int.reduceNeg,Int.reduceAdd,Int.reduceSub,Int.reduceMul,z1,z2,z3]):p:=Eq.mpr (h ra rb rc) k
def swL (i j:Nat) (η:List SB):List SB:=(List.range η.length).map fun k=>swSB i j (gB η (sw i j k))
theorem ztz {i j k n:Nat} (hi:i<n) (hj:j<n) (hk:k<n):sw i j k<n:=by unfold sw;split<;>(try split)<;>omega
theorem StH.xnw {J:List SV} {η:List SB} {i j:Nat} (hi:e.length<=i) (hj:e.length<=j) (hil:i<η.length) (hjl:j<η.length):StH Γ e J η (J.map (swSV i j)) (swL i j η):=by
 refine StH.swap hi hj hil hjl (fun b x hb=>.inl ?_) (by simp [swL]);have hbl:b<η.length:=(List.getElem?_eq_some_iff.1 hb).1;unfold swL;rw [List.getElem?_map,List.getElem?_range (ztz hil hjl hbl)];simp only [Option.map_some,xu6];unfold gB;rw [hb];rfl
def ye4 (m:Nat) (J:List SV) (η:List SB):Bool:=(J.all fun x=>(wiu x).all fun b=>Nat.blt b m)&&((η.take m).all fun x=>(vv2 x).all fun b=>Nat.blt b m)
theorem StH.cutB {J:List SV} {η:List SB} (m:Nat) (hm:e.length<=m) (h:ye4 m J η=true):StH Γ e J η J (η.take m):=by
 unfold ye4 at h;rw [Bool.and_eq_true,List.all_eq_true,List.all_eq_true] at h;refine StH.cut hm (fun i x hx b hb=>?_) (fun i x hi hx=>.inr fun b hb=>?_)
 . have:=h.1 x (List.mem_of_getElem? hx)
   rw [List.all_eq_true] at this;simpa using this b hb
 . have:=h.2 x (List.mem_of_getElem? (by rw [List.getElem?_take_of_lt hi];exact hx))
   rw [List.all_eq_true] at this;simpa using this b hb
theorem StH.back {J J':List SV} {η η':List SB} (ks:List Nat) (i j m:Nat) (hi:Nat.ble e.length i=true) (hj:Nat.ble e.length j=true) (hm:Nat.ble e.length m=true) (hil:Nat.blt i η.length=true) (hjl:Nat.blt j η.length=true) (h:ye4 m ((wmh ks 0 J).map (swSV i j)) (swL i j η)=true)
 (hk:StH Γ e ((wmh ks 0 J).map (swSV i j)) ((swL i j η).take m) J' η'):StH Γ e J η J' η':=
 StH.trans (StH.only ks) (StH.trans (StH.xnw (by simpa using hi) (by simpa using hj) (by simpa using hil) (by simpa using hjl)) (StH.trans (StH.cutB m (by simpa using hm) h) hk))
theorem StH.same {J:List SV} {η:List SB} {J':List SV} {η':List SB} (h:xj6 J J') (hη:η=η'):StH Γ e J η J' η':=hη▸StH.w0m h
theorem StH.done {J J':List SV} {η η':List SB} (m:Nat) (hm:Nat.ble e.length m=true) (h:ye4 m J η=true) (hσ:J=J') (hη:η.take m=η'):StH Γ e J η J' η':=
 hσ▸hη▸StH.cutB m (by simpa using hm) h
theorem y44.of {φ:List Nat} {η ηs:List SB} (h:φ.map (fun j=>η[j]?)=ηs.map (fun x=>some (rnSB (atR φ η.length) x))):y44 φ η ηs:=by
 have hl:ηs.length=φ.length:=by
  have:=congrArg List.length h
  simpa using this.symm
 refine ⟨hl,fun i x hx=>?_⟩;have hi:i<ηs.length:=(List.getElem?_eq_some_iff.1 hx).1;refine ⟨φ[i]'(by omega),List.getElem?_eq_getElem _,?_⟩;have h1:=congrArg (fun l=>l[i]?) h;simp only [List.getElem?_map,hx,Option.map_some] at h1;rw [List.getElem?_eq_getElem (by omega)] at h1;simpa using h1
theorem yev.at (φ:List Nat) {f:FuncId} {η ηs ηs':List SB} {args:List SV} {res:SV} (h:yev Γ P f ηs args ηs' res) (hn:φ.Nodup) (hb:(φ.all fun j=>Nat.blt j η.length)=true)
 (hp:φ.map (fun j=>η[j]?)=ηs.map (fun x=>some (rnSB (atR φ η.length) x))) (hlen:Nat.ble φ.length ηs'.length=true):yev Γ P f η (args.map (yo3 (atR φ η.length))) (putR φ η ηs') (rnSV (atR φ η.length) res):=
 yev.frame hn (fun j hj=>by simpa using List.all_eq_true.1 hb j hj) (y44.of hp) (by simpa using hlen) h
theorem zmd (φ:List Nat) {f:FuncId} {η ηs ηs':List SB} {args l:List SV} {res:SV} {K:Bool->List SB->SV->Prop} (h:yev Γ P f ηs args ηs' res) (hl:args.map (yo3 (atR φ η.length))=l) (hn:φ.Nodup) (hb:(φ.all fun j=>Nat.blt j η.length)=true)
 (hp:φ.map (fun j=>η[j]?)=ηs.map (fun x=>some (rnSB (atR φ η.length) x))) (hlen:Nat.ble φ.length ηs'.length=true) (hk:K true (putR φ η ηs') (rnSV (atR φ η.length) res)):zg7 Γ P f η l K:=
 hl▸vxo (yev.at φ h hn hb hp hlen) hk
theorem wzm {a b:ByteArray}:seq a b=decide (a=b):=by
 unfold seq;rw [ByteArray.toList_eq,ByteArray.toList_eq];by_cases h:a=b
 . rw [h];simp
 . rw [decide_eq_false h]
   have:a.data.toList≠b.data.toList:=fun he=>h (ByteArray.ext (Array.toList_inj.1 he))
   simpa using this
theorem vvc {s:ByteArray}:seq s ⟨#[]⟩=decide (s.size=0):=by
 rw [wzm];refine decide_eq_decide.2 ⟨fun h=>by rw [h];rfl,fun h=>ByteArray.ext (Array.eq_empty_of_size_eq_zero h)⟩
theorem w8 {n:Int} (h:0<=n/\n<=255):IntKind.u8.wrap n=n:=by rw [IntKind.wrap_u8];omega
attribute [go_sem] w8
theorem wrm {n:Nat}:((n:Int)-1).toNat=n-1:=by omega
theorem yt5 {n:Nat}:((n:Int)+1).toNat=n+1:=by omega
attribute [go_sem] wrm yt5
theorem z8d {J:List SV} {t:Nat}:gt (J.map vw) t=vw (gtS J t):=vid t
attribute [go_sem] z8d wja valB elemAt
attribute [go_sem] vvc x0v List.size_toArray List.length_map List.getD_cons_zero List.getD_cons_succ
attribute [go_sem] v25 ye5 xsd eqOf litH y41 xd1 w7n usdH usH zv6 wo2 y3e vx4 eqL
attribute [go_sem] putR atR rnSB rnHC yo3 rnSV List.zip_cons_cons List.zip_nil_left List.zip_nil_right List.drop_succ_cons
attribute [go_sem] swSV z8u swHC swSB sw List.map_nil
end Go.Hp
namespace Go.Hp.T
open Go Go.RowKit Go.Slot Go.Hp
set_option maxRecDepth 10000
theorem toD {Γ:List (Nat×List Cell)} {P:Program} {f:FuncId} {args:List AV} {res:AV} (h:CallsD Γ P f args res):CallsD Γ P f args res:=h
abbrev cI (n:Int):Cell:=.raw (.int .i64 n)
abbrev c8 (n:Int):Cell:=.raw (.int .u8 n)
abbrev cS (s:ByteArray):Cell:=.raw (.string s)
abbrev cB (b:Bool):Cell:=.raw (.bool b)
abbrev fN (f:FuncId):AV:=.one (.raw (.func (.func f) #[] #[]))
def xw3 (s:ByteArray):List Int:=(List.range s.size).map (zxg s)
theorem yus (s:ByteArray):(xw3 s).length=s.size:=by simp [xw3]
theorem xpm (s:ByteArray) (i:Nat) (h:i<s.size):(xw3 s)[i]? = some (zxg s i):=by simp [xw3,h]
def wk3 (p:Int->Bool) (s:ByteArray):Nat:=((xw3 s).takeWhile p).length
theorem wmz {α:Type} (p:α->Bool):∀(l:List α) (n:Nat),n<=l.length->(∀ j x,j<n->l[j]? = some x->p x=true)->(n=l.length\/∃ x,l[n]? = some x/\p x=false)->(l.takeWhile p).length=n
 | [],n,hn,_,_=>by simp at hn;simp [hn]
 | a::l,0,_,_,h=>by
  rcases h with h | ⟨x,hx,hp⟩
  . simp at h
  . simp at hx;subst hx;simp [List.takeWhile,hp]
 | a::l,n+1,hn,hj,h=>by
  have ha:p a=true:=hj 0 a (by omega) rfl;rw [List.takeWhile_cons_of_pos ha,List.length_cons,wmz p l n (by simpa using hn) (fun j x h1 h2=>hj (j+1) x (by omega) (by simpa using h2)) ?_]
  rcases h with h | ⟨x,hx,hp⟩
  . exact .inl (by simpa using h)
  . exact .inr ⟨x,by simpa using hx,hp⟩
theorem ztv {p:Int->Bool} {s:ByteArray} {n:Nat} (hn:n<=s.size) (hj:∀ j,j<n->p (zxg s j)=true) (h:n=s.size\/p (zxg s n)=false):wk3 p s=n:=by
 refine wmz p _ n (by rw [yus];exact hn) (fun j x h1 h2=>?_) ?_
 . rw [xpm s j (by omega)] at h2;cases h2;exact hj j h1
 . by_cases e:n=s.size
   . exact .inl (by rw [yus];exact e)
   . rcases h with h | h
     . exact absurd h e
     . exact .inr ⟨_,xpm s n (by omega),h⟩
theorem v17 (p:Int->Bool) (s:ByteArray):wk3 p s<=s.size:=by
 have:=(List.takeWhile_sublist p (l:=xw3 s)).length_le
 rw [yus] at this;exact this
def yx6 (c:Int):Bool:=(decide (97<=c)&&decide (c<=122))||(decide (65<=c)&&decide (c<=90))
def isDigit (c:Int):Bool:=decide (48<=c)&&decide (c<=57)
def wj2 (c:Int):Bool:=yx6 c||isDigit c||decide (c=95)
def x5y (c:Int):Bool:=decide (32<=c)&&decide (c<=126)
def isName (s:ByteArray):Bool:=decide (¬s.size=0)&&yx6 (zxg s 0)&&decide ((s.size:Int)<=20)&&decide ((wk3 wj2 s:Int)=s.size)
def zek (s:ByteArray):Bool:=!(decide (400<(s.size:Int))||decide (¬(wk3 x5y s:Int)=s.size))
def escB (c:Int):List Int:=bif decide (c=34)||decide (c=92) then [92,c] else [c]
def escA (s:ByteArray) (i:Nat):List Int:=34::((xw3 s).take i).flatMap escB
def escS (s:ByteArray):ByteArray:=strOfNums (escA s s.size++[34])
theorem yag {s:ByteArray} {i:Nat} (h:i<s.size):escA s (i+1)=escA s i++escB (zxg s i):=by
 unfold escA
 have:(xw3 s).take (i+1)=(xw3 s).take i++[zxg s i]:=by
  rw [List.take_add_one,xpm s i h];rfl
 rw [this];simp
theorem y07 (s:ByteArray) (i:Nat):wh4 (zxg s i)=true:=by
 unfold wh4 zxg
 have:=((s.data[i]?).getD 0).toNat_lt
 simp;omega
theorem vou {c:Int} (h:wh4 c=true):(escB c).all wh4=true:=by
 unfold escB
 have h':0<=c/\c<256:=by simpa [wh4] using h
 cases decide (c=34)||decide (c=92)<;>simp [wh4,h']
theorem vui (s:ByteArray) (i:Nat):(escA s i).all wh4=true:=by
 have hb:∀ c∈xw3 s,wh4 c=true:=fun c hc=>by
  simp only [xw3,List.mem_map] at hc;obtain ⟨j,_,rfl⟩:=hc;exact y07 s j
 unfold escA;rw [List.all_cons,Bool.and_eq_true];refine ⟨rfl,?_⟩;rw [List.all_flatMap,List.all_eq_true]
 exact fun c hc=>vou (hb c (List.mem_of_mem_take hc))
theorem zg8 (c:Int):(escB c).length<=2:=by unfold escB;cases decide (c=34)||decide (c=92)<;>simp
theorem v6f:∀ l:List Int,(l.flatMap escB).length<=2*l.length
 | []=>by simp
 | c::l=>by
  have:=v6f l
  have:=zg8 c
  simp only [List.flatMap_cons,List.length_append,List.length_cons];omega
theorem y8o (s:ByteArray) (i:Nat):1<=(escA s i).length/\(escA s i).length<=1+2*s.size:=by
 unfold escA
 have:=v6f ((xw3 s).take i)
 have h2:((xw3 s).take i).length<=s.size:=by rw [List.length_take,yus];omega
 simp only [List.length_cons];omega
inductive Ex where
 | mk (op n:Int) (unit name:ByteArray) (args:List Ex)
def Ex.op:Ex->Int | .mk o _ _ _ _=>o
def Ex.n:Ex->Int | .mk _ n _ _ _=>n
def Ex.unit:Ex->ByteArray | .mk _ _ u _ _=>u
def Ex.name:Ex->ByteArray | .mk _ _ _ s _=>s
def Ex.args:Ex->List Ex | .mk _ _ _ _ l=>l
def Ex.zero:Ex:=.mk 0 0 ⟨#[]⟩ ⟨#[]⟩ []
instance:Inhabited Ex:=⟨Ex.zero⟩
theorem Ex.ind {Q:Ex->Prop} (h:∀ x:Ex,(∀ y∈x.args,Q y)->Q x):∀ x,Q x
 | .mk o n u s l=>h _ (fun y _hy=>Ex.ind h y)
termination_by x=>SizeOf.sizeOf x
decreasing_by
 have:=List.sizeOf_lt_of_mem (show y∈l from _hy)
 simp only [Ex.mk.sizeOf_spec];omega
mutual
def Ex.cells:Ex->List Cell
 | .mk o n u s l=>[cI o,cI n,cS u,cS s,.sl 5 (Ex.yhv l)]
def Ex.yhv:List Ex->List (List Cell)
 | []=>[]
 | x::l=>Ex.cells x::Ex.yhv l
end
theorem Ex.ve4:∀ l:List Ex,Ex.yhv l=l.map Ex.cells
 | []=>by rw [Ex.yhv];rfl
 | x::l=>by rw [Ex.yhv,Ex.ve4 l];rfl
abbrev exC (x:Ex):List Cell:=[cI x.op,cI x.n,cS x.unit,cS x.name,.sl 5 (x.args.map Ex.cells)]
theorem Ex.xmp (x:Ex):Ex.cells x=exC x:=by
 cases x with
 | mk o n u s l=>rw [Ex.cells,Ex.ve4];rfl
theorem getD_map' {α β:Type} [Inhabited α] (f:α->β) (d:β):∀(l:List α) (i:Nat),i<l.length->(l.map f).getD i d=f (l.getD i default)
 | [],_,h=>by simp at h
 | _::_,0,_=>rfl
 | _::l,i+1,h=>by simpa using getD_map' f d l i (by simpa using h)
theorem getD_map {α β:Type} [Inhabited α] {f:α->β} {d:β} {l:List α} {i:Nat} (h:i<l.length):(l.map f).getD i d=f (l.getD i default):=getD_map' f d l i h
attribute [go_sem] getD_map Ex.xmp
theorem wip {α:Type} [Inhabited α] {l:List α} {i:Nat} (h:i<l.length):l.getD i default∈l:=by
 have:l.getD i default=l[i]:=by simp [h]
 rw [this];exact List.getElem_mem h
theorem wsu {α:Type} [Inhabited α] {l:List α} {i:Nat} (h:i<l.length):l.drop i=l.getD i default::l.drop (i+1):=by
 have:l.getD i default=l[i]:=by simp [h]
 rw [this];exact List.drop_eq_getElem_cons h
inductive Ex.Sm:Ex->Prop
 | mk (x:Ex) (hl:x.args.length<=1073741824) (hu:x.unit.size<=1073741824) (hs:x.name.size<=1073741824) (h:∀ y∈x.args,Ex.Sm y):Ex.Sm x
theorem Ex.Sm.len {x:Ex} (h:x.Sm):x.args.length<=1073741824:=by cases h;assumption
theorem Ex.Sm.u {x:Ex} (h:x.Sm):x.unit.size<=1073741824:=by cases h;assumption
theorem Ex.Sm.s {x:Ex} (h:x.Sm):x.name.size<=1073741824:=by cases h;assumption
theorem Ex.Sm.arg {x:Ex} (h:x.Sm):∀ y∈x.args,y.Sm:=by cases h;assumption
def isWord (s:ByteArray):Bool:=seq s ⟨#[110,111,116]⟩||seq s ⟨#[105,102]⟩||seq s ⟨#[116,104,101,110]⟩||seq s ⟨#[101,108,115,101]⟩||seq s ⟨#[97,110,100]⟩||seq s ⟨#[111,114]⟩||seq s ⟨#[108,111,111,107]⟩||seq s ⟨#[109,105,110]⟩||seq s ⟨#[109,97,120]⟩||seq s ⟨#[105,110,116,111]⟩||seq s ⟨#[116,111]⟩||seq s ⟨#[97,115]⟩
def isNamed (s:ByteArray):Bool:=isName s&&!isWord s
def vli (o:Int):ByteArray:=bif decide (o=6) then ⟨#[43]⟩ else bif decide (o=7) then ⟨#[45]⟩ else bif decide (o=8) then ⟨#[42]⟩ else bif decide (o=9) then ⟨#[47]⟩ else bif decide (o=12) then ⟨#[60]⟩ else bif decide (o=13) then ⟨#[61]⟩ else bif decide (o=14) then ⟨#[97,110,100]⟩ else bif decide (o=15) then ⟨#[111,114]⟩ else ⟨#[]⟩
def isOp (o:Int):Bool:=decide (o=6)||decide (o=7)||decide (o=8)||decide (o=9)||decide (o=12)||decide (o=13)||decide (o=14)||decide (o=15)
mutual
def Ex.cnt:Ex->Int->Int->Bool×Int
 | .mk _ _ _ _ l,n,lv=>bif decide (200<n+1)||decide (20<lv) then (false,n+1) else Ex.cntL l (n+1) (lv+1)
def Ex.cntL:List Ex->Int->Int->Bool×Int
 | [],n,_=>(true,n)
 | y::l,n,lv=>match Ex.cnt y n lv with
  | (false,m)=>(false,m)
  | (true,m)=>Ex.cntL l m lv
end
theorem Ex.y6r (x:Ex) (n lv:Int):x.cnt n lv=bif decide (200<n+1)||decide (20<lv) then (false,n+1) else Ex.cntL x.args (n+1) (lv+1):=by cases x;rw [Ex.cnt];rfl
theorem Ex.yww:∀(x:Ex) (n lv k:Int),x.cnt n lv=(true,k)->n<k/\k<=200:=by
 have hL:∀ l:List Ex,(∀ y∈l,∀(n lv k:Int),y.cnt n lv=(true,k)->n<k/\k<=200)->∀ n lv k:Int,n<=200->Ex.cntL l n lv=(true,k)->n<=k/\k<=200:=by
  intro l
  induction l with
  | nil=>intro _ n lv k hn h;rw [Ex.cntL] at h;cases h;omega
  | cons y l ih=>
   intro hy n lv k hn h;rw [Ex.cntL] at h;split at h
   . cases h
   . rename_i m hm;have h1:=hy y (by simp) _ _ _ hm;have h2:=ih (fun z hz=>hy z (by simp [hz])) _ _ _ h1.2 h;omega
 refine Ex.ind (fun x ih n lv k h=>?_);rw [Ex.y6r] at h;by_cases h1:200<n+1
 . simp [h1] at h
 . by_cases h2:20<lv
   . simp [h2] at h
   . simp only [h1,h2,decide_false,Bool.or_self,cond_false] at h
     have:=hL x.args ih _ _ _ (by omega) h
     omega
def wqu (x:Ex):Bool:=
 bif decide (x.op=0) then zek x.unit&&decide (0<=x.n)&&decide (x.n<=1099511627776)&&decide (x.name.size=0)&&decide ((x.args.length:Int)=0) else
 bif decide (¬x.n=0)||decide (¬x.unit.size=0) then false else
 bif decide (x.op=1) then isNamed x.name&&decide ((x.args.length:Int)=0) else
 bif decide (x.op=2) then isNamed x.name&&decide ((x.args.length:Int)=1) else
 bif decide (x.op=3) then isNamed x.name&&decide (1<=(x.args.length:Int))&&decide ((x.args.length:Int)<=6) else
 bif decide (x.op=4) then decide (x.name.size=0)&&decide ((x.args.length:Int)=1) else
 bif decide (x.op=5) then decide (x.name.size=0)&&decide ((x.args.length:Int)=3) else
 bif decide (x.op=10)||decide (x.op=11) then decide (x.name.size=0)&&decide ((x.args.length:Int)=2) else
 isOp x.op&&decide (x.name.size=0)&&decide ((x.args.length:Int)=2)
mutual
def Ex.shaped:Ex->Bool
 | .mk o n u s l=>wqu (.mk o n u s l)&&Ex.zeq l
def Ex.zeq:List Ex->Bool
 | []=>true
 | y::l=>Ex.shaped y&&Ex.zeq l
end
theorem Ex.y99:∀ l:List Ex,Ex.zeq l=l.all Ex.shaped
 | []=>by rw [Ex.zeq];rfl
 | y::l=>by rw [Ex.zeq,Ex.y99 l];rfl
theorem Ex.vb1 (x:Ex):x.shaped=(wqu x&&x.args.all Ex.shaped):=by cases x;rw [Ex.shaped,Ex.y99];rfl
def v93 (x:Ex):Bool:=(x.cnt 0 1).1&&x.shaped
def idxF {α:Type} (p:α->Bool):List α->Int
 | []=>-1
 | x::l=>bif p x then 0 else bif decide (idxF p l = -1) then -1 else idxF p l+1
theorem x11 {α:Type} (p:α->Bool):∀ l:List α,-1<=idxF p l
 | []=>by unfold idxF;omega
 | x::l=>by
  have:=x11 p l
  unfold idxF
  cases p x with
  | true=>simp
  | false=>
   by_cases h:idxF p l = -1
   . simp [h]
   . simp [h];omega
theorem xrh {α:Type} (p:α->Bool):∀ l:List α,decide (0<=idxF p l)=l.any p
 | []=>rfl
 | x::l=>by
  have h2:=xrh p l;have h3:=x11 p l;unfold idxF;rw [List.any_cons,<-h2]
  cases p x with
  | true=>simp
  | false=>
   by_cases h:idxF p l = -1
   . simp [h]
   . simp [h];omega
theorem xs8 {α:Type} [Inhabited α] {p:α->Bool}:∀{l:List α} {i:Nat},i<=l.length->(∀ j,j<i->p (l.getD j default)=false)->(i=l.length->idxF p l = -1)/\(i<l.length->p (l.getD i default)=true->idxF p l=i)
 | [],i,hi,_=>by simp at hi;subst hi;exact ⟨fun _=>rfl,fun h=>by simp at h⟩
 | x::l,0,_,_=>⟨fun h=>by simp at h,fun _ h=>by unfold idxF;have:p x=true:=h;rw [this];rfl⟩
 | x::l,i+1,hi,hj=>by
  have h0:p x=false:=hj 0 (by omega);obtain ⟨h1,h2⟩:=xs8 (l:=l) (i:=i) (by simpa using hi) (fun j hj'=>by simpa using hj (j+1) (by omega));unfold idxF;rw [h0];refine ⟨fun h=>?_,fun h hp=>?_⟩
  . rw [h1 (by simpa using h)];rfl
  . rw [h2 (by simpa using h) (by simpa using hp)]
    have:¬((i:Int) = -1):=by omega
    simp [this]
end Go.Hp.T
namespace Go.Hp
open Go Go.RowKit Go.Slot
variable {P:Program} {Γ:List (Nat×List Cell)} {e:List SB} {G:List (Nat×List GhH)}
def zvi (n m:Nat) (J:List SV) (η:List SB):Bool:=(J.all fun x=>(wiu x).all fun b=>Nat.blt b m)&&(((η.take m).drop n).all fun x=>(vv2 x).all fun b=>Nat.blt b m)
theorem StH.cutE {J:List SV} {η:List SB} (m:Nat) (hm:e.length<=m) (he:η.take e.length=e) (h:zvi e.length m J η=true):StH Γ e J η J (η.take m):=by
 unfold zvi at h;rw [Bool.and_eq_true,List.all_eq_true,List.all_eq_true] at h;refine StH.cut hm (fun i x hx b hb=>?_) (fun i x hi hx=>?_)
 . have:=h.1 x (List.mem_of_getElem? hx)
   rw [List.all_eq_true] at this;simpa using this b hb
 . by_cases hie:i<e.length
   . left
     rw [<-he,List.getElem?_take_of_lt hie];exact hx
   . right
     intro b hb
     have hmem:x∈(η.take m).drop e.length:=by
      have:((η.take m).drop e.length)[i-e.length]? = some x:=by
       rw [List.getElem?_drop,show e.length+(i-e.length)=i from by omega,List.getElem?_take_of_lt hi];exact hx
      exact List.mem_of_getElem? this
     have:=h.2 x hmem
     rw [List.all_eq_true] at this;simpa using this b hb
theorem StH.w4z {J J':List SV} {η:List SB} (he:η.take e.length=e) (h:(J.all fun x=>(wiu x).all fun b=>Nat.blt b e.length)=true) (hσ:J=J'):StH Γ e J η J' e:=by
 have hc:zvi e.length e.length J η=true:=by
  unfold zvi;rw [h,Bool.true_and,List.all_eq_true];intro x hx;rw [List.drop_eq_nil_of_le (by rw [List.length_take];omega)] at hx
  cases hx
 have:=StH.cutE (Γ:=Γ) (J:=J) e.length (Nat.le_refl _) he hc
 rw [he] at this;exact hσ▸this
def dzS (η:List SB):SV->SV×List Nat
 | .one h=>match wdx η h with
  | some (c,bs)=>(.one (.dat c),bs)
  | none=>(.one h,[])
 | x=>(x,[])
def dzL (η:List SB):List SV->List SV
 | []=>[]
 | x::l=>(dzS η x).1::dzL η l
def dzB (η:List SB):List SV->List Nat
 | []=>[]
 | x::l=>(dzS η x).2++dzB η l
theorem x73 {η:List SB} {x:SV}:∀ b∈(dzS η x).2,vtf (gB η b)=true:=by
 intro b hb;unfold dzS at hb;split at hb
 . split at hb
   . rename_i hd;exact x4y hd b hb
   . cases hb
 . cases hb
theorem yxr {η:List SB}:∀{l:List SV},∀ b∈dzB η l,vtf (gB η b)=true
 | [],b,hb=>by cases hb
 | x::l,b,hb=>by
  rcases List.mem_append.1 hb with h | h
  . exact x73 b h
  . exact yxr b h
theorem ya8 {Mo:Nat->Nat->Prop} {ρ:Nat->Value} {η η':List SB} {w:World} (hI:HInv Γ Mo ρ η' w):∀{l:List SV} {vs:List Value},(∀ b∈dzB η l,gB η' b=frzB (gB η b))->SRL η' ρ (MX Mo ρ η') w vs l->SRL η' ρ (MX Mo ρ η') w vs (dzL η l)
 | [],[],_,_=>trivial
 | [],_::_,_,h=>h.elim
 | _::_,[],_,h=>h.elim
 | x::l,v::vs,hf,h=>by
  refine ⟨?_,ya8 hI (fun b hb=>hf b (List.mem_append.2 (.inr hb))) h.2⟩;have h1:=h.1
  cases x with
  | one y=>
   cases hd:wdx η y with
   | none=>
    have:dzS η (.one y)=(.one y,[]):=by unfold dzS;simp only [hd]
    rw [this];exact h1
   | some p=>
    obtain ⟨c,bs⟩:=p
    have he:dzS η (.one y)=(.one (.dat c),bs):=by unfold dzS;simp only [hd]
    rw [he];exact v5c hI hd (fun b hb=>hf b (List.mem_append.2 (.inl (by rw [he];exact hb)))) h1
  | _=>exact h1
theorem yev.frz {f:FuncId} {η η':List SB} {l:List SV} {res:SV} (h:yev Γ P f (appL (frzE η (dzB η l)) η) (dzL η l) η' res):yev Γ P f η l η' res:=by
 refine ⟨h.1,fun Mo ρ w vs hI hsr=>?_⟩;obtain ⟨h1,_,h3⟩:=Went.frz (dzB η l) η hI rfl yxr (fun _=>.inl rfl);refine (h.2 Mo ρ w vs h1.inv (ya8 h1.inv h3 (hsr.mv h1.mv))).mono ?_;rintro x w' ⟨v,ρ',rfl,hw,hv⟩;exact ⟨v,ρ',rfl,h1.trans hw,hv⟩
theorem wfp (φ:List Nat) {f:FuncId} {η η1 ηs ηs':List SB} {args l l1:List SV} {res:SV} {K:Bool->List SB->SV->Prop} (h:yev Γ P f ηs args ηs' res) (hz:dzL η l=l1) (hη:appL (frzE η (dzB η l)) η=η1) (hl:args.map (yo3 (atR φ η1.length))=l1) (hn:φ.Nodup) (hb:(φ.all fun j=>Nat.blt j η1.length)=true)
 (hp:φ.map (fun j=>η1[j]?)=ηs.map (fun x=>some (rnSB (atR φ η1.length) x))) (hlen:Nat.ble φ.length ηs'.length=true) (hk:K true (putR φ η1 ηs') (rnSV (atR φ η1.length) res)):zg7 Γ P f η l K:=by
 subst hz;subst hη;exact vxo (yev.frz (hl▸yev.at φ h hn hb hp hlen)) hk
def envM {α:Type} (C:α->SV):List (ByteArray×α)->List (Value×SV)
 | []=>[]
 | p::l=>(.string p.1,C p.2)::envM C l
def vua {α:Type}:List (ByteArray×α)->ByteArray->Option α
 | [],_=>none
 | p::l,s=>bif seq s p.1 then some p.2 else vua l s
def updF {α:Type}:List (ByteArray×α)->ByteArray->α->List (ByteArray×α)
 | [],s,v=>[(s,v)]
 | p::l,s,v=>bif seq s p.1 then (s,v)::l else p::updF l s v
theorem y0d {α:Type} (C:α->SV):∀ l:List (ByteArray×α),(envM C l).length=l.length
 | []=>rfl
 | _::l=>by rw [envM,List.length_cons,y0d C l];rfl
theorem wbt {a b:ByteArray}:seq a b=seq b a:=by rw [wzm,wzm];exact decide_eq_decide.2 eq_comm
theorem ya1 {α:Type} {C:α->SV} {s:ByteArray}:∀{l:List (ByteArray×α)},yul (envM C l) (.string s)=some ((vua l s).map C)
 | []=>rfl
 | p::l=>by
  have ih:=ya1 (C:=C) (s:=s) (l:=l);simp only [envM,yul,kEq,vua];rw [ih]
  first
   | (cases seq s p.1<;>rfl)
   | (rw [wbt];cases seq s p.1<;>rfl)
theorem va9 {α:Type} {C:α->SV} {s:ByteArray} {v:α}:∀{l:List (ByteArray×α)},updM (envM C l) (.string s) (C v)=some (envM C (updF l s v))
 | []=>rfl
 | p::l=>by
  have ih:=va9 (C:=C) (s:=s) (v:=v) (l:=l);simp only [envM,updM,kEq,updF];rw [ih]
  first
   | (cases seq s p.1<;>rfl)
   | (rw [wbt];cases seq s p.1<;>rfl)
attribute [go_sem] ya1 y0d
end Go.Hp
namespace Go.Hp.T
open Go Go.RowKit Go.Slot Go.Hp
set_option maxRecDepth 10000
structure Dm where
 a:Int
 b:Int
 c:Int
 d:Int
 e:Int
 f:Int
deriving DecidableEq
def Dm.zero:Dm:=⟨0,0,0,0,0,0⟩
instance:Inhabited Dm:=⟨Dm.zero⟩
abbrev dmC (x:Dm):List Cell:=[cI x.a,cI x.b,cI x.c,cI x.d,cI x.e,cI x.f]
def bad9 (n:Int):Bool:=decide (n < -9)||decide (9<n)
def vqx (x:Dm):Bool:=!bad9 x.a&&!bad9 x.b&&!bad9 x.c&&!bad9 x.d&&!bad9 x.e&&!bad9 x.f
theorem yjc {x y:Dm}:(decide (x.a=y.a)&&(decide (x.b=y.b)&&(decide (x.c=y.c)&&(decide (x.d=y.d)&&(decide (x.e=y.e)&&decide (x.f=y.f))))))=decide (x=y):=by
 cases x;cases y;simp only [<-Bool.decide_and,Dm.mk.injEq]
structure Ty where
 t:Bool
 d:Dm
deriving DecidableEq
def Ty.zero:Ty:=⟨false,Dm.zero⟩
instance:Inhabited Ty:=⟨Ty.zero⟩
attribute [go_sem] yjc
structure Rw where
 k:Int
 v:Int
instance:Inhabited Rw:=⟨⟨0,0⟩⟩
def Rw.C (x:Rw):List Cell:=[cI x.k,cI x.v]
abbrev rwC (x:Rw):List Cell:=[cI x.k,cI x.v]
theorem Rw.C_eq (x:Rw):x.C=rwC x:=rfl
structure Tb where
 name:ByteArray
 unit:ByteArray
 rows:List Rw
instance:Inhabited Tb:=⟨⟨⟨#[]⟩,⟨#[]⟩,[]⟩⟩
def Tb.C (x:Tb):List Cell:=[cS x.name,cS x.unit,.sl 2 (x.rows.map Rw.C)]
abbrev tbC (x:Tb):List Cell:=[cS x.name,cS x.unit,.sl 2 (x.rows.map Rw.C)]
theorem Tb.C_eq (x:Tb):x.C=tbC x:=rfl
structure Vr where
 name:ByteArray
 d:Dm
instance:Inhabited Vr:=⟨⟨⟨#[]⟩,Dm.zero⟩⟩
attribute [go_sem] Rw.C_eq Tb.C_eq
def inT (n:Int):Bool:=decide (-1099511627776<=n)&&decide (n<=1099511627776)
def rowAt (l:List Rw) (i:Nat):Bool:=inT (l.getD i default).k&&inT (l.getD i default).v&&!(decide (0<(i:Int))&&decide ((l.getD i default).k<=(l.getD (i-1) default).k))
def vvy (l:List Rw):Bool:=(List.range l.length).all (rowAt l)
theorem yo5 {p:Nat->Bool} {n:Nat}:(∀ j,j<n->p j=true)->(List.range n).all p=true:=fun h=>by
 rw [List.all_eq_true];exact fun x hx=>h x (List.mem_range.1 hx)
theorem v96 {p:Nat->Bool} {n j:Nat} (hj:j<n) (h:p j=false):(List.range n).all p=false:=by
 cases ha:(List.range n).all p with
 | false=>rfl
 | true=>rw [List.all_eq_true.1 ha j (List.mem_range.2 hj)] at h;cases h
def wcg (uerr:ByteArray->Int) (t:Tb):Bool:=!decide (¬uerr t.unit=0)&&isName t.name&&!decide (100<(t.rows.length:Int))&&vvy t.rows
theorem yht {p:Nat->Prop} {i:Nat} (h:∀ j,j<i->p j) (hi:p i):∀ j,j<i+1->p j:=fun j hj=>by
 rcases Nat.lt_or_eq_of_le (Nat.le_of_lt_succ hj) with h2 | h2
 . exact h j h2
 . rw [h2];exact hi
end Go.Hp.T
namespace Go.Slot
open Go Go.RowKit
set_option maxRecDepth 10000
def digits (L:List Int):Prop:=∀ x∈L,0<=x/\x<=1048575
instance (L:List Int):Decidable (digits L):=inferInstanceAs (Decidable (∀ x∈L,0<=x/\x<=1048575))
def num:List Int->Int
 | []=>0
 | d::l=>d+1048576*num l
theorem digits.nil:digits []:=fun _ h=>by cases h
theorem digits.cons {d:Int} {l:List Int} (h:0<=d/\d<=1048575) (hl:digits l):digits (d::l):=fun x hx=>by
 rcases List.mem_cons.1 hx with rfl | hx
 . exact h
 . exact hl x hx
theorem digits.head {d:Int} {l:List Int} (h:digits (d::l)):0<=d/\d<=1048575:=h d (by simp)
theorem digits.tail {d:Int} {l:List Int} (h:digits (d::l)):digits l:=fun x hx=>h x (by simp [hx])
theorem digits.append {l m:List Int} (hl:digits l) (hm:digits m):digits (l++m):=fun x hx=>by
 rcases List.mem_append.1 hx with hx | hx
 . exact hl x hx
 . exact hm x hx
theorem digits.take {l:List Int} (h:digits l) (n:Nat):digits (l.take n):=fun x hx=>h x (List.mem_of_mem_take hx)
theorem digits.drop {l:List Int} (h:digits l) (n:Nat):digits (l.drop n):=fun x hx=>h x (List.mem_of_mem_drop hx)
theorem digits.getD {l:List Int} (h:digits l) (i:Nat):0<=l.getD i 0/\l.getD i 0<=1048575:=by
 rw [List.getD_eq_getElem?_getD]
 cases hh:l[i]? with
 | none=>simp
 | some x=>exact h x (List.mem_of_getElem? hh)
theorem digits.set {l:List Int} (h:digits l) (i:Nat) {x:Int} (hx:0<=x/\x<=1048575):digits (l.set i x):=fun y hy=>by
 rcases List.mem_or_eq_of_mem_set hy with hy | rfl
 . exact h y hy
 . exact hx
theorem digits.rep (n:Nat):digits (List.replicate n 0):=fun x hx=>by
 rw [List.mem_replicate] at hx;omega
theorem num_nonneg:∀{l:List Int},digits l->0<=num l
 | [],_=>Int.le_refl _
 | d::l,h=>by have:=num_nonneg h.tail;have:=h.head;simp only [num];omega
theorem wah (n:Nat):(0:Int)<1048576 ^ n:=Int.pow_pos (by decide)
theorem xba {m n:Nat} (h:m<=n):(1048576:Int) ^ m<=1048576 ^ n:=by
 obtain ⟨k,rfl⟩:=Nat.exists_eq_add_of_le h;rw [Int.pow_add];have h1:=wah k;have h2:=Int.mul_le_mul_of_nonneg_left (show (1:Int)<=1048576 ^ k by omega) (Int.le_of_lt (wah m))
 rwa [Int.mul_one] at h2
theorem yg9:∀{l:List Int},digits l->num l<1048576 ^ l.length
 | [],_=>by simp [num]
 | d::l,h=>by
  have:=yg9 h.tail
  have:=h.head
  simp only [num,List.length_cons,Int.pow_succ];omega
theorem v41:∀(l m:List Int),num (l++m)=num l+1048576 ^ l.length*num m
 | [],m=>by simp [num]
 | d::l,m=>by
  simp only [List.cons_append,num,List.length_cons,v41 l m,Int.pow_succ];rw [Int.mul_add,Int.mul_comm (1048576 ^ l.length) 1048576,Int.mul_assoc];omega
theorem w5i (n:Nat):num (List.replicate n 0)=0:=by
 induction n with
 | zero=>rfl
 | succ n ih=>simp [List.replicate_succ,num,ih]
theorem zb5:∀(l:List Int) (i:Nat),num (l.take (i+1))=num (l.take i)+1048576 ^ i*l.getD i 0
 | [],i=>by simp [num]
 | d::l,0=>by simp [num]
 | d::l,i+1=>by
  simp only [List.take_succ_cons,num,zb5 l i,List.getD_cons_succ,Int.pow_succ];rw [Int.mul_add,Int.mul_comm (1048576 ^ i) 1048576,Int.mul_assoc];omega
theorem zb0:∀(l:List Int) (i:Nat) (x:Int),i<l.length->num (l.set i x)=num l+1048576 ^ i*(x-l.getD i 0)
 | [],i,x,h=>by simp at h
 | d::l,0,x,_=>by simp [num];omega
 | d::l,i+1,x,h=>by
  simp only [List.set_cons_succ,num,zb0 l i x (by simpa using h),List.getD_cons_succ,Int.pow_succ];rw [Int.mul_add,Int.mul_comm (1048576 ^ i) 1048576,Int.mul_assoc];omega
theorem x81 (l:List Int) (i:Nat):num l=num (l.take i)+1048576 ^ (l.take i).length*num (l.drop i):=by
 rw [<-v41,List.take_append_drop]
def x4t (l:List Int) (i:Nat):Prop:=∀ j,i<=j->l.getD j 0=0
theorem x4t.rep (n:Nat):x4t (List.replicate n 0) 0:=fun j _=>by
 rw [List.getD_eq_getElem?_getD,List.getElem?_replicate];split<;>rfl
theorem xab {l:List Int} {i j:Nat} (x:Int) (h:i≠j):(l.set i x).getD j 0=l.getD j 0:=by
 rw [List.getD_eq_getElem?_getD,List.getElem?_set_ne h,List.getD_eq_getElem?_getD]
theorem x4t.set {l:List Int} {i:Nat} (h:x4t l i) (x:Int):x4t (l.set i x) (i+1):=fun j hj=>by
 rw [xab x (by omega)];exact h j (by omega)
theorem x4t.yr3 {l:List Int} {i k:Nat} (h:x4t l i) (x:Int) (hk:k<i):x4t (l.set k x) i:=fun j hj=>by
 rw [xab x (by omega)];exact h j hj
theorem x4t.mono {l:List Int} {i j:Nat} (h:x4t l i) (hij:i<=j):x4t l j:=fun k hk=>h k (by omega)
theorem ywl {l:List Int} {i n:Nat} (h:i<n):(l.take n).getD i 0=l.getD i 0:=by
 rw [List.getD_eq_getElem?_getD,List.getElem?_take_of_lt h,List.getD_eq_getElem?_getD]
theorem xqc {l:List Int} {i:Nat} (h:l.length<=i):l.getD i 0=0:=by
 rw [List.getD_eq_getElem?_getD,List.getElem?_eq_none h];rfl
theorem y4r {l:List Int} {i:Nat} (h:l.length<=i):l.take i=l:=List.take_of_length_le h
theorem yvz {o:List Int} {i:Nat} (hi:i<o.length) (s:Int):num (o.set i (s % 1048576))+1048576 ^ (i+1)*(s / 1048576)=num o+1048576 ^ i*(s-o.getD i 0):=by
 rw [zb0 o i _ hi,Int.pow_succ];have h:=Int.emod_add_mul_ediv s 1048576;generalize (1048576:Int) ^ i=P;generalize s % 1048576=r at *;generalize s / 1048576=q at *;generalize o.getD i 0=z
 grind
def norm (l:List Int):Prop:=l≠[]->l.getD (l.length-1) 0≠0
theorem norm.nil:norm []:=fun h=>absurd rfl h
theorem norm.tail {d:Int} {l:List Int} (h:norm (d::l)):norm l:=fun hl=>by
 have:=h (by simp)
 have hp:0<l.length:=List.length_pos_iff.2 hl;rw [List.length_cons,show l.length+1-1=(l.length-1)+1 by omega,List.getD_cons_succ] at this;exact this
theorem norm.pos:∀{l:List Int},digits l->norm l->l≠[]->0<num l
 | [],_,_,h=>absurd rfl h
 | d::l,hd,hn,_=>by
  simp only [num];by_cases hl:l=[]
  . subst hl
    have:=hn (by simp)
    have h0:=hd.head;simp at this;simp only [num];omega
  . have:=norm.pos hd.tail hn.tail hl
    have h0:=hd.head;omega
theorem zui:∀{l m:List Int},digits l->norm l->digits m->norm m->num l=num m->l=m
 | [],[],_,_,_,_,_=>rfl
 | [],d::m,_,_,hm,nm,h=>by have:=norm.pos hm nm (by simp);rw [<-h] at this;simp [num] at this
 | d::l,[],hl,nl,_,_,h=>by have:=norm.pos hl nl (by simp);rw [h] at this;simp [num] at this
 | d::l,e::m,hl,nl,hm,nm,h=>by
  simp only [num] at h;have h1:=hl.head;have h2:=hm.head
  have hde:d=e:=by omega
  have:=zui hl.tail nl.tail hm.tail nm.tail (by omega)
  rw [hde,this]
def dig (n:Nat):List Int:=if h:n=0 then [] else ((n % 1048576:Nat):Int)::dig (n / 1048576)
 termination_by n
 decreasing_by omega
theorem xvn:dig 0=[]:=by unfold dig;simp
theorem zyy {n:Nat} (h:n≠0):dig n=((n % 1048576:Nat):Int)::dig (n / 1048576):=by
 rw [dig];simp [h]
theorem wxj:∀ n:Nat,digits (dig n)/\norm (dig n)/\num (dig n)=n/\(dig n=[]->n=0):=by
 intro n
 induction n using Nat.strongRecOn with
 | ind n ih =>
  by_cases h:n=0
  . subst h;rw [xvn];exact ⟨digits.nil,norm.nil,rfl,fun _=>rfl⟩
  . rw [zyy h];obtain ⟨h1,h2,h3,h4⟩:=ih (n / 1048576) (by omega);refine ⟨digits.cons (by omega) h1,fun _=>?_,by simp only [num,h3];omega,fun e=>by cases e⟩;by_cases hn:dig (n / 1048576)=[]
    . rw [hn]
      have:=h4 hn
      simp;omega
    . have:=h2 hn
      have hp:0<(dig (n / 1048576)).length:=List.length_pos_iff.2 hn;rw [List.length_cons,show (dig (n / 1048576)).length+1-1=((dig (n / 1048576)).length-1)+1 by omega,List.getD_cons_succ];exact this
theorem zbn (n:Nat):digits (dig n):=(wxj n).1
theorem w7i (n:Nat):norm (dig n):=(wxj n).2.1
theorem x5q (n:Nat):num (dig n)=n:=(wxj n).2.2.1
theorem xa5 {n:Nat}:dig n=[]↔n=0:=⟨(wxj n).2.2.2,fun h=>by rw [h,xvn]⟩
theorem xbo {l:List Int} (hd:digits l) (hn:norm l):l=dig (num l).toNat:=
 zui hd hn (zbn _) (w7i _) (by rw [x5q];have:=num_nonneg hd;omega)
theorem wq6 {l:List Int} {n:Int} (hd:digits l) (hn:norm l) (h:num l=n):l=dig n.toNat:=by rw [<-h];exact xbo hd hn
theorem xst {n k:Nat} (h:n<1048576 ^ k):(dig n).length<=k:=by
 induction k generalizing n with
 | zero=>have:n=0:=(by simpa using h);subst this;rw [xvn];exact Nat.le_refl _
 | succ k ih=>
  by_cases h0:n=0
  . subst h0;rw [xvn];exact Nat.zero_le _
  . rw [zyy h0,List.length_cons];exact Nat.succ_le_succ (ih (by rw [Nat.pow_succ] at h;omega))
theorem zrm {n k:Nat} (h:(dig n).length<=k):n<1048576 ^ k:=by
 have h1:=yg9 (zbn n);rw [x5q] at h1;have h2:(1048576:Nat) ^ (dig n).length<=1048576 ^ k:=Nat.pow_le_pow_right (by decide) h
 have h3:((1048576 ^ (dig n).length:Nat):Int)=1048576 ^ (dig n).length:=by simp
 omega
theorem wwe {m n:Nat} (h:m<=n):(dig m).length<=(dig n).length:=xst (Nat.lt_of_le_of_lt h (zrm (Nat.le_refl _)))
def zb6 (L:List Int):Nat->Nat
 | 0=>0
 | n+1=>if L.getD n 0=0 then zb6 L n else n+1
theorem vbo (L:List Int):∀ n,zb6 L n<=n
 | 0=>Nat.le_refl _
 | n+1=>by unfold zb6;split;exact Nat.le_succ_of_le (vbo L n);exact Nat.le_refl _
def ybt (L:List Int):List Int:=L.take (zb6 L L.length)
theorem wc8 (L:List Int):(ybt L).length=zb6 L L.length:=by
 have:=vbo L L.length
 simp [ybt];omega
theorem wgt (L:List Int):∀ n,n<=L.length->norm (L.take (zb6 L n))/\num (L.take (zb6 L n))=num (L.take n)
 | 0,_=>by simp [zb6,norm]
 | n+1,h=>by
  unfold zb6
  split
  . rename_i h0;obtain ⟨h1,h2⟩:=wgt L n (by omega);refine ⟨h1,?_⟩;rw [h2,zb5,h0];simp
  . rename_i h0;refine ⟨fun _=>?_,rfl⟩;rw [show (L.take (n+1)).length-1=n by simp;omega,ywl (by omega)];exact h0
theorem y1b {L:List Int} (hd:digits L):ybt L=dig (num L).toNat:=by
 have h:=wgt L L.length (Nat.le_refl _);rw [List.take_length] at h;exact wq6 (hd.take _) h.1 h.2
theorem zva {L:List Int} {n:Int} (hd:digits L) (h:num L=n):ybt L=dig n.toNat:=by rw [<-h];exact y1b hd
theorem xb7 (n:Nat):ybt (dig n)=dig n:=by rw [y1b (zbn n),x5q];rfl
theorem ysb (L:List Int):(ybt L).length<=L.length:=by rw [wc8];exact vbo _ _
theorem ygx:∀(l:List Int) (n:Nat),num (l.drop n)=l.getD n 0+1048576*num (l.drop (n+1))
 | [],n=>by simp [num]
 | d::l,0=>by simp [num]
 | d::l,n+1=>by simpa using ygx l n
theorem vhr {l:List Int} {i:Nat} (x:Int) (h:i<l.length):(l.set i x).drop i=x::l.drop (i+1):=by
 rw [List.drop_set,if_neg (by omega),Nat.sub_self]
 cases hh:l.drop i with
 | nil=>have:=congrArg List.length hh;simp at this;omega
 | cons y r=>rw [List.set_cons_zero,<-List.drop_drop,hh];rfl
def ord (x y:Int):Int:=if x<y then -1 else if y<x then 1 else 0
theorem xo2 {a b:List Int} (ha:digits a) (na:norm a) (hb:digits b) (nb:norm b) (h:a.length<b.length):num a<num b:=by
 rw [xbo ha na,xbo hb nb] at h
 have h1:¬(num b).toNat<=(num a).toNat:=fun h2=>by have:=wwe h2;omega
 have:=num_nonneg ha
 omega
theorem ves {a b:List Int} (ha:digits a) (hb:digits b) (hl:a.length=b.length) (i:Nat) (hi:i<a.length) (h:a.drop (i+1)=b.drop (i+1)) (hlt:a.getD i 0<b.getD i 0):num a<num b:=by
 rw [x81 a i,x81 b i,ygx a,ygx b,h];have h1:=yg9 (ha.take i);have h2:=num_nonneg (hb.take i)
 have e1:(a.take i).length=i:=by simp;omega
 have e2:(b.take i).length=i:=by simp;omega
 rw [e1] at h1 ⊢;rw [e2];have hp:=wah i;generalize (1048576:Int) ^ i=P at *;generalize num (b.drop (i+1))=T;have h3:P*(a.getD i 0+1)<=P*b.getD i 0:=Int.mul_le_mul_of_nonneg_left (by omega) (by omega);rw [Int.mul_add,Int.mul_add];rw [Int.mul_add] at h3;omega
def fixd:Nat->Int->List Int
 | 0,_=>[]
 | n+1,z=>z % 1048576::fixd n (z / 1048576)
theorem wbl:∀{l:List Int},digits l->l=fixd l.length (num l)
 | [],_=>rfl
 | d::l,h=>by
  have h1:=h.head;have h2:=wbl h.tail
  have e1:(d+1048576*num l) % 1048576=d:=by omega
  have e2:(d+1048576*num l) / 1048576=num l:=by omega
  simp only [List.length_cons,fixd,num,e1,e2];rw [<-h2]
theorem zqy {l:List Int} {n:Nat} {z:Int} (h:digits l) (hn:l.length=n) (hz:num l=z):l=fixd n z:=by rw [<-hn,<-hz];exact wbl h
theorem vlk:∀(n:Nat) (z:Int),(fixd n z).length=n
 | 0,_=>rfl
 | n+1,z=>by simp [fixd,vlk n]
theorem y45:∀(n:Nat) (z:Int),digits (fixd n z)
 | 0,_=>digits.nil
 | n+1,z=>digits.cons (by omega) (y45 n _)
theorem xix:∀(n:Nat) (z:Int),0<=z->z<1048576 ^ n->num (fixd n z)=z
 | 0,z,h1,h2=>by simp at h2;simp [fixd,num];omega
 | n+1,z,h1,h2=>by
  rw [Int.pow_succ] at h2;simp only [fixd,num];rw [xix n (z / 1048576) (by omega) (by omega)];omega
theorem wtc (n:Int):iand .i64 n 1048575=n % 1048576:=by
 unfold iand
 have h1:(BitVec.ofInt IntKind.i64.bits n &&&BitVec.ofInt IntKind.i64.bits 1048575).toNat=(n % 1048576).toNat:=by
  show (BitVec.ofInt 64 n &&&BitVec.ofInt 64 1048575).toNat=_;rw [BitVec.toNat_and,BitVec.toNat_ofInt,BitVec.toNat_ofInt]
  have:((1048575:Int) % ((2 ^ 64:Nat):Int)).toNat=2 ^ 20-1:=by decide
  rw [this,Nat.and_two_pow_sub_one_eq_mod];omega
 rw [h1,w64 (by omega)];omega
theorem and1 (n:Int):iand .i64 n 1=n % 2:=by
 unfold iand
 have h1:(BitVec.ofInt IntKind.i64.bits n &&&BitVec.ofInt IntKind.i64.bits 1).toNat=(n % 2).toNat:=by
  show (BitVec.ofInt 64 n &&&BitVec.ofInt 64 1).toNat=_;rw [BitVec.toNat_and,BitVec.toNat_ofInt,BitVec.toNat_ofInt]
  have:((1:Int) % ((2 ^ 64:Nat):Int)).toNat=2 ^ 1-1:=by decide
  rw [this,Nat.and_two_pow_sub_one_eq_mod];omega
 rw [h1,w64 (by omega)];omega
theorem wg6 (n:Int):ishr .i64 n 20=n / 1048576:=by
 unfold ishr
 have:(2:Int) ^ (min (20:Int).toNat IntKind.i64.bits)=1048576:=by decide
 rw [this,Int.fdiv_eq_ediv_of_nonneg _ (by decide)]
theorem w5m {n:Int} (h:-8796093022208<=n/\n<8796093022208):ishl .i64 n 20=n*1048576:=by
 unfold ishl
 have:(2:Int) ^ (min (20:Int).toNat IntKind.i64.bits)=1048576:=by decide
 rw [this,w64 (by omega)]
theorem or20 {a d:Int} (ha:0<=a/\a<8796093022208) (hd:0<=d/\d<=1048575):ior .i64 (a*1048576) d=a*1048576+d:=by
 unfold ior
 have h1:(BitVec.ofInt IntKind.i64.bits (a*1048576) |||BitVec.ofInt IntKind.i64.bits d).toNat=(a*1048576+d).toNat:=by
  show (BitVec.ofInt 64 (a*1048576) |||BitVec.ofInt 64 d).toNat=_;rw [BitVec.toNat_or,BitVec.toNat_ofInt,BitVec.toNat_ofInt]
  have e1:((a*1048576) % ((2 ^ 64:Nat):Int)).toNat=a.toNat <<< 20:=by rw [Nat.shiftLeft_eq];omega
  have e2:(d % ((2 ^ 64:Nat):Int)).toNat=d.toNat:=by omega
  rw [e1,e2,<-Nat.shiftLeft_add_eq_or_of_lt (by omega),Nat.shiftLeft_eq];omega
 rw [h1,w64 (by omega)];omega
end Go.Slot
