/- The proof, part B19: Ic, Im, Id, La, Lb, Lc. -/
import Derived.Test.YtglblfkobflpmaaGreatB18
import Derived.Test.YtglblfkobflpmaaGreatB7
import Derived.Laws.Strings
namespace Go.Hp
open Go Go.RowKit Go.Slot
variable {P:Program} {Γ:List (Nat×List Cell)} {e:List SB} {G:List (Nat×List GhH)}
theorem ywj {p:Prop} [Decidable p] {X Y:Bool->Prop} (hx:p->decide p=true->X true) (hy:¬p->decide p=false->Y true):vdc (decide p) true X Y:=⟨fun h=>hx (of_decide_eq_true h) h,fun h=>hy (of_decide_eq_false h) h⟩
theorem wj9 {p:Prop} [Decidable p] {X Y:Bool->Prop} (hx:¬p->decide p=false->X true) (hy:p->decide p=true->Y true):vdc (decide p) false X Y:=⟨fun h=>hx (of_decide_eq_false h) h,fun h=>hy (of_decide_eq_true h) h⟩
theorem xeq {c:Bool} {X Y:Bool->Prop} (hx:c=true->X true) (hy:c=false->Y true):vdc c true X Y:=⟨hx,hy⟩
theorem yyr {c:Bool} {X Y:Bool->Prop} (hx:c=false->X true) (hy:c=true->Y true):vdc c false X Y:=⟨hx,hy⟩
theorem vt2 {p:Prop} [Decidable p] {X Y:Bool->Prop} (hx:p->decide p=true->X true) (hy:¬p->decide p=false->Y true):ymv (decide p) X Y:=⟨fun h=>hx (of_decide_eq_true h) h,fun h=>hy (of_decide_eq_false h) h⟩
theorem zub {c:Bool} {X Y:Bool->Prop} (hx:c=true->X true) (hy:c=false->Y true):ymv c X Y:=⟨hx,hy⟩
theorem xjg {c:Bool} {X Y:Bool->Prop} (hx:c=false->X true) (hy:c=true->Y true):vdc (!c) true X Y:=⟨fun h=>hx (by simpa using h),fun h=>hy (by simpa using h)⟩
theorem zp4 {c:Bool} {X Y:Bool->Prop} (hx:c=true->X true) (hy:c=false->Y true):vdc (!c) false X Y:=⟨fun h=>hx (by simpa using h),fun h=>hy (by simpa using h)⟩
theorem zqy {c:Bool} {X Y:Bool->Prop} (hx:c=false->X true) (hy:c=true->Y true):ymv (!c) X Y:=⟨fun h=>hx (by simpa using h),fun h=>hy (by simpa using h)⟩
theorem hg {p q:Prop} (k:q) (h:p=q:=by conv=>lhs;simp (maxSteps:=2000000) (disch:=omega) only [go_sem,Nat.reduceAdd,Nat.reduceSub,Nat.reduceMul,Int.reduceToNat,Nat.reduceEqDiff,Nat.reduceBEq,Nat.reduceBneDiff,Nat.reduceLT,Int.reduceEq,Int.reduceLT,Int.reduceLE,Int.reduceNeg,Int.reduceAdd,Int.reduceSub,Int.reduceMul]):p:=Eq.mpr h k
theorem hgS {p q:Prop} (k:q) (h:p=q:=by conv=>lhs;simp (maxSteps:=2000000) (disch:=omega) only [go_sem,Nat.reduceAdd,Nat.reduceSub,Nat.reduceMul,Int.reduceToNat,Nat.reduceEqDiff,Nat.reduceBEq,Nat.reduceBneDiff,Nat.reduceLT,Int.reduceEq,Int.reduceLT,Int.reduceLE,Int.reduceNeg,Int.reduceAdd,Int.reduceSub,Int.reduceMul, *]):p:=Eq.mpr h k
theorem hgR {p q:Prop} (k:q) (h:p=q:=by conv=>lhs;simp (maxSteps:=2000000) (disch:=omega) only [go_sem,Nat.reduceAdd,Nat.reduceSub,Nat.reduceMul,Int.reduceToNat,Nat.reduceEqDiff,Nat.reduceBEq,Nat.reduceBneDiff,Nat.reduceLT,Int.reduceEq,Int.reduceLT,Int.reduceLE,Int.reduceNeg,Int.reduceAdd,Int.reduceSub,Int.reduceMul,List.replicate]):p:=Eq.mpr h k
theorem hfk {p q r:Prop} (k:q) (l:r) (h:q->r->p:=by with_reducible first | exact fun a b=>ywj a b | exact fun a b=>wj9 a b | exact fun a b=>xjg a b | exact fun a b=>zp4 a b | exact fun a b=>xeq a b | exact fun a b=>yyr a b | exact fun a b=>vt2 a b | exact fun a b=>zqy a b | exact fun a b=>zub a b):p:=h k l
theorem hik {ops:List Oper} {acc:List HR} {k:Bool->Prop} (hk:k true) (h:wcm ops acc=true:=by kernel_rfl):v6y ops acc k:=⟨h,hk⟩
theorem svl {a b:List SV} (h:zt4 a b:=by repeat' first | exact .nil | refine .cons (by first | exact .refl _ | exact .any _) ?_):zt4 a b:=h
theorem RLe.ofEq {x y:AV} (h:x=y):RLe x y:=h▸.one (.refl _)
theorem wit {p:Prop} [Decidable p]:(!decide p)=decide (¬p):=by by_cases h:p<;>simp [h]
theorem lfE {x y:AV} {p:Prop} (k:p) (h:(x=y)=p:=by conv=>lhs;simp only [Bool.and_true,Bool.true_and,Bool.and_false,Bool.false_and,Bool.or_true,Bool.true_or,Bool.or_false,Bool.false_or,Bool.not_true,Bool.not_false,decide_true,decide_false,not_true_eq_false,not_false_eq_true,wit,if_true,if_false,Bool.and_self,Bool.or_self,cond_true,cond_false,List.length_map,ne_eq,Int.reduceEq,Int.reduceLT,Int.reduceLE, *]):RLe x y:=RLe.ofEq (h.symm▸k)
theorem lf1 {x y:AV} {a p:Prop} (ra:a) (k:p) (h:a->(x=y)=p:=by intro z1;conv=>lhs;simp only [Bool.and_true,Bool.true_and,Bool.and_false,Bool.false_and,Bool.or_true,Bool.true_or,Bool.or_false,Bool.false_or,Bool.not_true,Bool.not_false,decide_true,decide_false,not_true_eq_false,not_false_eq_true,wit,if_true,if_false,Bool.and_self,Bool.or_self,cond_true,cond_false,List.length_map,ne_eq,Int.reduceEq,Int.reduceLT,Int.reduceLE, *]):RLe x y:=RLe.ofEq ((h ra).symm▸k)
theorem lf2 {x y:AV} {a b p:Prop} (ra:a) (rb:b) (k:p) (h:a->b->(x=y)=p:=by intro z1 z2;conv=>lhs;simp only [Bool.and_true,Bool.true_and,Bool.and_false,Bool.false_and,Bool.or_true,Bool.true_or,Bool.or_false,Bool.false_or,Bool.not_true,Bool.not_false,decide_true,decide_false,not_true_eq_false,not_false_eq_true,wit,if_true,if_false,Bool.and_self,Bool.or_self,cond_true,cond_false,List.length_map,ne_eq,Int.reduceEq,Int.reduceLT,Int.reduceLE, *]):RLe x y:=RLe.ofEq ((h ra rb).symm▸k)
theorem bsE {q p:Prop} (k:p) (h:q=p:=by conv=>lhs;simp only [Bool.and_true,Bool.true_and,Bool.and_false,Bool.false_and,Bool.or_true,Bool.true_or,Bool.or_false,Bool.false_or,Bool.not_true,Bool.not_false,decide_true,decide_false,not_true_eq_false,not_false_eq_true,wit,if_true,if_false,Bool.and_self,Bool.or_self,cond_true,cond_false,List.length_map,ne_eq,Int.reduceEq,Int.reduceLT,Int.reduceLE, *]):q:=h.symm▸k
theorem bs1 {a q p:Prop} (ra:a) (k:p) (h:a->q=p:=by intro z1;conv=>lhs;simp only [Bool.and_true,Bool.true_and,Bool.and_false,Bool.false_and,Bool.or_true,Bool.true_or,Bool.or_false,Bool.false_or,Bool.not_true,Bool.not_false,decide_true,decide_false,not_true_eq_false,not_false_eq_true,wit,if_true,if_false,Bool.and_self,Bool.or_self,cond_true,cond_false,List.length_map,ne_eq,Int.reduceEq,Int.reduceLT,Int.reduceLE, *]):q:=(h ra).symm▸k
theorem bs2 {a b q p:Prop} (ra:a) (rb:b) (k:p) (h:a->b->q=p:=by intro z1 z2;conv=>lhs;simp only [Bool.and_true,Bool.true_and,Bool.and_false,Bool.false_and,Bool.or_true,Bool.true_or,Bool.or_false,Bool.false_or,Bool.not_true,Bool.not_false,decide_true,decide_false,not_true_eq_false,not_false_eq_true,wit,if_true,if_false,Bool.and_self,Bool.or_self,cond_true,cond_false,List.length_map,ne_eq,Int.reduceEq,Int.reduceLT,Int.reduceLE, *]):q:=(h ra rb).symm▸k
theorem hg1 {a p q:Prop} (ra:a) (k:q) (h:a->p=q:=by intro z1;conv=>lhs;simp (maxSteps:=2000000) (disch:=omega) only [go_sem,Nat.reduceAdd,Nat.reduceSub,Nat.reduceMul,Int.reduceToNat,Nat.reduceEqDiff,Nat.reduceBEq,Nat.reduceBneDiff,Nat.reduceLT,Int.reduceEq,Int.reduceLT,Int.reduceLE,Int.reduceNeg,Int.reduceAdd,Int.reduceSub,Int.reduceMul,z1]):p:=Eq.mpr (h ra) k
theorem hg2 {a b p q:Prop} (ra:a) (rb:b) (k:q) (h:a->b->p=q:=by intro z1 z2;conv=>lhs;simp (maxSteps:=2000000) (disch:=omega) only [go_sem,Nat.reduceAdd,Nat.reduceSub,Nat.reduceMul,Int.reduceToNat,Nat.reduceEqDiff,Nat.reduceBEq,Nat.reduceBneDiff,Nat.reduceLT,Int.reduceEq,Int.reduceLT,Int.reduceLE,Int.reduceNeg,Int.reduceAdd,Int.reduceSub,Int.reduceMul,z1,z2]):p:=Eq.mpr (h ra rb) k
theorem hg3 {a b c p q:Prop} (ra:a) (rb:b) (rc:c) (k:q) (h:a->b->c->p=q:=by intro z1 z2 z3;conv=>lhs;simp (maxSteps:=2000000) (disch:=omega) only [go_sem,Nat.reduceAdd,Nat.reduceSub,Nat.reduceMul,Int.reduceToNat,Nat.reduceEqDiff,Nat.reduceBEq,Nat.reduceBneDiff,Nat.reduceLT,Int.reduceEq,Int.reduceLT,Int.reduceLE,Int.reduceNeg,Int.reduceAdd,Int.reduceSub,Int.reduceMul,z1,z2,z3]):p:=Eq.mpr (h ra rb rc) k
def swL (i j:Nat) (J:List SB):List SB:=(List.range J.length).map fun k=>swSB i j (gB J (sw i j k))
theorem x7n {i j k n:Nat} (hi:i<n) (hj:j<n) (hk:k<n):sw i j k<n:=by unfold sw;split<;>(try split)<;>omega
theorem StH.vim {I:List SV} {J:List SB} {i j:Nat} (hi:e.length<=i) (hj:e.length<=j) (hil:i<J.length) (hjl:j<J.length):StH Γ e I J (I.map (swSV i j)) (swL i j J):=by
 refine StH.swap hi hj hil hjl (fun b x hb=>.inl ?_) (by simp [swL]);have hbl:b<J.length:=(List.getElem?_eq_some_iff.1 hb).1;unfold swL;rw [List.getElem?_map,List.getElem?_range (x7n hil hjl hbl)];simp only [Option.map_some,wiz];unfold gB;rw [hb];rfl
def yyj (m:Nat) (I:List SV) (J:List SB):Bool:=(I.all fun x=>(wj3 x).all fun b=>Nat.blt b m)&&((J.take m).all fun x=>(vb5 x).all fun b=>Nat.blt b m)
theorem StH.cutB {I:List SV} {J:List SB} (m:Nat) (hm:e.length<=m) (h:yyj m I J=true):StH Γ e I J I (J.take m):=by
 unfold yyj at h;rw [Bool.and_eq_true,List.all_eq_true,List.all_eq_true] at h;refine StH.cut hm (fun i x hx b hb=>?_) (fun i x hi hx=>.inr fun b hb=>?_)
 . have:=h.1 x (List.mem_of_getElem? hx)
   rw [List.all_eq_true] at this;simpa using this b hb
 . have:=h.2 x (List.mem_of_getElem? (by rw [List.getElem?_take_of_lt hi];exact hx))
   rw [List.all_eq_true] at this;simpa using this b hb
theorem StH.back {I I':List SV} {J J':List SB} (ks:List Nat) (i j m:Nat) (hi:Nat.ble e.length i=true) (hj:Nat.ble e.length j=true) (hm:Nat.ble e.length m=true) (hil:Nat.blt i J.length=true) (hjl:Nat.blt j J.length=true) (h:yyj m ((yck ks 0 I).map (swSV i j)) (swL i j J)=true)
 (hk:StH Γ e ((yck ks 0 I).map (swSV i j)) ((swL i j J).take m) I' J'):StH Γ e I J I' J':=
 StH.trans (StH.only ks) (StH.trans (StH.vim (by simpa using hi) (by simpa using hj) (by simpa using hil) (by simpa using hjl)) (StH.trans (StH.cutB m (by simpa using hm) h) hk))
theorem StH.same {I:List SV} {J:List SB} {I':List SV} {J':List SB} (h:zt4 I I') (hη:J=J'):StH Γ e I J I' J':=hη▸StH.zrj h
theorem StH.done {I I':List SV} {J J':List SB} (m:Nat) (hm:Nat.ble e.length m=true) (h:yyj m I J=true) (hσ:I=I') (hη:J.take m=J'):StH Γ e I J I' J':=
 hσ▸hη▸StH.cutB m (by simpa using hm) h
theorem xgt.of {φ:List Nat} {J ηs:List SB} (h:φ.map (fun j=>J[j]?)=ηs.map (fun x=>some (rnSB (atR φ J.length) x))):xgt φ J ηs:=by
 have hl:ηs.length=φ.length:=by
  have:=congrArg List.length h
  simpa using this.symm
 refine ⟨hl,fun i x hx=>?_⟩;have hi:i<ηs.length:=(List.getElem?_eq_some_iff.1 hx).1;refine ⟨φ[i]'(by omega),List.getElem?_eq_getElem _,?_⟩;have h1:=congrArg (fun l=>l[i]?) h;simp only [List.getElem?_map,hx,Option.map_some] at h1;rw [List.getElem?_eq_getElem (by omega)] at h1;simpa using h1
theorem xpp.at (φ:List Nat) {f:FuncId} {J ηs ηs':List SB} {args:List SV} {res:SV} (h:xpp Γ P f ηs args ηs' res) (hn:φ.Nodup) (hb:(φ.all fun j=>Nat.blt j J.length)=true)
 (hp:φ.map (fun j=>J[j]?)=ηs.map (fun x=>some (rnSB (atR φ J.length) x))) (hlen:Nat.ble φ.length ηs'.length=true):xpp Γ P f J (args.map (v3y (atR φ J.length))) (putR φ J ηs') (rnSV (atR φ J.length) res):=
 xpp.frame hn (fun j hj=>by simpa using List.all_eq_true.1 hb j hj) (xgt.of hp) (by simpa using hlen) h
theorem vvn (φ:List Nat) {f:FuncId} {J ηs ηs':List SB} {args l:List SV} {res:SV} {K:Bool->List SB->SV->Prop} (h:xpp Γ P f ηs args ηs' res) (hl:args.map (v3y (atR φ J.length))=l) (hn:φ.Nodup) (hb:(φ.all fun j=>Nat.blt j J.length)=true)
 (hp:φ.map (fun j=>J[j]?)=ηs.map (fun x=>some (rnSB (atR φ J.length) x))) (hlen:Nat.ble φ.length ηs'.length=true) (hk:K true (putR φ J ηs') (rnSV (atR φ J.length) res)):wb5 Γ P f J l K:=
 hl▸x6x (xpp.at φ h hn hb hp hlen) hk
theorem xww {a b:ByteArray}:seq a b=decide (a=b):=by
 unfold seq;rw [ByteArray.toList_eq,ByteArray.toList_eq];by_cases h:a=b
 . rw [h];simp
 . rw [decide_eq_false h]
   have:a.data.toList≠b.data.toList:=fun he=>h (ByteArray.ext (Array.toList_inj.1 he))
   simpa using this
theorem vzo {s:ByteArray}:seq s ⟨#[]⟩=decide (s.size=0):=by
 rw [xww];refine decide_eq_decide.2 ⟨fun h=>by rw [h];rfl,fun h=>ByteArray.ext (Array.eq_empty_of_size_eq_zero h)⟩
theorem w8 {n:Int} (h:0<=n/\n<=255):IntKind.u8.wrap n=n:=by rw [IntKind.wrap_u8];omega
attribute [go_sem] w8
theorem ytz {n:Nat}:((n:Int)-1).toNat=n-1:=by omega
theorem wi0 {n:Nat}:((n:Int)+1).toNat=n+1:=by omega
attribute [go_sem] ytz wi0
theorem v34 {I:List SV} {t:Nat}:gt (I.map vw) t=vw (gtS I t):=z2e t
attribute [go_sem] v34 v1x valB elemAt
attribute [go_sem] vzo wit List.size_toArray List.length_map List.getD_cons_zero List.getD_cons_succ
attribute [go_sem] xra zbh wcj eqOf litH y31 x3f y44 usdH usH wha x7k yxi zk2 eqL
attribute [go_sem] putR atR rnSB rnHC v3y rnSV List.zip_cons_cons List.zip_nil_left List.zip_nil_right List.drop_succ_cons
attribute [go_sem] swSV xy0 swHC swSB sw List.map_nil
end Go.Hp
namespace Go.Hp.T
open Go Go.RowKit Go.Slot Go.Hp
set_option maxRecDepth 10000
theorem toD {Γ:List (Nat×List Cell)} {P:Program} {f:FuncId} {args:List AV} {res:AV} (h:CallsD Γ P f args res):CallsD Γ P f args res:=h
abbrev cI (n:Int):Cell:=.raw (.int .i64 n)
abbrev c8 (n:Int):Cell:=.raw (.int .u8 n)
abbrev cS (s:ByteArray):Cell:=.raw (.string s)
abbrev cB (b:Bool):Cell:=.raw (.bool b)
abbrev fN (f:FuncId):AV:=.one (.raw (.func (.func f) #[] #[]))
def zm5 (s:ByteArray):List Int:=(List.range s.size).map (yuk s)
theorem zu2 (s:ByteArray):(zm5 s).length=s.size:=by simp [zm5]
theorem zuj (s:ByteArray) (i:Nat) (h:i<s.size):(zm5 s)[i]? = some (yuk s i):=by simp [zm5,h]
def xg6 (p:Int->Bool) (s:ByteArray):Nat:=((zm5 s).takeWhile p).length
theorem w8p {α:Type} (p:α->Bool):∀(l:List α) (n:Nat),n<=l.length->(∀ j x,j<n->l[j]? = some x->p x=true)->(n=l.length\/∃ x,l[n]? = some x/\p x=false)->(l.takeWhile p).length=n
 | [],n,hn,_,_=>by simp at hn;simp [hn]
 | a::l,0,_,_,h=>by
  rcases h with h | ⟨x,hx,hp⟩
  . simp at h
  . simp at hx;subst hx;simp [List.takeWhile,hp]
 | a::l,n+1,hn,hj,h=>by
  have ha:p a=true:=hj 0 a (by omega) rfl;rw [List.takeWhile_cons_of_pos ha,List.length_cons,w8p p l n (by simpa using hn) (fun j x h1 h2=>hj (j+1) x (by omega) (by simpa using h2)) ?_]
  rcases h with h | ⟨x,hx,hp⟩
  . exact .inl (by simpa using h)
  . exact .inr ⟨x,by simpa using hx,hp⟩
theorem yxq {p:Int->Bool} {s:ByteArray} {n:Nat} (hn:n<=s.size) (hj:∀ j,j<n->p (yuk s j)=true) (h:n=s.size\/p (yuk s n)=false):xg6 p s=n:=by
 refine w8p p _ n (by rw [zu2];exact hn) (fun j x h1 h2=>?_) ?_
 . rw [zuj s j (by omega)] at h2;cases h2;exact hj j h1
 . by_cases e:n=s.size
   . exact .inl (by rw [zu2];exact e)
   . rcases h with h | h
     . exact absurd h e
     . exact .inr ⟨_,zuj s n (by omega),h⟩
theorem wbx (p:Int->Bool) (s:ByteArray):xg6 p s<=s.size:=by
 have:=(List.takeWhile_sublist p (l:=zm5 s)).length_le
 rw [zu2] at this;exact this
def wxl (c:Int):Bool:=(decide (97<=c)&&decide (c<=122))||(decide (65<=c)&&decide (c<=90))
def isDigit (c:Int):Bool:=decide (48<=c)&&decide (c<=57)
def xic (c:Int):Bool:=wxl c||isDigit c||decide (c=95)
def xtc (c:Int):Bool:=decide (32<=c)&&decide (c<=126)
def isName (s:ByteArray):Bool:=decide (¬s.size=0)&&wxl (yuk s 0)&&decide ((s.size:Int)<=20)&&decide ((xg6 xic s:Int)=s.size)
def yn7 (s:ByteArray):Bool:=!(decide (400<(s.size:Int))||decide (¬(xg6 xtc s:Int)=s.size))
def escB (c:Int):List Int:=bif decide (c=34)||decide (c=92) then [92,c] else [c]
def escA (s:ByteArray) (i:Nat):List Int:=34::((zm5 s).take i).flatMap escB
def escS (s:ByteArray):ByteArray:=strOfNums (escA s s.size++[34])
theorem zh3 {s:ByteArray} {i:Nat} (h:i<s.size):escA s (i+1)=escA s i++escB (yuk s i):=by
 unfold escA
 have:(zm5 s).take (i+1)=(zm5 s).take i++[yuk s i]:=by
  rw [List.take_add_one,zuj s i h];rfl
 rw [this];simp
theorem vyu (s:ByteArray) (i:Nat):x7g (yuk s i)=true:=by
 unfold x7g yuk
 have:=((s.data[i]?).getD 0).toNat_lt
 simp;omega
theorem x2x {c:Int} (h:x7g c=true):(escB c).all x7g=true:=by
 unfold escB
 have h':0<=c/\c<256:=by simpa [x7g] using h
 cases decide (c=34)||decide (c=92)<;>simp [x7g,h']
theorem ybn (s:ByteArray) (i:Nat):(escA s i).all x7g=true:=by
 have hb:∀ c∈zm5 s,x7g c=true:=fun c hc=>by
  simp only [zm5,List.mem_map] at hc;obtain ⟨j,_,rfl⟩:=hc;exact vyu s j
 unfold escA;rw [List.all_cons,Bool.and_eq_true];refine ⟨rfl,?_⟩;rw [List.all_flatMap,List.all_eq_true]
 exact fun c hc=>x2x (hb c (List.mem_of_mem_take hc))
theorem zpy (c:Int):(escB c).length<=2:=by unfold escB;cases decide (c=34)||decide (c=92)<;>simp
theorem xuq:∀ l:List Int,(l.flatMap escB).length<=2*l.length
 | []=>by simp
 | c::l=>by
  have:=xuq l
  have:=zpy c
  simp only [List.flatMap_cons,List.length_append,List.length_cons];omega
theorem y0a (s:ByteArray) (i:Nat):1<=(escA s i).length/\(escA s i).length<=1+2*s.size:=by
 unfold escA
 have:=xuq ((zm5 s).take i)
 have h2:((zm5 s).take i).length<=s.size:=by rw [List.length_take,zu2];omega
 simp only [List.length_cons];omega
end Go.Hp.T
namespace Go.Hp
open Go Go.RowKit Go.Slot
variable {P:Program} {Γ:List (Nat×List Cell)} {e:List SB} {G:List (Nat×List GhH)}
def zfj (n m:Nat) (I:List SV) (J:List SB):Bool:=(I.all fun x=>(wj3 x).all fun b=>Nat.blt b m)&&(((J.take m).drop n).all fun x=>(vb5 x).all fun b=>Nat.blt b m)
theorem StH.cutE {I:List SV} {J:List SB} (m:Nat) (hm:e.length<=m) (he:J.take e.length=e) (h:zfj e.length m I J=true):StH Γ e I J I (J.take m):=by
 unfold zfj at h;rw [Bool.and_eq_true,List.all_eq_true,List.all_eq_true] at h;refine StH.cut hm (fun i x hx b hb=>?_) (fun i x hi hx=>?_)
 . have:=h.1 x (List.mem_of_getElem? hx)
   rw [List.all_eq_true] at this;simpa using this b hb
 . by_cases hie:i<e.length
   . left
     rw [<-he,List.getElem?_take_of_lt hie];exact hx
   . right
     intro b hb
     have hmem:x∈(J.take m).drop e.length:=by
      have:((J.take m).drop e.length)[i-e.length]? = some x:=by
       rw [List.getElem?_drop,show e.length+(i-e.length)=i from by omega,List.getElem?_take_of_lt hi];exact hx
      exact List.mem_of_getElem? this
     have:=h.2 x hmem
     rw [List.all_eq_true] at this;simpa using this b hb
theorem StH.vzq {I I':List SV} {J:List SB} (he:J.take e.length=e) (h:(I.all fun x=>(wj3 x).all fun b=>Nat.blt b e.length)=true) (hσ:I=I'):StH Γ e I J I' e:=by
 have hc:zfj e.length e.length I J=true:=by
  unfold zfj;rw [h,Bool.true_and,List.all_eq_true];intro x hx;rw [List.drop_eq_nil_of_le (by rw [List.length_take];omega)] at hx
  cases hx
 have:=StH.cutE (Γ:=Γ) (I:=I) e.length (Nat.le_refl _) he hc
 rw [he] at this;exact hσ▸this
def swLE (n i j:Nat) (J:List SB):List SB:=(List.range J.length).map fun k=>bif Nat.blt k n then gB J k else swSB i j (gB J (sw i j k))
theorem StH.wr3 {I:List SV} {J:List SB} {i j:Nat} (he:J.take e.length=e) (hi:e.length<=i) (hj:e.length<=j) (hil:i<J.length) (hjl:j<J.length):StH Γ e I J (I.map (swSV i j)) (swLE e.length i j J):=by
 refine StH.swap hi hj hil hjl (fun b x hb=>?_) (by simp [swLE]);have hbl:b<J.length:=(List.getElem?_eq_some_iff.1 hb).1;by_cases hbe:b<e.length
 . right
   refine ⟨by rw [<-he,List.getElem?_take_of_lt hbe];exact hb,?_⟩;unfold swLE;rw [List.getElem?_map,List.getElem?_range hbl]
   have hbt:Nat.blt b e.length=true:=by simpa using hbe
   have hg:gB J b=x:=by unfold gB;rw [hb];rfl
   simp only [Option.map_some,hbt,cond_true,hg]
 . left
   have hsw:e.length<=sw i j b:=by unfold sw;split<;>(try split)<;>omega
   unfold swLE;rw [List.getElem?_map,List.getElem?_range (x7n hil hjl hbl)]
   have h1:Nat.blt (sw i j b) e.length=false:=by
    have:¬(sw i j b<e.length):=by omega
    cases hh:Nat.blt (sw i j b) e.length with
    | false=>rfl
    | true=>exact absurd (by simpa using hh) this
   have hg:gB J b=x:=by unfold gB;rw [hb];rfl
   simp only [Option.map_some,wiz,h1,cond_false,hg]
theorem StH.z04 {I I':List SV} {J J':List SB} (ks:List Nat) (i j m:Nat) (he:J.take e.length=e) (he':(swLE e.length i j J).take e.length=e) (hi:Nat.ble e.length i=true) (hj:Nat.ble e.length j=true) (hm:Nat.ble e.length m=true) (hil:Nat.blt i J.length=true) (hjl:Nat.blt j J.length=true)
 (h:zfj e.length m ((yck ks 0 I).map (swSV i j)) (swLE e.length i j J)=true) (hk:StH Γ e ((yck ks 0 I).map (swSV i j)) ((swLE e.length i j J).take m) I' J'):StH Γ e I J I' J':=
 StH.trans (StH.only ks) (StH.trans (StH.wr3 he (by simpa using hi) (by simpa using hj) (by simpa using hil) (by simpa using hjl)) (StH.trans (StH.cutE m (by simpa using hm) he' h) hk))
def envM {α:Type} (C:α->SV):List (ByteArray×α)->List (Value×SV)
 | []=>[]
 | p::l=>(.string p.1,C p.2)::envM C l
def z2f {α:Type}:List (ByteArray×α)->ByteArray->Option α
 | [],_=>none
 | p::l,s=>bif seq s p.1 then some p.2 else z2f l s
def updF {α:Type}:List (ByteArray×α)->ByteArray->α->List (ByteArray×α)
 | [],s,v=>[(s,v)]
 | p::l,s,v=>bif seq s p.1 then (s,v)::l else p::updF l s v
theorem yzs {α:Type} (C:α->SV):∀ l:List (ByteArray×α),(envM C l).length=l.length
 | []=>rfl
 | _::l=>by rw [envM,List.length_cons,yzs C l];rfl
theorem wsk {a b:ByteArray}:seq a b=seq b a:=by rw [xww,xww];exact decide_eq_decide.2 eq_comm
theorem x0f {α:Type} {C:α->SV} {s:ByteArray}:∀{l:List (ByteArray×α)},yvo (envM C l) (.string s)=some ((z2f l s).map C)
 | []=>rfl
 | p::l=>by
  have ih:=x0f (C:=C) (s:=s) (l:=l);simp only [envM,yvo,kEq,z2f];rw [ih]
  first
   | (cases seq s p.1<;>rfl)
   | (rw [wsk];cases seq s p.1<;>rfl)
theorem y5p {α:Type} {C:α->SV} {s:ByteArray} {v:α}:∀{l:List (ByteArray×α)},updM (envM C l) (.string s) (C v)=some (envM C (updF l s v))
 | []=>rfl
 | p::l=>by
  have ih:=y5p (C:=C) (s:=s) (v:=v) (l:=l);simp only [envM,updM,kEq,updF];rw [ih]
  first
   | (cases seq s p.1<;>rfl)
   | (rw [wsk];cases seq s p.1<;>rfl)
attribute [go_sem] x0f yzs
end Go.Hp
namespace Go.Slot
open Go Go.RowKit
set_option maxRecDepth 10000
def digits (L:List Int):Prop:=∀ x∈L,0<=x/\x<=1048575
instance (L:List Int):Decidable (digits L):=inferInstanceAs (Decidable (∀ x∈L,0<=x/\x<=1048575))
def num:List Int->Int
 | []=>0
 | d::l=>d+1048576*num l
theorem digits.nil:digits []:=fun _ h=>by cases h
theorem digits.cons {d:Int} {l:List Int} (h:0<=d/\d<=1048575) (hl:digits l):digits (d::l):=fun x hx=>by
 rcases List.mem_cons.1 hx with rfl | hx
 . exact h
 . exact hl x hx
theorem digits.head {d:Int} {l:List Int} (h:digits (d::l)):0<=d/\d<=1048575:=h d (by simp)
theorem digits.tail {d:Int} {l:List Int} (h:digits (d::l)):digits l:=fun x hx=>h x (by simp [hx])
theorem digits.append {l m:List Int} (hl:digits l) (hm:digits m):digits (l++m):=fun x hx=>by
 rcases List.mem_append.1 hx with hx | hx
 . exact hl x hx
 . exact hm x hx
theorem digits.take {l:List Int} (h:digits l) (n:Nat):digits (l.take n):=fun x hx=>h x (List.mem_of_mem_take hx)
theorem digits.drop {l:List Int} (h:digits l) (n:Nat):digits (l.drop n):=fun x hx=>h x (List.mem_of_mem_drop hx)
theorem digits.getD {l:List Int} (h:digits l) (i:Nat):0<=l.getD i 0/\l.getD i 0<=1048575:=by
 rw [List.getD_eq_getElem?_getD]
 cases hh:l[i]? with
 | none=>simp
 | some x=>exact h x (List.mem_of_getElem? hh)
theorem digits.set {l:List Int} (h:digits l) (i:Nat) {x:Int} (hx:0<=x/\x<=1048575):digits (l.set i x):=fun y hy=>by
 rcases List.mem_or_eq_of_mem_set hy with hy | rfl
 . exact h y hy
 . exact hx
theorem digits.rep (n:Nat):digits (List.replicate n 0):=fun x hx=>by
 rw [List.mem_replicate] at hx;omega
theorem num_nonneg:∀{l:List Int},digits l->0<=num l
 | [],_=>Int.le_refl _
 | d::l,h=>by have:=num_nonneg h.tail;have:=h.head;simp only [num];omega
theorem w7x (n:Nat):(0:Int)<1048576 ^ n:=Int.pow_pos (by decide)
theorem wo8 {m n:Nat} (h:m<=n):(1048576:Int) ^ m<=1048576 ^ n:=by
 obtain ⟨k,rfl⟩:=Nat.exists_eq_add_of_le h;rw [Int.pow_add];have h1:=w7x k;have h2:=Int.mul_le_mul_of_nonneg_left (show (1:Int)<=1048576 ^ k by omega) (Int.le_of_lt (w7x m))
 rwa [Int.mul_one] at h2
theorem yv9:∀{l:List Int},digits l->num l<1048576 ^ l.length
 | [],_=>by simp [num]
 | d::l,h=>by
  have:=yv9 h.tail
  have:=h.head
  simp only [num,List.length_cons,Int.pow_succ];omega
theorem xa3:∀(l m:List Int),num (l++m)=num l+1048576 ^ l.length*num m
 | [],m=>by simp [num]
 | d::l,m=>by
  simp only [List.cons_append,num,List.length_cons,xa3 l m,Int.pow_succ];rw [Int.mul_add,Int.mul_comm (1048576 ^ l.length) 1048576,Int.mul_assoc];omega
theorem wh9 (n:Nat):num (List.replicate n 0)=0:=by
 induction n with
 | zero=>rfl
 | succ n ih=>simp [List.replicate_succ,num,ih]
theorem w0b:∀(l:List Int) (i:Nat),num (l.take (i+1))=num (l.take i)+1048576 ^ i*l.getD i 0
 | [],i=>by simp [num]
 | d::l,0=>by simp [num]
 | d::l,i+1=>by
  simp only [List.take_succ_cons,num,w0b l i,List.getD_cons_succ,Int.pow_succ];rw [Int.mul_add,Int.mul_comm (1048576 ^ i) 1048576,Int.mul_assoc];omega
theorem y7x:∀(l:List Int) (i:Nat) (x:Int),i<l.length->num (l.set i x)=num l+1048576 ^ i*(x-l.getD i 0)
 | [],i,x,h=>by simp at h
 | d::l,0,x,_=>by simp [num];omega
 | d::l,i+1,x,h=>by
  simp only [List.set_cons_succ,num,y7x l i x (by simpa using h),List.getD_cons_succ,Int.pow_succ];rw [Int.mul_add,Int.mul_comm (1048576 ^ i) 1048576,Int.mul_assoc];omega
theorem y3e (l:List Int) (i:Nat):num l=num (l.take i)+1048576 ^ (l.take i).length*num (l.drop i):=by
 rw [<-xa3,List.take_append_drop]
def zqb (l:List Int) (i:Nat):Prop:=∀ j,i<=j->l.getD j 0=0
theorem zqb.rep (n:Nat):zqb (List.replicate n 0) 0:=fun j _=>by
 rw [List.getD_eq_getElem?_getD,List.getElem?_replicate];split<;>rfl
theorem ykq {l:List Int} {i j:Nat} (x:Int) (h:i≠j):(l.set i x).getD j 0=l.getD j 0:=by
 rw [List.getD_eq_getElem?_getD,List.getElem?_set_ne h,List.getD_eq_getElem?_getD]
theorem zqb.set {l:List Int} {i:Nat} (h:zqb l i) (x:Int):zqb (l.set i x) (i+1):=fun j hj=>by
 rw [ykq x (by omega)];exact h j (by omega)
theorem zqb.xdh {l:List Int} {i k:Nat} (h:zqb l i) (x:Int) (hk:k<i):zqb (l.set k x) i:=fun j hj=>by
 rw [ykq x (by omega)];exact h j hj
theorem zqb.mono {l:List Int} {i j:Nat} (h:zqb l i) (hij:i<=j):zqb l j:=fun k hk=>h k (by omega)
theorem wcz {l:List Int} {i n:Nat} (h:i<n):(l.take n).getD i 0=l.getD i 0:=by
 rw [List.getD_eq_getElem?_getD,List.getElem?_take_of_lt h,List.getD_eq_getElem?_getD]
theorem x1k {l:List Int} {i:Nat} (h:l.length<=i):l.getD i 0=0:=by
 rw [List.getD_eq_getElem?_getD,List.getElem?_eq_none h];rfl
theorem vbl {l:List Int} {i:Nat} (h:l.length<=i):l.take i=l:=List.take_of_length_le h
theorem ved {o:List Int} {i:Nat} (hi:i<o.length) (s:Int):num (o.set i (s % 1048576))+1048576 ^ (i+1)*(s / 1048576)=num o+1048576 ^ i*(s-o.getD i 0):=by
 rw [y7x o i _ hi,Int.pow_succ];have h:=Int.emod_add_mul_ediv s 1048576;generalize (1048576:Int) ^ i=P;generalize s % 1048576=r at *;generalize s / 1048576=q at *;generalize o.getD i 0=z
 grind
def norm (l:List Int):Prop:=l≠[]->l.getD (l.length-1) 0≠0
theorem norm.nil:norm []:=fun h=>absurd rfl h
theorem norm.tail {d:Int} {l:List Int} (h:norm (d::l)):norm l:=fun hl=>by
 have:=h (by simp)
 have hp:0<l.length:=List.length_pos_iff.2 hl;rw [List.length_cons,show l.length+1-1=(l.length-1)+1 by omega,List.getD_cons_succ] at this;exact this
theorem norm.pos:∀{l:List Int},digits l->norm l->l≠[]->0<num l
 | [],_,_,h=>absurd rfl h
 | d::l,hd,hn,_=>by
  simp only [num];by_cases hl:l=[]
  . subst hl
    have:=hn (by simp)
    have h0:=hd.head;simp at this;simp only [num];omega
  . have:=norm.pos hd.tail hn.tail hl
    have h0:=hd.head;omega
theorem x2f:∀{l m:List Int},digits l->norm l->digits m->norm m->num l=num m->l=m
 | [],[],_,_,_,_,_=>rfl
 | [],d::m,_,_,hm,nm,h=>by have:=norm.pos hm nm (by simp);rw [<-h] at this;simp [num] at this
 | d::l,[],hl,nl,_,_,h=>by have:=norm.pos hl nl (by simp);rw [h] at this;simp [num] at this
 | d::l,e::m,hl,nl,hm,nm,h=>by
  simp only [num] at h;have h1:=hl.head;have h2:=hm.head
  have hde:d=e:=by omega
  have:=x2f hl.tail nl.tail hm.tail nm.tail (by omega)
  rw [hde,this]
def dig (n:Nat):List Int:=if h:n=0 then [] else ((n % 1048576:Nat):Int)::dig (n / 1048576)
 termination_by n
 decreasing_by omega
theorem y89:dig 0=[]:=by unfold dig;simp
theorem xxw {n:Nat} (h:n≠0):dig n=((n % 1048576:Nat):Int)::dig (n / 1048576):=by
 rw [dig];simp [h]
theorem wko:∀ n:Nat,digits (dig n)/\norm (dig n)/\num (dig n)=n/\(dig n=[]->n=0):=by
 intro n
 induction n using Nat.strongRecOn with
 | ind n ih =>
  by_cases h:n=0
  . subst h;rw [y89];exact ⟨digits.nil,norm.nil,rfl,fun _=>rfl⟩
  . rw [xxw h];obtain ⟨h1,h2,h3,h4⟩:=ih (n / 1048576) (by omega);refine ⟨digits.cons (by omega) h1,fun _=>?_,by simp only [num,h3];omega,fun e=>by cases e⟩;by_cases hn:dig (n / 1048576)=[]
    . rw [hn]
      have:=h4 hn
      simp;omega
    . have:=h2 hn
      have hp:0<(dig (n / 1048576)).length:=List.length_pos_iff.2 hn;rw [List.length_cons,show (dig (n / 1048576)).length+1-1=((dig (n / 1048576)).length-1)+1 by omega,List.getD_cons_succ];exact this
theorem zkp (n:Nat):digits (dig n):=(wko n).1
theorem vvr (n:Nat):norm (dig n):=(wko n).2.1
theorem zcw (n:Nat):num (dig n)=n:=(wko n).2.2.1
theorem xzb {n:Nat}:dig n=[]↔n=0:=⟨(wko n).2.2.2,fun h=>by rw [h,y89]⟩
theorem z7y {l:List Int} (hd:digits l) (hn:norm l):l=dig (num l).toNat:=
 x2f hd hn (zkp _) (vvr _) (by rw [zcw];have:=num_nonneg hd;omega)
theorem v49 {l:List Int} {n:Int} (hd:digits l) (hn:norm l) (h:num l=n):l=dig n.toNat:=by rw [<-h];exact z7y hd hn
theorem w9k {n k:Nat} (h:n<1048576 ^ k):(dig n).length<=k:=by
 induction k generalizing n with
 | zero=>have:n=0:=(by simpa using h);subst this;rw [y89];exact Nat.le_refl _
 | succ k ih=>
  by_cases h0:n=0
  . subst h0;rw [y89];exact Nat.zero_le _
  . rw [xxw h0,List.length_cons];exact Nat.succ_le_succ (ih (by rw [Nat.pow_succ] at h;omega))
theorem yah {n k:Nat} (h:(dig n).length<=k):n<1048576 ^ k:=by
 have h1:=yv9 (zkp n);rw [zcw] at h1;have h2:(1048576:Nat) ^ (dig n).length<=1048576 ^ k:=Nat.pow_le_pow_right (by decide) h
 have h3:((1048576 ^ (dig n).length:Nat):Int)=1048576 ^ (dig n).length:=by simp
 omega
theorem xax {m n:Nat} (h:m<=n):(dig m).length<=(dig n).length:=w9k (Nat.lt_of_le_of_lt h (yah (Nat.le_refl _)))
def whz (L:List Int):Nat->Nat
 | 0=>0
 | n+1=>if L.getD n 0=0 then whz L n else n+1
theorem wo2 (L:List Int):∀ n,whz L n<=n
 | 0=>Nat.le_refl _
 | n+1=>by unfold whz;split;exact Nat.le_succ_of_le (wo2 L n);exact Nat.le_refl _
def yd8 (L:List Int):List Int:=L.take (whz L L.length)
theorem v3s (L:List Int):(yd8 L).length=whz L L.length:=by
 have:=wo2 L L.length
 simp [yd8];omega
theorem wdp (L:List Int):∀ n,n<=L.length->norm (L.take (whz L n))/\num (L.take (whz L n))=num (L.take n)
 | 0,_=>by simp [whz,norm]
 | n+1,h=>by
  unfold whz
  split
  . rename_i h0;obtain ⟨h1,h2⟩:=wdp L n (by omega);refine ⟨h1,?_⟩;rw [h2,w0b,h0];simp
  . rename_i h0;refine ⟨fun _=>?_,rfl⟩;rw [show (L.take (n+1)).length-1=n by simp;omega,wcz (by omega)];exact h0
theorem zxw {L:List Int} (hd:digits L):yd8 L=dig (num L).toNat:=by
 have h:=wdp L L.length (Nat.le_refl _);rw [List.take_length] at h;exact v49 (hd.take _) h.1 h.2
theorem yny {L:List Int} {n:Int} (hd:digits L) (h:num L=n):yd8 L=dig n.toNat:=by rw [<-h];exact zxw hd
theorem w1w (n:Nat):yd8 (dig n)=dig n:=by rw [zxw (zkp n),zcw];rfl
theorem ya8 (L:List Int):(yd8 L).length<=L.length:=by rw [v3s];exact wo2 _ _
theorem v0i:∀(l:List Int) (n:Nat),num (l.drop n)=l.getD n 0+1048576*num (l.drop (n+1))
 | [],n=>by simp [num]
 | d::l,0=>by simp [num]
 | d::l,n+1=>by simpa using v0i l n
theorem xcn {l:List Int} {i:Nat} (x:Int) (h:i<l.length):(l.set i x).drop i=x::l.drop (i+1):=by
 rw [List.drop_set,if_neg (by omega),Nat.sub_self]
 cases hh:l.drop i with
 | nil=>have:=congrArg List.length hh;simp at this;omega
 | cons y r=>rw [List.set_cons_zero,<-List.drop_drop,hh];rfl
def ord (x y:Int):Int:=if x<y then -1 else if y<x then 1 else 0
theorem x9e {a b:List Int} (ha:digits a) (na:norm a) (hb:digits b) (nb:norm b) (h:a.length<b.length):num a<num b:=by
 rw [z7y ha na,z7y hb nb] at h
 have h1:¬(num b).toNat<=(num a).toNat:=fun h2=>by have:=xax h2;omega
 have:=num_nonneg ha
 omega
theorem zzj {a b:List Int} (ha:digits a) (hb:digits b) (hl:a.length=b.length) (i:Nat) (hi:i<a.length) (h:a.drop (i+1)=b.drop (i+1)) (hlt:a.getD i 0<b.getD i 0):num a<num b:=by
 rw [y3e a i,y3e b i,v0i a,v0i b,h];have h1:=yv9 (ha.take i);have h2:=num_nonneg (hb.take i)
 have e1:(a.take i).length=i:=by simp;omega
 have e2:(b.take i).length=i:=by simp;omega
 rw [e1] at h1 ⊢;rw [e2];have hp:=w7x i;generalize (1048576:Int) ^ i=P at *;generalize num (b.drop (i+1))=T;have h3:P*(a.getD i 0+1)<=P*b.getD i 0:=Int.mul_le_mul_of_nonneg_left (by omega) (by omega);rw [Int.mul_add,Int.mul_add];rw [Int.mul_add] at h3;omega
def fixd:Nat->Int->List Int
 | 0,_=>[]
 | n+1,z=>z % 1048576::fixd n (z / 1048576)
theorem z03:∀{l:List Int},digits l->l=fixd l.length (num l)
 | [],_=>rfl
 | d::l,h=>by
  have h1:=h.head;have h2:=z03 h.tail
  have e1:(d+1048576*num l) % 1048576=d:=by omega
  have e2:(d+1048576*num l) / 1048576=num l:=by omega
  simp only [List.length_cons,fixd,num,e1,e2];rw [<-h2]
theorem y48 {l:List Int} {n:Nat} {z:Int} (h:digits l) (hn:l.length=n) (hz:num l=z):l=fixd n z:=by rw [<-hn,<-hz];exact z03 h
theorem xyp:∀(n:Nat) (z:Int),(fixd n z).length=n
 | 0,_=>rfl
 | n+1,z=>by simp [fixd,xyp n]
theorem zd2:∀(n:Nat) (z:Int),digits (fixd n z)
 | 0,_=>digits.nil
 | n+1,z=>digits.cons (by omega) (zd2 n _)
theorem xnb:∀(n:Nat) (z:Int),0<=z->z<1048576 ^ n->num (fixd n z)=z
 | 0,z,h1,h2=>by simp at h2;simp [fixd,num];omega
 | n+1,z,h1,h2=>by
  rw [Int.pow_succ] at h2;simp only [fixd,num];rw [xnb n (z / 1048576) (by omega) (by omega)];omega
theorem xwz (n:Int):iand .i64 n 1048575=n % 1048576:=by
 unfold iand
 have h1:(BitVec.ofInt IntKind.i64.bits n &&&BitVec.ofInt IntKind.i64.bits 1048575).toNat=(n % 1048576).toNat:=by
  show (BitVec.ofInt 64 n &&&BitVec.ofInt 64 1048575).toNat=_;rw [BitVec.toNat_and,BitVec.toNat_ofInt,BitVec.toNat_ofInt]
  have:((1048575:Int) % ((2 ^ 64:Nat):Int)).toNat=2 ^ 20-1:=by decide
  rw [this,Nat.and_two_pow_sub_one_eq_mod];omega
 rw [h1,w64 (by omega)];omega
theorem and1 (n:Int):iand .i64 n 1=n % 2:=by
 unfold iand
 have h1:(BitVec.ofInt IntKind.i64.bits n &&&BitVec.ofInt IntKind.i64.bits 1).toNat=(n % 2).toNat:=by
  show (BitVec.ofInt 64 n &&&BitVec.ofInt 64 1).toNat=_;rw [BitVec.toNat_and,BitVec.toNat_ofInt,BitVec.toNat_ofInt]
  have:((1:Int) % ((2 ^ 64:Nat):Int)).toNat=2 ^ 1-1:=by decide
  rw [this,Nat.and_two_pow_sub_one_eq_mod];omega
 rw [h1,w64 (by omega)];omega
theorem w6w (n:Int):ishr .i64 n 20=n / 1048576:=by
 unfold ishr
 have:(2:Int) ^ (min (20:Int).toNat IntKind.i64.bits)=1048576:=by decide
 rw [this,Int.fdiv_eq_ediv_of_nonneg _ (by decide)]
theorem zuy {n:Int} (h:-8796093022208<=n/\n<8796093022208):ishl .i64 n 20=n*1048576:=by
 unfold ishl
 have:(2:Int) ^ (min (20:Int).toNat IntKind.i64.bits)=1048576:=by decide
 rw [this,w64 (by omega)]
theorem or20 {a d:Int} (ha:0<=a/\a<8796093022208) (hd:0<=d/\d<=1048575):ior .i64 (a*1048576) d=a*1048576+d:=by
 unfold ior
 have h1:(BitVec.ofInt IntKind.i64.bits (a*1048576) |||BitVec.ofInt IntKind.i64.bits d).toNat=(a*1048576+d).toNat:=by
  show (BitVec.ofInt 64 (a*1048576) |||BitVec.ofInt 64 d).toNat=_;rw [BitVec.toNat_or,BitVec.toNat_ofInt,BitVec.toNat_ofInt]
  have e1:((a*1048576) % ((2 ^ 64:Nat):Int)).toNat=a.toNat <<< 20:=by rw [Nat.shiftLeft_eq];omega
  have e2:(d % ((2 ^ 64:Nat):Int)).toNat=d.toNat:=by omega
  rw [e1,e2,<-Nat.shiftLeft_add_eq_or_of_lt (by omega),Nat.shiftLeft_eq];omega
 rw [h1,w64 (by omega)];omega
end Go.Slot
namespace Go.Slot
open Go Go.RowKit
theorem xkb (l:List Int) (n:Nat) (hn:2<=n) (hl:l.length=n):num l=(l.getD (n-1) 0*1048576+l.getD (n-2) 0)*1048576 ^ (n-2)+num (l.take (n-2)):=by
 obtain ⟨m,rfl⟩:∃ m,n=m+2:=⟨n-2,by omega⟩;have h1:=w0b l (m+1);have h2:=w0b l m;rw [vbl (by omega)] at h1;rw [h1,h2,show m+2-1=m+1 by omega,show m+2-2=m by omega,Int.pow_succ]
 grind
theorem xhj (l:List Int) (n:Nat) (hn:2<=n) (hl:l.length=n+1) :
 num l=((l.getD n 0*1048576+l.getD (n-1) 0)*1048576+l.getD (n-2) 0)*1048576 ^ (n-2)+num (l.take (n-2)):=by
 obtain ⟨m,rfl⟩:∃ m,n=m+2:=⟨n-2,by omega⟩;have h1:=w0b l (m+2);have h2:=w0b l (m+1);have h3:=w0b l m;rw [vbl (by omega)] at h1;rw [h1,h2,h3,show m+2-1=m+1 by omega,show m+2-2=m by omega,Int.pow_succ,Int.pow_succ]
 grind
section
variable {W V P t u2 v1 v2 w0 v0 g rest:Int}
theorem vcr (hP:0<P) (hW:W=(t*1048576+u2)*P+w0) (hw:w0<P) (hu:u2<=1048575) (hV:V=(v1*1048576+v2)*P+v0) (hv0:0<=v0) (hv2:0<=v2) (hg:t+1<=(g+1)*v1) (hg0:0<=g):W<(g+1)*V:=by
 have h1:(t+1)*1048576*P<=(g+1)*v1*1048576*P:=Int.mul_le_mul_of_nonneg_right (Int.mul_le_mul_of_nonneg_right hg (by decide)) (Int.le_of_lt hP);have h2:0<=(g+1)*(v2*P+v0):=Int.mul_nonneg (by omega) (Int.add_nonneg (Int.mul_nonneg hv2 (Int.le_of_lt hP)) hv0);have h3:u2*P<=1048575*P:=Int.mul_le_mul_of_nonneg_right hu (Int.le_of_lt hP)
 have e1:(g+1)*V=(g+1)*v1*1048576*P+(g+1)*(v2*P+v0):=by rw [hV];grind
 have e2:(t*1048576+u2)*P=(t+1)*1048576*P-1048576*P+u2*P:=by grind
 omega
theorem wun (hP:0<P) (hW:W=(t*1048576+u2)*P+w0) (hw:w0<P) (hV:V=(v1*1048576+v2)*P+v0) (hv0:0<=v0) (hg0:0<=g) (ht:t=g*v1+rest) (hc:rest*1048576+u2<g*v2):W<g*V:=by
 have h1:(t*1048576+u2+1)*P<=g*(v1*1048576+v2)*P:=by
  apply Int.mul_le_mul_of_nonneg_right _ (Int.le_of_lt hP)
  have:g*(v1*1048576+v2)=g*v1*1048576+g*v2:=by grind
  omega
 have h2:0<=g*v0:=Int.mul_nonneg hg0 hv0
 have e1:g*V=g*(v1*1048576+v2)*P+g*v0:=by rw [hV];grind
 have e2:(t*1048576+u2+1)*P=(t*1048576+u2)*P+P:=by grind
 omega
theorem xr7 (hP:0<P) (hW:W=(t*1048576+u2)*P+w0) (hw:0<=w0) (hu2:0<=u2) (hV:V=(v1*1048576+v2)*P+v0) (hv0:v0<P) (hv1:1<=v1) (hv2:0<=v2/\v2<=1048575) (hV0:0<V) (hW0:0<=W) (hg0:0<=g) (hg1:g<=1048575) (ht:t=g*v1+rest)
 (hc:1048576<=rest\/g*v2<=rest*1048576+u2):(g-1)*V<=W:=by
 by_cases h0:g=0
 . subst h0
   have:(0-1)*V = - V:=by grind
   omega
 have hg:0<=g-1:=by omega
 have hb:(g-1)*(v1*1048576+v2+1)<=t*1048576+u2:=by
  have e:(g-1)*(v1*1048576+v2+1)=g*v1*1048576+g*v2+g-v1*1048576-v2-1:=by grind
  rcases hc with hc | hc
  . have h1:g*v2<=g*1048575:=Int.mul_le_mul_of_nonneg_left hv2.2 hg0;rw [e,ht]
    have:(g*v1+rest)*1048576=g*v1*1048576+rest*1048576:=by grind
    omega
  . rw [e,ht]
    have:(g*v1+rest)*1048576=g*v1*1048576+rest*1048576:=by grind
    omega
 have h1:(g-1)*(v1*1048576+v2+1)*P<=(t*1048576+u2)*P:=Int.mul_le_mul_of_nonneg_right hb (Int.le_of_lt hP);have h2:(g-1)*v0<=(g-1)*P:=Int.mul_le_mul_of_nonneg_left (Int.le_of_lt hv0) hg
 have e1:(g-1)*V=(g-1)*(v1*1048576+v2+1)*P-(g-1)*P+(g-1)*v0:=by rw [hV];grind
 omega
end
theorem ycj {l:List Int} (hd:digits l) (hn:norm l) (h:l≠[]):1048576 ^ (l.length-1)<=num l:=by
 have hp:0<l.length:=List.length_pos_iff.2 h;have h1:=w0b l (l.length-1);rw [vbl (by omega)] at h1;have h2:=num_nonneg (hd.take (l.length-1));have h3:=hn h;have h4:=hd.getD (l.length-1);have h5:=Int.mul_le_mul_of_nonneg_left (show (1:Int)<=l.getD (l.length-1) 0 by omega) (Int.le_of_lt (w7x (l.length-1)));rw [Int.mul_one] at h5;omega
theorem vp1 (w:List Int) (i k:Nat) (h:i+k<=w.length):num w=num (w.take i)+1048576 ^ i*num ((w.drop i).take k)+1048576 ^ (i+k)*num (w.drop (i+k)):=by
 have h1:=y3e w i;have h2:=y3e (w.drop i) k
 have e1:(w.take i).length=i:=by simp;omega
 have e2:((w.drop i).take k).length=k:=by simp;omega
 rw [e1] at h1;rw [e2,List.drop_drop] at h2;rw [h1,h2,Int.pow_add]
 grind
theorem vsg (w d:List Int) (i k:Nat) (h:i+k<=w.length) (hd:d.length=k):num (w.take i++d++w.drop (i+k))=num (w.take i)+1048576 ^ i*num d+1048576 ^ (i+k)*num (w.drop (i+k)):=by
 have e1:(w.take i).length=i:=by simp;omega
 rw [xa3,xa3,List.length_append,e1,hd]
theorem wbj {a b s q w:Int} (hs:0<s) (hb:0<b) (he:a*s=b*s*q+w) (h0:0<=w) (h1:w<b*s):a / b=q/\a % b=w / s:=by
 have hbs:0<b*s:=Int.mul_pos hb hs
 have hq:a / b=q:=by
  rw [<-Int.mul_ediv_mul_of_pos_left a b hs,he,Int.add_comm,Int.add_mul_ediv_left _ _ (by omega),Int.ediv_eq_zero_of_lt h0 h1];omega
 refine ⟨hq,?_⟩;have h2:=Int.emod_add_mul_ediv a b;rw [hq] at h2
 have h3:w=(a % b)*s:=by
  have:(a % b+b*q)*s=b*s*q+w:=by rw [h2];exact he
  have h4:(a % b+b*q)*s=a % b*s+b*s*q:=by grind
  omega
 rw [h3,Int.mul_ediv_cancel _ (by omega)]
theorem x39 {l:List Int} {i n k:Nat} (h:k<n):((l.drop i).take n).getD k 0=l.getD (i+k) 0:=by
 rw [wcz h,List.getD_eq_getElem?_getD,List.getElem?_drop,List.getD_eq_getElem?_getD]
def sg (z:Int):Int:=if z<0 then -1 else if 0<z then 1 else 0
theorem x80 {z:Int} (h:0<z):sg z=1:=by unfold sg;rw [if_neg (by omega),if_pos h]
theorem xk9 {z:Int} (h:z<0):sg z = -1:=by unfold sg;rw [if_pos h]
theorem y0c:sg 0=0:=rfl
theorem vvv (z:Int):(z<0/\sg z = -1)\/(z=0/\sg z=0)\/(0<z/\sg z=1):=by
 rcases Int.lt_trichotomy z 0 with h | h | h
 . exact .inl ⟨h,xk9 h⟩
 . exact .inr (.inl ⟨h,by rw [h];rfl⟩)
 . exact .inr (.inr ⟨h,x80 h⟩)
def zC (z:Int):List Cell:=[.raw (.int .i64 (sg z)),.ints .i64 (dig z.natAbs)]
def wd7 (s:Int) (L:List Int):Prop:=digits L/\((L=[]/\s=0)\/(L≠[]/\(s=1\/s = -1)/\L.getD (L.length-1) 0≠0))
instance (s:Int) (L:List Int):Decidable (wd7 s L):=inferInstanceAs (Decidable (_/\_))
theorem whj (s:Int) (L:List Int):wd7 s L↔∃ z:Int,s=sg z/\L=dig z.natAbs:=by
 constructor
 . rintro ⟨hd,⟨rfl,rfl⟩ | ⟨hne,hs,htop⟩⟩
   . exact ⟨0,rfl,by rw [show (0:Int).natAbs=0 from rfl,y89]⟩
   . have hn:norm L:=fun _=>htop
     have hp:=norm.pos hd hn hne
     rcases hs with rfl | rfl
     . exact ⟨num L,(x80 hp).symm,by rw [show (num L).natAbs=(num L).toNat by omega];exact z7y hd hn⟩
     . exact ⟨-num L,(xk9 (by omega)).symm,by rw [show (-num L).natAbs=(num L).toNat by omega];exact z7y hd hn⟩
 . rintro ⟨z,rfl,rfl⟩;refine ⟨zkp _,?_⟩
   rcases vvv z with ⟨h,e⟩ | ⟨h,e⟩ | ⟨h,e⟩
   . exact .inr ⟨fun h'=>by have:=xzb.1 h';omega,.inr e,vvr _ (fun h'=>by have:=xzb.1 h';omega)⟩
   . exact .inl ⟨by rw [h,show (0:Int).natAbs=0 from rfl,y89],e⟩
   . exact .inr ⟨fun h'=>by have:=xzb.1 h';omega,.inl e,vvr _ (fun h'=>by have:=xzb.1 h';omega)⟩
theorem zzb (z:Int):wd7 (sg z) (dig z.natAbs):=(whj _ _).2 ⟨z,rfl,rfl⟩
def fits (k:Nat) (z:Int):Prop:=(dig z.natAbs).length<=k
theorem ytb (z:Int):num (dig z.natAbs)=z.natAbs:=zcw _
theorem vwt (a b:Nat):(dig (a+b)).length<=max (dig a).length (dig b).length+1:=by
 apply w9k;have h1:=yah (n:=a) (k:=max (dig a).length (dig b).length) (Nat.le_max_left _ _);have h2:=yah (n:=b) (k:=max (dig a).length (dig b).length) (Nat.le_max_right _ _);rw [Nat.pow_succ];omega
theorem zjf (a b:Nat):(dig (a*b)).length<=(dig a).length+(dig b).length:=by
 apply w9k;rw [Nat.pow_add];have h1:=yah (n:=a) (Nat.le_refl _);have h2:=yah (n:=b) (Nat.le_refl _);exact Nat.mul_lt_mul_of_lt_of_lt h1 h2
theorem x1u (x y:Int):(dig (x+y).natAbs).length<=max (dig x.natAbs).length (dig y.natAbs).length+1:=
 Nat.le_trans (xax (by omega)) (vwt x.natAbs y.natAbs)
theorem z9n (x y:Int):(dig (x*y).natAbs).length<=(dig x.natAbs).length+(dig y.natAbs).length:=by
 rw [Int.natAbs_mul];exact zjf _ _
theorem yby {x y q r:Int} (h:x=y*q+r) (h0:0<=r) (h1:r<y):x / y=q/\x % y=r:=by
 rw [h,Int.add_comm];refine ⟨?_,?_⟩
 . rw [Int.add_mul_ediv_left _ _ (by omega),Int.ediv_eq_zero_of_lt h0 h1];omega
 . rw [Int.add_mul_emod_self_left,Int.emod_eq_of_lt h0 h1]
theorem zzt {s z:Int} (h:(s=1/\0<=z)\/(s = -1/\z<=0)\/z=0):[Cell.raw (.int .i64 (if yd8 (dig z.natAbs)=[] then 0 else s)),Cell.ints .i64 (yd8 (dig z.natAbs))]=zC z:=by
 rw [w1w];unfold zC;by_cases h0:z=0
 . subst h0;rw [if_pos (by rw [show (0:Int).natAbs=0 from rfl,y89])];rfl
 . rw [if_neg (fun h'=>by have:=xzb.1 h';omega)]
   rcases h with ⟨rfl,h⟩ | ⟨rfl,h⟩ | h
   . rw [x80 (by omega)]
   . rw [xk9 (by omega)]
   . exact absurd h h0
theorem zab (x y:Int) (h:sg x≠sg y):ord (sg x) (sg y)=ord x y:=by
 rcases vvv x with ⟨h1,e1⟩ | ⟨h1,e1⟩ | ⟨h1,e1⟩<;>rcases vvv y with ⟨h2,e2⟩ | ⟨h2,e2⟩ | ⟨h2,e2⟩<;>rw [e1,e2] at h ⊢<;>unfold ord<;>first | (exact absurd rfl h) | (repeat' split)<;>omega
theorem wgu (x y:Int) (h:sg x=sg y):sg x*ord (num (dig x.natAbs)) (num (dig y.natAbs))=ord x y:=by
 rw [ytb,ytb]
 rcases vvv x with ⟨h1,e1⟩ | ⟨h1,e1⟩ | ⟨h1,e1⟩<;>rcases vvv y with ⟨h2,e2⟩ | ⟨h2,e2⟩ | ⟨h2,e2⟩<;>rw [e1] at h ⊢<;>rw [e2] at h<;>first | omega | (unfold ord;(repeat' split)<;>omega)
end Go.Slot
